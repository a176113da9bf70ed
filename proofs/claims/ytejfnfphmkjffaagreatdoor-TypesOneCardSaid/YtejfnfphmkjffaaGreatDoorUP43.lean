/-
  A part of the proof. Conditions: none.
-/
import Derived.Test.YtejfnfphmkjffaaGreatDoorUP40
set_option linter.unusedSimpArgs false
set_option linter.unusedVariables false
open Bool renaming not_true->Gh,not_false->Gi,true_and->Gj,false_and->Gn,false_or->Gr,true_or->Gy,and_false->GG,or_false->GL,and_eq_true_iff->G9,eq_iff_iff->Hq,or_true->Hr
open List renaming getD_eq_getElem?_getD->Gm,drop_zero->Gf,map_cons->Gc,getElem?_eq_getElem->Gp,length_cons->Gg,map_nil->Gd,range->Ga,drop_eq_nil_of_le->Gs,append_nil->Gq,take_of_length_le->Gu,length_nil->Gt,length_append->Gv,length_filter_le->Gz,getElem_mem->Gw,drop_eq_getElem_cons->GM,any_cons->Gx,take_succ_eq_append_getElem->GZ,nil_append->GA,find?_cons->GH,find?_nil->GI,drop_succ_cons->GR,any_nil->GD,set_cons_zero->GU,set_cons_succ->GV,mem_of_mem_drop->G5,mem_filter->GX,replicate->GY,length_take->G6,cons_append->G7,length_pos_of_mem->Ha,length_mergeSort->Hd,length_range->He,range_succ->Hf,mem_append->Hg,contains_eq_any_beq->Ht,take->G8,mem_of_getElem?->Hu,length_reverse->Hw,mergeSort_nil->Hy,filter_append->Hz,contains_cons->HV,contains_nil->HY,length_drop->HZ,filter_cons->H5,drop_length->H6,map_append->H7,length_map->H8,filter_nil->H9,map_set->La,length->Lb
open Go.Proofs.Tryz renaming prog->Gb
open Int renaming toNat_natCast->Gl,le_refl->GJ,lt_or_le->Lc
open Nat renaming le_trans->GK,zero_add->GN,le_refl->GQ,add_zero->Hl,mul_le_mul_right->Ld,one_mul->Hm,add_mul->Ho,le_add_right->Le,mul_le_mul->Lf
noncomputable section
section
set_option maxRecDepth 100000
set_option maxHeartbeats 4000000
open Go.Proofs
namespace Go.Cm
section
theorem kbE {k m:Nat}:((k:Int) == no_index (@OfNat.ofNat Int m _))=(k == m):=by
 rw[Hq,beq_iff_eq,beq_iff_eq];exact Int.ofNat_inj
theorem kbN {k m:Nat}:((k:Int) != no_index (@OfNat.ofNat Int m _)) = !(k == m):=by rw[bne,kbE]
def tRw (t:Tr):List CV:=[.rslc 5 (ndz t.nodes) none,.rslc 1 (iz t.items) none,.rslc 1 (iz (upT t)) none,.rslc 1 (iz (Jds t)) none]
theorem JdN {t:Tr}(ht:t.Fit){i:Nat}(hi:i<t.nodes.length):(nd t i).Fit:=ht.nodes _ (by unfold nd;rw[Gm,Gp hi];exact Gw hi)
theorem JY {t:Tr}{i:Nat}(h:i<t.nodes.length):(ndz t.nodes).getD i []=(nd t i).cv:=Qu h
theorem upz {t:Tr}{i:Nat}(h:i<t.nodes.length):(iz (upT t)).getD i []=[.int .i64 (Kh t i)]:=by rw[JN (by rw[JdT];exact h),upT_get h]
theorem itz {t:Tr}{i:Nat}(h:i<t.nodes.length):(iz (Jds t)).getD i []=[.int .i64 (Qz t i)]:=by rw[JN (by rw[Jcg];exact h),itemT_get h]
theorem Qs {t:Tr}:(iz (upT t)).length=t.nodes.length:=by rw[Jg,JdT]
theorem itz_len {t:Tr}:(iz (Jds t)).length=t.nodes.length:=by rw[Jg,Jcg]
theorem nKind (t:Tr){i:Nat}(hi:i<t.nodes.length):Fn Gb 89 [.rptr (tRw t),.int .i64 (i:Int)] (.int .u8 ((nd t i).k:Int)):=by
 have hg:=JY hi;refine Jc c89_ok rfl rfl λN=>?_
 simp -implicitDefEqProofs only[c89,go_sem,tRw,Jb,hg,Nd.cv];omega
theorem nInside (t:Tr){i:Nat}(hi:i<t.nodes.length):Fn Gb 174 [.rptr (tRw t),.int .i64 (i:Int)] (.bool (!((nd t i).k == 43))):=by
 refine Jc c174_ok rfl rfl λN=>?_
 simp -implicitDefEqProofs only[c174,go_sem];refine J6 (nKind t hi) ?_;simp -implicitDefEqProofs only[go_sem,kbN]
def bz (l:List Nat):List (List CV):=l.map λi:Nat=>[.int .u8 (i:Int)]
theorem bz_len {l:List Nat}:(bz l).length=l.length:=by simp[bz]
theorem bz_get {l:List Nat}{i:Nat}(h:i<l.length):(bz l).getD i []=[.int .u8 (l.getD i 0:Nat)]:=by
 simp[bz,Gm,Gp h]
theorem bz_closed:∀(l:List Nat),Jr (bz l)=true
 |[]=>rfl
 |x::l=>by simp[bz,Jr,Jp,CV.closed];exact bz_closed l
theorem indexB (l:List Nat)(x:Nat)(hl:l.length<=100000):Fn Gb 173 [.rslc 1 (bz l) none,.int .u8 (x:Int)] (.int .i64 (XI (λy=>x == y) l 0)):=by
 have Ak:(bz l).length=l.length:=bz_len;have jh:=bz_closed l;refine Jc c173_ok rfl rfl λN=>?_
 simp -implicitDefEqProofs only[c173,go_sem,Ak];refine JI (I:=λi:Nat=>i<=l.length/\XI (λy=>x == y) l 0=XI (λy=>x == y) (l.drop i) i) (inv:=λi=>gp [(0,.rslc 1 (bz l) none),(0,.int .u8 x),(5,.int .i64 (l.length:Int)),(0,.int .i64 (i:Int))] 10) (hp:=λ_=>[]) (μ:=λi=>l.length-i) 0 ⟨by omega,rfl⟩ ?_ rfl ?_
 ·simp[forget,gp]
 ·rintro i ⟨hi,Aa⟩;by_cases Ab:i<l.length
  ·have d1:((i:Int)<(l.length:Int))=True:=Jq;have Av:=bz_get Ab;have Ci:l[i]? = some (l.getD i 0):=by rw[Gm,Gp Ab];rfl
   rw[Q6 Ci]at Aa;have en:=Jdq (l.getD i 0) x;simp -implicitDefEqProofs only[go_sem,Ak,d1,Av,en];generalize l.getD i 0=y at Aa|-;refine anO ?_
   cases he:(x == y) with
   |true=>
    rw[he,if_pos rfl]at Aa;simp -implicitDefEqProofs only[go_sem,Aa]
   |false=>
    rw[he]at Aa;simp -implicitDefEqProofs only[go_sem];refine⟨Jh,i+1,⟨by omega,by simpa using Aa⟩,by omega,?_⟩;simp[forget]
  ·have d1:((i:Int)<(l.length:Int))=False:=Jo;rw[Gs (by omega)]at Aa;simp -implicitDefEqProofs only[go_sem,d1,Aa,XI]
theorem containsB (l:List Nat)(x:Nat)(hl:l.length<=100000):Fn Gb 146 [.rslc 1 (bz l) none,.int .u8 (x:Int)] (.bool (l.contains x)):=by
 refine Jc c146_ok rfl rfl λN=>?_
 simp -implicitDefEqProofs only[c146,go_sem];refine J6 (indexB l x hl) ?_;have e:decide (0<=XI (λy=>x == y) l 0)=l.contains x:=by rw[Jaf,Ht]
 simp -implicitDefEqProofs only[go_sem,e]
theorem nIsDecl (t:Tr){i:Nat}(hi:i<t.nodes.length):Fn Gb 117 [.rptr (tRw t),.int .i64 (i:Int)] (.bool (KI (nd t i).k)):=by
 have e:[65,64,42,43,47].contains (nd t i).k=KI (nd t i).k:=by
  simp only[HV,HY,GL,KI,Bool.or_assoc]
 refine Jc c117_ok rfl rfl λN=>?_
 simp -implicitDefEqProofs only[c117,go_sem];refine Jd (id:=0) (z:=1) (els:=bz [65,64,42,43,47]) rfl rfl ?_;simp only[go_sem,JX,Ku,frz,Qa,bz,Gc,Gd,Gg,Gt,Gf,List.take_succ_cons,List.take_zero];refine J6 (nKind t hi) ?_;simp -implicitDefEqProofs only[go_sem];refine J6 (containsB [65,64,42,43,47] _ (by simp)) ?_;simp -implicitDefEqProofs only[go_sem,e]
section
variable {t:Tr}{o:List Int}(g:GoodT t o)
include g
theorem nBelow {j0 a:Nat}(fJ:j0<t.nodes.length)(ha:a<t.nodes.length):Fn Gb 147 [.rptr (tRw t),.int .i64 (j0:Int),.int .i64 (a:Int)] (.bool (JbC o j0 a)):=by
 refine Jc c147_ok rfl rfl λN=>?_
 simp -implicitDefEqProofs only[c147,go_sem];refine JI (σ:=Int) (I:=λv=>(v = -1/\JbC o j0 a=false)\/∃j:Nat,v=j/\j<t.nodes.length/\JbC o j0 a=JbC o j a) (inv:=λv=>gp [(0,.rptr (tRw t)),(0,.int .i64 v),(0,.int .i64 (a:Int))] 21) (hp:=λ_=>[]) (μ:=λv=>if v<0 then 0 else t.nodes.length-v.toNat+1) (j0:Int) (.inr ⟨j0,rfl,fJ,rfl⟩) ?_ rfl ?_
 ·simp[forget,gp]
 ·rintro v (⟨rfl,hb⟩|⟨j,rfl,hj,hb⟩)
  ·have e1:(((-1:Int)) != -1)=false:=by decide
   have e2:((-1:Int) == (a:Int))=false:=beq_eq_false_iff_ne.2 (by omega);simp -implicitDefEqProofs only[go_sem,e1,e2,hb]
  ·have e1:((j:Int) != -1)=true:=bne_iff_ne.2 (by omega);by_cases he:j=a
   ·subst he;have e2:((j:Int) != (j:Int))=false:=by simp
    have e3:((j:Int) == (j:Int))=true:=by simp
    have e4:=QL.2 (Jcu g hj);simp -implicitDefEqProofs only[go_sem,e1,e2,e3,hb,e4]
   ·have e2:((j:Int) != (a:Int))=true:=bne_iff_ne.2 (by omega);have hp:=par_rng g hj;have hu:=blw_up g hj ha he;simp -implicitDefEqProofs only[go_sem,e1,e2,tRw,Qs,upz hj];refine⟨by omega,Kh t j,?_,?_,?_⟩
    ·rcases Xa g hj with ⟨h,_⟩|⟨m,h,h1,h2,_⟩
     ·rw[h,if_pos (by decide)]at hu;exact .inl ⟨h,by rw[hb,hu]⟩
     ·rw[h,iN7,Gl]at hu;exact .inr ⟨m,h,h2,by rw[hb,hu]⟩
    ·rcases Xa g hj with ⟨h,_⟩|⟨m,h,h1,h2,_⟩
     ·show (if Kh t j<0 then 0 else _)<(if (j:Int)<0 then 0 else _);rw[h,if_pos (by decide),iN7];omega
     ·rw[h,iN7,iN7];omega
    ·simp[forget]
theorem lastz {m:Nat}(hm:m<t.nodes.length)(Ad:0<(nd t m).kids.length):(iz (nd t m).kids).getD ((nd t m).kids.length-1) []=[.int .i64 (Jl t m:Int)]:=by
 rw[JN (by omega)];have h4:(nd t m).kids.getD ((nd t m).kids.length-1) 0∈(nd t m).kids:=by
  rw[Gm,Gp (by omega)];exact Gw _
 have h5:=(g.kid hm h4).1;have:((Jl t m:Nat):Int)=(nd t m).kids.getD ((nd t m).kids.length-1) 0:=by unfold Jl;omega
 rw[this]
theorem nLate (ht:t.Fit){a0 s:Nat}(hs:s<t.nodes.length)(hk:(nd t s).k=41)(En:blw o a0 (Jl t s)):Fn Gb 148 [.rptr (tRw t),.int .i64 (a0:Int),.int .i64 (s:Int)] (.bool (buL t (upL t (Jl t s) t.nodes.length a0) false)):=by
 have Bl:=(set_kid g hs hk).1;have Dz:Jl t s<t.nodes.length:=by have:=(JQ g hs Bl).2;omega
 generalize hR:buL t (upL t (Jl t s) t.nodes.length a0) false=R;refine Jc c148_ok rfl rfl λN=>?_
 simp -implicitDefEqProofs only[c148,go_sem];refine JI (σ:=Nat×Bool) (I:=λs'=>blw o s'.1 (Jl t s)/\∃f,t.nodes.length<=s'.1+f/\R=buL t (upL t (Jl t s) f s'.1) s'.2) (inv:=λs'=>gp [(0,.rptr (tRw t)),(1,.int .i64 (s:Int)),(4,.bool s'.2),(0,.int .i64 (s'.1:Int))] 64) (hp:=λ_=>[]) (μ:=λs'=>t.nodes.length-s'.1) (a0,false) ⟨En,t.nodes.length,by omega,hR.symm⟩ ?_ rfl ?_
 ·simp[forget,gp]
 ·rintro⟨a,late⟩ ⟨hb,f,hf,Aa⟩
  dsimp only at hb hf Aa
  have ha:a<t.nodes.length:=by have:=hb.1;omega
  rcases late_step g (late:=late) hs Bl hb hf with ⟨he,hp⟩|⟨Ah,m,f',hp,jd,Pn,hm,gP,Dk,gy,Au⟩
  ·have e1:((s:Int) != (s:Int))=false:=by simp
   subst he;rw[late_end]at Aa;simp -implicitDefEqProofs only[go_sem,tRw,Qs,upz ha,hp,e1,Aa];omega
  ·have e1:((m:Int) != (s:Int))=true:=bne_iff_ne.2 (by omega);have hg:=JY hm;rw[Au]at Aa;have Ad:0<(nd t m).kids.length:=Ha Dk;have Ay:(iz (nd t m).kids).length=(nd t m).kids.length:=Jg;have A9:=lastz g hm Ad;have BJ:(nd t m).kids.length<9223372036854775807:=by have:=(JdN ht hm).kidn;omega
   simp -implicitDefEqProofs only[go_sem,tRw,Qs,upz ha,hp,e1,Jb,hg,Nd.cv];refine⟨by omega,by omega,by omega,?_⟩;refine J6 (nKind t hm) ?_;have fin:∀late',late'=JcF t m a late->(blw o m (Jl t s)/\∃f,t.nodes.length<=m+f/\R=buL t (upL t (Jl t s) f m) late'):=λlate' h=>⟨gP,f',gy,by rw[h];exact Aa⟩
   have en:=Jdq (Jl t m) a;by_cases h4:(nd t m).k=4
   ·have Al:JcF t m a late=true:=by unfold JcF;rw[if_pos h4]
    simp -implicitDefEqProofs only[go_sem,kbE,h4,Qs,upz ha,hp];refine⟨by omega,(m,true),fin true Al.symm,by simp only;omega,?_⟩;simp[forget]
   ·have b4:((nd t m).k == 4)=false:=beq_eq_false_iff_ne.2 h4;by_cases h5:(nd t m).k=46\/(nd t m).k=47
    ·have Al:JcF t m a late=(late || a == Jl t m):=by unfold JcF;rw[if_neg h4,if_pos h5]
     have b5:((nd t m).k == 46)=true\/((nd t m).k == 46)=false/\((nd t m).k == 47)=true:=by
      rcases h5 with h|h <;> simp[h]
     rcases b5 with b5|⟨b5,b6⟩
     ·cases late with
      |true=>
       simp -implicitDefEqProofs only[go_sem,kbE,b4,b5,Qs,upz ha,hp];refine⟨by omega,(m,true),fin true (by rw[Al];rfl),by simp only;omega,?_⟩;simp[forget]
      |false=>
       simp -implicitDefEqProofs only[go_sem,kbE,b4,b5,Qs,upz ha,hp,Ay,A9,en];refine⟨Jh,by omega,by omega,(m,a == Jl t m),fin _ (by rw[Al];rfl),by simp only;omega,?_⟩;simp[forget]
     ·cases late with
      |true=>
       simp -implicitDefEqProofs only[go_sem,kbE,b4,b5,b6,Qs,upz ha,hp];refine⟨by omega,(m,true),fin true (by rw[Al];rfl),by simp only;omega,?_⟩;simp[forget]
      |false=>
       simp -implicitDefEqProofs only[go_sem,kbE,b4,b5,b6,Qs,upz ha,hp,Ay,A9,en];refine⟨Jh,by omega,by omega,(m,a == Jl t m),fin _ (by rw[Al];rfl),by simp only;omega,?_⟩;simp[forget]
    ·have b5:((nd t m).k == 46)=false:=beq_eq_false_iff_ne.2 λh=>h5 (.inl h)
     have b6:((nd t m).k == 47)=false:=beq_eq_false_iff_ne.2 λh=>h5 (.inr h)
     by_cases h7:(nd t m).k=28
     ·have b7:((nd t m).k == 28)=true:=by simp[h7]
      have Al:JcF t m a late=(late && (nd t a).k == 43):=by unfold JcF;rw[if_neg h4,if_neg h5,if_pos h7]
      cases late with
      |true=>
       simp -implicitDefEqProofs only[go_sem,kbE,b4,b5,b6,b7];refine Kb (gok rfl) (nInside t ha) ?_;simp -implicitDefEqProofs only[go_sem,Qs,upz ha,hp,Bool.not_not];refine⟨by omega,(m,(nd t a).k == 43),fin _ (by rw[Al];rfl),by simp only;omega,?_⟩;simp[forget]
      |false=>
       simp -implicitDefEqProofs only[go_sem,kbE,b4,b5,b6,b7,Qs,upz ha,hp];refine⟨by omega,(m,false),fin _ (by rw[Al];rfl),by simp only;omega,?_⟩;simp[forget]
     ·have b7:((nd t m).k == 28)=false:=beq_eq_false_iff_ne.2 h7;have Al:JcF t m a late=late:=by unfold JcF;rw[if_neg h4,if_neg h5,if_neg h7]
      simp -implicitDefEqProofs only[go_sem,kbE,b4,b5,b6,b7,Qs,upz ha,hp];refine⟨by omega,(m,late),fin _ Al.symm,by simp only;omega,?_⟩;simp[forget]
end
end
theorem kidsK_take {t:Tr}{u k i:Nat}(h:i<(nd t u).kids.length):((nd t u).kids.take (i+1)).filter (λc=>Jv t.nodes c == k)=((nd t u).kids.take i).filter (λc=>Jv t.nodes c == k)++if Jv t.nodes ((nd t u).kids.getD i 0) == k then [(nd t u).kids.getD i 0] else []:=by
 rw[GZ h,Hz,Gm,Gp h,Option.getD_some,H5,H9]
theorem kids_len_le {t:Tr}{u k i:Nat}:(((nd t u).kids.take i).filter (λc=>Jv t.nodes c == k)).length<=(nd t u).kids.length:=
 GK (Gz _ _) (by rw[G6];omega)
theorem nKids (t:Tr)(ht:t.Fit){u:Nat}(hu:u<t.nodes.length)(hK:∀k∈(nd t u).kids,0<=k/\k<t.nodes.length)(k:Nat):Jdu Gb 115 [.rptr (tRw t),.int .i64 (u:Int),.int .u8 (k:Int)] 1 (iz (Xf t u k)):=by
 have hg:=JY hu;have BJ:=(JdN ht hu).kidn;have Ay:(iz (nd t u).kids).length=(nd t u).kids.length:=Jg;refine JdL (J8 c115_ok λN=>?_) rfl (Je _);simp -implicitDefEqProofs only[c115,go_sem,tRw,Jb,hg,Nd.cv,Ay];refine anO ?_;refine XW ?_;simp only[go_sem,GA];generalize hF:(λc=>Jv t.nodes c == k)=F;refine Jw (I:=λi:Nat=>i<=(nd t u).kids.length) (inv:=λi=>gp [(0,.rptr (tRw t)),(1,.int .u8 (k:Int)),(3,K6 0 (iz (((nd t u).kids.take i).filter F))),(10,.rslc 1 (iz (nd t u).kids) none),(0,.int .i64 ((nd t u).kids.length:Int)),(0,.int .i64 (i:Int))] 14) (hp:=λi=>[QO 1 (iz (((nd t u).kids.take i).filter F))]) (μ:=λi=>(nd t u).kids.length-i) 0 [0] (by omega) rfl ?_ rfl ?_
 ·simp[forget,JB,ren,gp,tRw,iz,K6]
 ·intro i hi;by_cases Ab:i<(nd t u).kids.length
  ·have d1:((i:Int)<((nd t u).kids.length:Int))=True:=Jq;have Av:=JN Ab;have CE:=kidsK_take (k:=k) Ab;have AZ:=kids_len_le (t:=t) (u:=u) (k:=k) (i:=i);have AB:(nd t u).kids.getD i 0∈(nd t u).kids:=by rw[Gm,Gp Ab];exact Gw Ab
   have hb:=hK _ AB;rw[hF]at CE AZ;generalize (nd t u).kids.getD i 0=c at CE Av hb;obtain⟨c,rfl⟩:∃c':Nat,c=c':=⟨c.toNat,by omega⟩;generalize ((nd t u).kids.take i).filter F=acc at CE AZ;simp -implicitDefEqProofs only[go_sem,d1,Ay,Av];refine anO ?_;refine J6 (nKind t (by omega)) ?_;have en:=Jdq k (nd t c).k;have ek:Jv t.nodes (c:Int)=(nd t c).k:=by unfold Jv nd;rw[Gl]
   rw[ek]at CE
   cases hq:(nd t c).k == k with
   |false=>
    rw[hq]at CE en;simp only[Bool.false_eq_true,if_false,Gq]at CE;simp -implicitDefEqProofs only[go_sem,en];refine⟨Jh,i+1,[0],by omega,by omega,rfl,?_,?_⟩
    ·rw[CE];simp only[Kl,Gc,Gd,go_sem,Qg (Ja (Je acc))]
    ·rw[CE];simp[forget,JB,ren,Jm,tRw,Qt]
   |true=>
    rw[hq]at CE en;simp only[if_true]at CE;simp -implicitDefEqProofs only[go_sem,en,Jg,Jy];refine⟨⟨by omega,by omega⟩,Jh,i+1,[2],by omega,by omega,rfl,?_,?_⟩
    ·rw[CE,KU,Kq];simp only[Kl,Gc,Gd,go_sem,Jk];simp[Ja (Je acc),JB,ren]
    ·rw[CE,KU,Ko];simp[forget,JB,ren,Jm,tRw,Jg]
  ·have d1:((i:Int)<((nd t u).kids.length:Int))=False:=Jo;rw[Gu (by omega)];rw[show (nd t u).kids.filter F=Xf t u k by rw[<-hF];rfl];simp -implicitDefEqProofs only[go_sem,d1];exact⟨0,rfl,rfl⟩
section
theorem JeG {z bytes id:Nat}{H:List CObj}{els:List (List CV)}:KR z bytes H (K6 id els) []=some (.tt,K6 id els,H):=by cases els <;> rfl
attribute [go_sem] JeG
theorem Xm:iz []=[]:=rfl
theorem Ki {x:Int}{l:List Int}:iz (x::l)=[.int .i64 x]::iz l:=rfl
theorem KP {a b:List Int}:iz (a++b)=iz a++iz b:=by simp[iz]
theorem JeC {f:Int->List Int}{b:Nat}(h:∀x,(f x).length<=b):∀l:List Int,((l.map f).flatten).length<=l.length*b
 |[]=>by simp
 |x::l=>by
  have h1:=h x;have h2:=JeC h l;simp only[Gc,List.flatten_cons,Gv,Gg,Ho,Hm];omega
theorem kidsK_len {t:Tr}{u k:Nat}:(Xf t u k).length<=(nd t u).kids.length:=Gz _ _
theorem flat_take {f:Int->List Int}{l:List Int}{i:Nat}(h:i<l.length):((l.take (i+1)).map f).flatten=((l.take i).map f).flatten++f (l.getD i 0):=by
 rw[GZ h,H7,List.flatten_append,Gm,Gp h];simp
theorem kidsK_rng {t:Tr}{o:List Int}(g:GoodT t o){u k:Nat}(hu:u<t.nodes.length){c:Int}(hc:c∈Xf t u k):0<=c/\c<t.nodes.length:=by
 have:=g.kid hu (Qi.1 hc).1;omega
theorem Jab {t:Tr}(ht:t.Fit){x:Int}{k:Nat}:(Xf t x.toNat k).length<=30:=by
 rcases Nat.lt_or_ge x.toNat t.nodes.length with h|h
 ·exact GK kidsK_len (JdN ht h).kidn
 ·have:nd t x.toNat=default:=by unfold nd;rw[Gm,List.getElem?_eq_none h];rfl
  refine GK kidsK_len ?_;rw[this];exact Nat.zero_le _
theorem binds_le {t:Tr}(ht:t.Fit){u:Nat}:(Y0 t u).length<=900:=by
 have h1:=JeC (f:=λs:Int=>Xf t s.toNat 42) (b:=30) (λx=>Jab ht) (Xf t u 41);have h2:=Jab ht (x:=(u:Int)) (k:=41);rw[Gl]at h2;unfold Y0;omega
section
variable {t:Tr}{o:List Int}(g:GoodT t o)(ht:t.Fit)
include g ht
theorem nKidsG {u:Nat}(hu:u<t.nodes.length)(k:Nat):Jdu Gb 115 [.rptr (tRw t),.int .i64 (u:Int),.int .u8 (k:Int)] 1 (iz (Xf t u k)):=
 nKids t ht hu (λc hc=>by have:=g.kid hu hc;omega) k
theorem nKidsF {u:Nat}(hu:u<t.nodes.length)(k:Nat):Fn Gb 115 [.rptr (tRw t),.int .i64 (u:Int),.int .u8 (k:Int)] (.rslc 1 (iz (Xf t u k)) none):=
 (nKidsG g ht hu k).fn rfl (Je _)
theorem nBinds {u:Nat}(hu:u<t.nodes.length):Jdu Gb 170 [.rptr (tRw t),.int .i64 (u:Int)] 1 (iz (Y0 t u)):=by
 have hL:=Jab ht (x:=(u:Int)) (k:=41);rw[Gl]at hL;refine JdL (J8 c170_ok λN=>?_) rfl (Je _);simp -implicitDefEqProofs only[c170,go_sem];refine J6 (nKidsF g ht hu 41) ?_;have BF:Y0 t u=((Xf t u 41).map λs=>Xf t s.toNat 42).flatten:=rfl;rw[BF];have hr:∀c∈Xf t u 41,0<=c/\c<t.nodes.length:=λc hc=>kidsK_rng g hu hc
 generalize Xf t u 41=L at hL hr|-;have Ak:(iz L).length=L.length:=Jg;simp -implicitDefEqProofs only[go_sem,Ak];refine XW ?_;simp only[go_sem,GA];generalize hf:(λs:Int=>Xf t s.toNat 42)=f;have Fj:∀x,(f x).length<=30:=λx=>by rw[<-hf];exact Jab ht
 refine Jw (I:=λi:Nat=>i<=L.length) (inv:=λi=>gp [(0,.rptr (tRw t)),(3,K6 0 (iz ((L.take i).map f).flatten)),(4,.rslc 1 (iz L) none),(0,.int .i64 (L.length:Int)),(0,.int .i64 (i:Int))] 10) (hp:=λi=>[QO 1 (iz ((L.take i).map f).flatten)]) (μ:=λi=>L.length-i) 0 [0] (by omega) rfl ?_ rfl ?_
 ·simp[forget,JB,ren,gp,K6,iz]
 ·intro i hi;by_cases Ab:i<L.length
  ·have d1:((i:Int)<(L.length:Int))=True:=Jq;have Av:=JN Ab;have AB:L.getD i 0∈L:=by rw[Gm,Gp Ab];exact Gw Ab
   have hb:=hr _ AB;have EQ:=flat_take (f:=f) Ab;have Ph:f (L.getD i 0)=Xf t (L.getD i 0).toNat 42:=by rw[<-hf]
   have RI:=Fj (L.getD i 0);have BO:=JeC Fj (L.take i);rw[G6]at BO;generalize ((L.take i).map f).flatten=acc at BO EQ|-;generalize f (L.getD i 0)=xs at Ph RI EQ;generalize L.getD i 0=c at Av hb Ph;obtain⟨c,rfl⟩:∃c':Nat,c=c':=⟨c.toNat,by omega⟩;rw[Gl]at Ph;simp -implicitDefEqProofs only[go_sem,d1,Ak,Av];refine anO ?_;refine J6 (nKidsF g ht (by omega) 42) ?_;rw[<-Ph]
   cases xs with
   |nil=>
    rw[Gq]at EQ;simp -implicitDefEqProofs only[go_sem,Xm];refine⟨Jh,i+1,[0],by omega,by omega,rfl,?_,?_⟩
    ·rw[EQ];simp only[Kl,Gc,Gd,go_sem,Qg (Ja (Je acc))]
    ·rw[EQ];simp[forget,JB,ren,Jm,Qt]
   |cons x xs=>
    simp only[Gg]at RI;simp -implicitDefEqProofs only[go_sem,Ki,Jg,Jy];refine⟨⟨by omega,by omega⟩,Jh,i+1,[1],by omega,by omega,rfl,?_,?_⟩
    ·rw[EQ,KP,Ki,Kq];simp only[Kl,Gc,Gd,go_sem,Jk];simp[Ja (Je acc),Ja (Je xs),JB,ren]
    ·rw[EQ,KP,Ki,Ko];simp[forget,JB,ren,Jm,Jg]
  ·have d1:((i:Int)<(L.length:Int))=False:=Jo;rw[Gu (by omega)];simp -implicitDefEqProofs only[go_sem,d1];exact⟨0,rfl,rfl⟩
end
end
section
section
variable {P:Program}{E:Env}{H:List CObj}
theorem CallsC.pad {f:Nat}{args:List CV}{R R':CV->List CObj->Prop}(h:CallsC P E f args H R)(hR:∀v H',R v H'->R' v H'\/R' v (H'++[.dead])):CallsC P E f args H R':=by
 intro m w vs hs hv;refine(h m w vs hs hv).mono ?_;rintro e w' ⟨r,m',v,H',h1,h2,h3,h4,h5⟩;rcases hR _ _ h5 with g|g
 ·exact⟨r,m',v,H',h1,h2,h3,h4,g⟩
 ·obtain⟨t1,t2,t3⟩:=h3.pad (n0:=H.length);exact⟨r,_,v,_,h1,h2.trans t3,t1,Q9 t2 (Kv.refl _) _ _ h4,g⟩
def RowR (z:Nat)(els:List (List CV))(v:CV)(H':List CObj):Prop:=(∃id,v=K6 id els/\H'[id]? = some (QO z els))\/(v=.nils/\els=[])\/∃id c,v=.slc id 0 els.length (some c)/\H'[id]? = some (.arr z els)/\els≠[]
theorem RowR.row {z id:Nat}{els:List (List CV)}{v:CV}{H':List CObj}(h1:v=K6 id els)(h2:H'[id]? = some (QO z els)):RowR z els v H':=.inl ⟨id,h1,h2⟩
theorem RowR.nil {z:Nat}{H':List CObj}:RowR z [] .nils H':=.inr (.inl ⟨rfl,rfl⟩)
theorem RowR.lit {z id c:Nat}{e:List CV}{els:List (List CV)}{H':List CObj}(h2:H'[id]? = some (.arr z (e::els))):RowR z (e::els) (.slc id 0 (els.length+1) (some c)) H':=.inr (.inr ⟨id,c,rfl,h2,by simp⟩)
theorem Jez {f:Nat}{args:List CV}{z:Nat}{els:List (List CV)}(h:CallsC P Env.none f args [] (RowR z els))(ha:Jp args=true)(hc:Jr els=true):Jdu P f args z els:=
 JdL ((h.wk (R':=λv H'=>(∃id,v=K6 id els/\H'[id]? = some (QO z els))\/(v=.nils/\els=[])) λv H' hv=>by
  rcases hv with hv|hv|⟨id,c,rfl,h2,h3⟩
  ·exact⟨v,wk.refl _,.inl hv⟩
  ·exact⟨v,wk.refl _,.inr hv⟩
  ·exact⟨_,wk_cap,.inl ⟨id,(XK h3).symm,by rw[Xu h3];exact h2⟩⟩).pad λv H' hv=>by
  rcases hv with hv|⟨rfl,rfl⟩
  ·exact .inl hv
  ·exact .inr ⟨H'.length,rfl,by simp;rfl⟩) ha hc
end
section
variable {t:Tr}{o:List Int}(g:GoodT t o)(ht:t.Fit)
include g ht
theorem nDeclares {u a:Nat}(hu:u<t.nodes.length)(ha:a<t.nodes.length):Jdu Gb 144 [.rptr (tRw t),.int .i64 (u:Int),.int .i64 (a:Int)] 1 (iz (Jcq t u a)):=by
 have hg:=JY hu;have Ay:(iz (nd t u).kids).length=(nd t u).kids.length:=Jg;have bu:((u:Int)<(t.nodes.length:Int))=True:=Jq;refine Jez (J8 c144_ok λN=>?_) rfl (Je _);unfold Jcq;by_cases Eb:(nd t u).k=40
 ·rw[if_pos Eb];simp -implicitDefEqProofs only[c144,go_sem,tRw,Jb,hg,Nd.cv,kbE,Eb];refine anO ?_;refine Jfd (.inl rfl) (nBinds g ht hu) ?_;simp -implicitDefEqProofs only[go_sem];exact .row (id:=1) rfl rfl
 have b40:((nd t u).k == 40)=false:=beq_eq_false_iff_ne.2 Eb;rw[if_neg Eb];by_cases Bz:(nd t u).k=65
 ·rw[if_pos Bz];simp -implicitDefEqProofs only[c144,go_sem,tRw,Jb,hg,Nd.cv,kbE,Bz];refine anO ?_;refine Jfd (.inl rfl) (nKidsG g ht hu 64) ?_;simp -implicitDefEqProofs only[go_sem];exact .row (id:=1) rfl rfl
 have b65:((nd t u).k == 65)=false:=beq_eq_false_iff_ne.2 Bz;rw[if_neg Bz];by_cases Ck:(nd t u).k=47
 ·rw[if_pos Ck];have Ad:(nd t u).kids.length=3:=(Jb0 g hu Ck).1;have M3:=JN (l:=(nd t u).kids) (i:=2) (by omega);by_cases he:(a:Int)=(nd t u).kids.getD 2 0
  ·have e1:((a:Int) == (nd t u).kids.getD 2 0)=true:=beq_iff_eq.2 he;rw[if_pos he];simp -implicitDefEqProofs only[c144,go_sem,tRw,Jb,hg,Nd.cv,kbE,Ck,Ay,Ad,M3,e1];exact⟨by omega,by omega,.lit rfl⟩
  ·have e1:((a:Int) == (nd t u).kids.getD 2 0)=false:=beq_eq_false_iff_ne.2 he;rw[if_neg he];simp -implicitDefEqProofs only[c144,go_sem,tRw,Jb,hg,Nd.cv,kbE,Ck,Ay,Ad,M3,e1];exact⟨by omega,by omega,.nil⟩
 have b47:((nd t u).k == 47)=false:=beq_eq_false_iff_ne.2 Ck;rw[if_neg Ck];by_cases DW:(nd t u).k=28
 ·rw[if_pos DW];simp -implicitDefEqProofs only[c144,go_sem,tRw,Jb,hg,Nd.cv,kbE,DW];refine anO ?_;refine J6 (nKind t ha) ?_;by_cases Cx:(nd t a).k=43
  ·rw[if_pos Cx];simp -implicitDefEqProofs only[go_sem,kbE,Cx];exact .nil
  have b43:((nd t a).k == 43)=false:=beq_eq_false_iff_ne.2 Cx;rw[if_neg Cx];by_cases Bq:(nd t a).k=41\/(nd t a).k=44
  ·rw[if_pos Bq];have hK:=Jab ht (x:=(u:Int)) (k:=43);rw[Gl]at hK;have hB:=binds_le ht (u:=u);have b41:((nd t a).k == 41)=true\/((nd t a).k == 41)=false/\((nd t a).k == 44)=true:=by
    rcases Bq with h|h <;> simp[h]
   rcases b41 with b41|⟨b41,b44⟩
   ·simp -implicitDefEqProofs only[go_sem,kbE,b43,b41];refine Jfd (.inl rfl) (nKidsG g ht hu 43) ?_;simp -implicitDefEqProofs only[go_sem];refine J6 ((nBinds g ht hu).fn rfl (Je _)) ?_;generalize Xf t u 43=L at hK|-;generalize Y0 t u=M at hB|-
    cases M with
    |nil=>
     simp -implicitDefEqProofs only[go_sem,Xm,Gq];exact .row (id:=1) rfl rfl
    |cons x xs=>
     simp only[Gg]at hB;simp -implicitDefEqProofs only[go_sem,Ki,Jg,Jy];refine⟨⟨by omega,by omega⟩,.row (id:=2) (by rw[KP,Ki,Ko,Jg,Jg]) (by rw[KP,Ki,Kq];rfl)⟩
   ·simp -implicitDefEqProofs only[go_sem,kbE,b43,b41,b44];refine Jfd (.inl rfl) (nKidsG g ht hu 43) ?_;simp -implicitDefEqProofs only[go_sem];refine J6 ((nBinds g ht hu).fn rfl (Je _)) ?_;generalize Xf t u 43=L at hK|-;generalize Y0 t u=M at hB|-
    cases M with
    |nil=>
     simp -implicitDefEqProofs only[go_sem,Xm,Gq];exact .row (id:=1) rfl rfl
    |cons x xs=>
     simp only[Gg]at hB;simp -implicitDefEqProofs only[go_sem,Ki,Jg,Jy];refine⟨⟨by omega,by omega⟩,.row (id:=2) (by rw[KP,Ki,Ko,Jg,Jg]) (by rw[KP,Ki,Kq];rfl)⟩
  ·have b41:((nd t a).k == 41)=false:=beq_eq_false_iff_ne.2 λh=>Bq (.inl h)
   have b44:((nd t a).k == 44)=false:=beq_eq_false_iff_ne.2 λh=>Bq (.inr h)
   rw[if_neg Bq];simp -implicitDefEqProofs only[go_sem,kbE,b43,b41,b44];refine Jfd (.inl rfl) (nKidsG g ht hu 43) ?_;simp -implicitDefEqProofs only[go_sem];exact .row (id:=1) rfl rfl
 have b28:((nd t u).k == 28)=false:=beq_eq_false_iff_ne.2 DW;rw[if_neg DW];simp -implicitDefEqProofs only[c144,go_sem,tRw,Jb,hg,Nd.cv,kbE,b40,b65,b47,b28];exact⟨by omega,.nil⟩
omit g in
theorem decl_le {u a:Nat}:(Jcq t u a).length<=1000:=by
 have hB:=binds_le ht (u:=u);have hK:∀k,(Xf t u k).length<=30:=λk=>by
  have:=Jab ht (x:=(u:Int)) (k:=k)
  rwa [Gl]at this
 have h1:=hK 64;have h2:=hK 43;unfold Jcq
 repeat' split
 all_goals first|omega|simp only[Gv,Gg,Gt];omega
omit ht in
theorem sight_sort {j:Nat}(hj:j<t.nodes.length):(X3 t t.nodes.length j).mergeSort (λx y=>decide (x<=y))=QH t j:=by
 refine asc_eq (sort_strict (climb_nodup g _ _ hj)) (JdP.filter _) λx=>?_
 unfold QH;rw[sort_mem,GX,List.contains_iff_mem]
 constructor
 ·intro h;have:=climb_who g _ _ _ hj h;exact⟨KD.2 ⟨this.1,this.2.1⟩,h⟩
 ·exact λh=>h.2
theorem nSight {j:Nat}(hj:j<t.nodes.length):Fn Gb 114 [.rptr (tRw t),.int .i64 (j:Int)] (.rslc 1 (iz (QH t j)) none):=by
 have Ai:=g.many;rw[<-sight_sort g hj];refine JfO (J8 c114_ok λN=>?_) rfl (Je _);simp -implicitDefEqProofs only[c114,go_sem];refine XW ?_;simp only[go_sem,GA];generalize hC:X3 t t.nodes.length j=C;refine Jw (σ:=Nat×Nat×List Int) (I:=λs=>s.2.1<t.nodes.length/\t.nodes.length<=s.2.1+s.1/\s.2.2++X3 t s.1 s.2.1=C/\s.2.2.length+1000*s.1<=1000*t.nodes.length) (inv:=λs=>gp [(0,.rptr (tRw t)),(3,K6 0 (iz s.2.2)),(0,.int .i64 (s.2.1:Int))] 31) (hp:=λs=>[QO 1 (iz s.2.2)]) (μ:=λs=>t.nodes.length-s.2.1) (t.nodes.length,j,[]) [0] ⟨hj,by simp only;omega,by simp[hC],by simp⟩ rfl ?_ rfl ?_
 ·simp[forget,JB,ren,gp,K6,iz]
 ·rintro⟨f,a,acc⟩ ⟨ha,hf,BO,Ad⟩
  dsimp only at ha hf BO Ad
  obtain⟨f,rfl⟩:∃f',f=f' + 1:=⟨f-1,by omega⟩;rw[X3]at BO;rcases Xa g ha with ⟨hp,_⟩|⟨m,hp,Pn,hm,_⟩
  ·have e1:((-1:Int) != -1)=false:=by decide
   rw[hp,if_pos (by decide),Gq]at BO;simp -implicitDefEqProofs only[go_sem,tRw,Qs,upz ha,hp,e1];refine anO ?_
   cases acc with
   |nil=>
    rw[<-BO];simp -implicitDefEqProofs only[go_sem,Xm,Q8];refine J6 sortNil ?_;simp -implicitDefEqProofs only[go_sem,Hy,Xm,Q8,Yc];exact⟨0,rfl⟩
   |cons x xs=>
    rw[<-BO];simp only[Gg]at Ad;have Ah:(x::xs).mergeSort (λx y=>decide (x<=y))≠[]:=by
     intro e;have:=congrArg Lb e;rw[Hd]at this;simp at this
    have Ef:(iz ((x::xs).mergeSort λx y=>decide (x<=y)))≠[]:=by simpa [iz]using Ah
    simp -implicitDefEqProofs only[go_sem,Ki,Yi,JaH,Jg];refine Ke (.inl rfl) (sortRow (l:=x::xs) (by simp) (by simp only[Gg];omega) rfl) λv H' ⟨h1,h2⟩=>?_
    subst h1 h2;simp -implicitDefEqProofs only[go_sem];refine⟨0,by rw[XK Ef,Jg,Hd];rfl,by rw[Xu Ef];rfl⟩
  ·have e1:((m:Int) != -1)=true:=bne_iff_ne.2 (by omega);rw[hp,iN7,Gl,<-List.append_assoc]at BO;have Bi:=decl_le ht (u:=m) (a:=a);simp -implicitDefEqProofs only[go_sem,tRw,Qs,upz ha,hp,e1];refine⟨by omega,by omega,?_⟩;refine J6 ((nDeclares g ht hm ha).fn rfl (Je _)) ?_;generalize Jcq t m a=xs at BO Bi|-
   cases xs with
   |nil=>
    rw[Gq]at BO;simp -implicitDefEqProofs only[go_sem,Qs,upz ha,hp,Xm];refine⟨by omega,(f,m,acc),[0],⟨hm,by simp only;omega,BO,by simp only;omega⟩,by simp only;omega,rfl,?_,?_⟩
    ·simp only[Kl,Gc,Gd,go_sem,Qg (Ja (Je acc))]
    ·simp[forget,JB,ren,Jm,Qt]
   |cons x xs=>
    simp only[Gg]at Bi;simp -implicitDefEqProofs only[go_sem,upz ha,hp,Ki,Jg,JdT,Jy];refine⟨⟨by omega,by omega⟩,by omega,(f,m,acc++x::xs),[1],⟨hm,by simp only;omega,BO,by simp only[Gv,Gg];omega⟩,by simp only;omega,rfl,?_,?_⟩
    ·rw[KP,Ki,Kq];simp only[Kl,Gc,Gd,go_sem,Jk];simp[Ja (Je acc),Ja (Je xs),JB,ren]
    ·rw[KP,Ki,Ko];simp[forget,JB,ren,Jm,Jg]
end
end
section
theorem fixA_find {q:Int->Bool}:∀(l:List Int) (i:Nat),(XI q l i = -1/\l.find? q=none)\/∃j,j<l.length/\XI q l i=((i+j:Nat):Int)/\l.find? q=some (l.getD j 0)
 |[],i=>.inl ⟨rfl,rfl⟩
 |x::l,i=>by
  rw[XI,GH]
  cases hq:q x with
  |true=>exact .inr ⟨0,by simp,by simp,by simp⟩
  |false=>
   rcases fixA_find l (i+1) with ⟨h1,h2⟩|⟨j,h1,h2,h3⟩
   ·exact .inl ⟨by simpa using h1,h2⟩
   ·exact .inr ⟨j+1,by simpa using h1,by simp[h2];omega,by simpa using h3⟩
theorem indexFI {f:Nat}{l1 l2:List CV}{F:IFunc}(l:List Int)(q:Int->Bool)(cap:Option Nat)(hF:Jf Gb f=some F)(C8:Jp l1=true)(Ca:Jp l2=true)
  (hq:∀p∈l,Fn Gb f (l1++[.int .i64 p]++l2) (.bool (q p))) (Ad:l.length<=1000000):Fn Gb 142 [.rslc 1 (iz l) cap,.fn f l1 l2] (.int .i64 (XI q l 0)):=by
 have Ak:(iz l).length=l.length:=Jg;refine Jc c142_ok (by simp[Jp,CV.closed,C8,Ca]) rfl λN=>?_
 simp -implicitDefEqProofs only[c142,go_sem,Ak];refine JI (I:=λi:Nat=>i<=l.length/\XI q l 0=XI q (l.drop i) i) (inv:=λi=>gp [(0,.rslc 1 (iz l) cap),(0,.fn f l1 l2),(5,.int .i64 l.length),(0,.int .i64 i)] 10) (hp:=λ_=>[]) (μ:=λi=>l.length-i) 0 ⟨by omega,rfl⟩ ?_ rfl ?_
 ·simp[forget,gp]
 ·rintro i ⟨hi,Aa⟩;by_cases Ab:i<l.length
  ·have d1:((i:Int)<(l.length:Int))=True:=Jq;have Av:=JN Ab;have Ci:l[i]? = some (l.getD i 0):=by rw[Gm,Gp Ab];rfl
   have hm:l.getD i 0∈l:=Hu Ci;rw[Q6 Ci]at Aa;simp -implicitDefEqProofs only[go_sem,Ak,d1,Av];refine anO ?_;refine vr_fv (.inl rfl) rfl hF (Jb9 pNames _) (hq _ hm) ?_
   cases hb:q (l.getD i 0) with
   |true=>
    rw[hb,if_pos rfl]at Aa;simp -implicitDefEqProofs only[go_sem,Aa]
   |false=>
    rw[hb]at Aa;simp -implicitDefEqProofs only[go_sem];refine⟨Jh,i+1,⟨by omega,by simpa using Aa⟩,by omega,?_⟩;simp[forget]
  ·have d1:((i:Int)<(l.length:Int))=False:=Jo;rw[Gs (by omega)]at Aa;simp -implicitDefEqProofs only[go_sem,d1,Aa,XI]
theorem nNamed1 (t:Tr)(s:List UInt8){i:Nat}(hi:i<t.nodes.length):Fn Gb 143 [.int .i64 (i:Int),.rptr [.rptr (tRw t)],.rptr [S s]] (.bool ((nd t i).text == s)):=by
 have hg:=JY hi;refine Jc c143_ok rfl rfl λN=>?_
 simp -implicitDefEqProofs only[c143,go_sem];refine JV Js (by decide) ?_;simp -implicitDefEqProofs only[go_sem,tRw,Jb,hg,Nd.cv];omega
theorem nNamed (t:Tr)(s:List UInt8)(l:List Int)(hl:∀d∈l,0<=d/\d<t.nodes.length)(Ad:l.length<=1000000):Fn Gb 113 [.rptr (tRw t),.rslc 1 (iz l) none,S s] (.int .i64 (Jao t l s)):=by
 have Ak:(iz l).length=l.length:=Jg;unfold Jao;generalize hq:(λd:Int=>(nd t d.toNat).text == s)=q;refine Jc c113_ok rfl rfl λN=>?_
 simp -implicitDefEqProofs only[c113,go_sem];refine Jd (id:=0) (z:=1) (els:=[[.rptr (tRw t)]]) rfl rfl ?_;simp only[go_sem,JX,Ku,frz,Qa,Gf];refine Jd (id:=1) (z:=1) (els:=[[S s]]) rfl rfl ?_;simp only[go_sem,JX,Ku,frz,Qa,Gf];refine J6 (indexFI l q none c143_ok rfl rfl (λp hp=>?_) Ad) ?_
 ·have hb:=hl p hp;obtain⟨p,rfl⟩:∃p':Nat,p=p':=⟨p.toNat,by omega⟩;have h:=nNamed1 t s (i:=p) (by omega);rw[<-hq];simpa only[GA,G7,Gl]using h
 ·rcases fixA_find (q:=q) l 0 with ⟨h1,h2⟩|⟨j,h1,h2,h3⟩
  ·have e1:((-1:Int)<0)=True:=Jq;simp -implicitDefEqProofs only[go_sem,h1,h2,e1]
  ·rw[GN]at h2;have e1:((j:Int)<0)=False:=Jo;have Bv:=JN h1;simp -implicitDefEqProofs only[go_sem,h2,h3,e1,Ak,Bv];omega
section
variable {t:Tr}{o:List Int}(g:GoodT t o)(ht:t.Fit)
include g ht
theorem nMeaning {i:Nat}(hi:i<t.nodes.length):Fn Gb 87 [.rptr (tRw t),.int .i64 (i:Int)] (.tup [.int .i64 (JU t o i),.bool (KA t i)]):=by
 have hg:=JY hi;have Ai:=g.many;have U1:=ht.items;refine Jc c87_ok rfl rfl λN=>?_
 unfold JU KA;by_cases h3:(nd t i).k=3
 ·have hm:=JbL g hi (by omega);have hs:∀d∈QH t i,0<=d/\d<t.nodes.length:=λd hd=>KD.1 (GX.1 hd).1
  have DN:(QH t i).length<=1000000:=by
   have:=Gz (λd=>(X3 t t.nodes.length i).contains d) (K5 t);unfold QH;have h2:(K5 t).length=t.nodes.length:=by simp[K5]
   omega
  have hN:=nNamed t (nd t i).text (QH t i) hs DN;rw[hm]at hN;simp -implicitDefEqProofs only[c87,go_sem,tRw,Jb,hg,Nd.cv,kbE,h3];refine anO ?_;refine Jd (id:=0) (z:=5) (els:=[(nd t i).cv]) (by simp only[Nd.cv,h3];rfl) rfl ?_;simp only[go_sem,JX,Ku,frz,Qa,Gf];refine JV Js (by decide) ?_;simp -implicitDefEqProofs only[go_sem,Nd.cv];refine J9 (.inl rfl) (nSight g ht hi) ?_;simp -implicitDefEqProofs only[go_sem];refine J9 (.inl rfl) hN ?_;simp -implicitDefEqProofs only[go_sem]
 have b3:((nd t i).k == 3)=false:=beq_eq_false_iff_ne.2 h3;rw[if_neg h3,b3,Gr];by_cases Dr:(nd t i).k=26
 ·have hN:=nNamed t (nd t i).text t.items (λd hd=>by have:=g.itr hd;omega) (by omega);rw[call_means g]at hN;simp -implicitDefEqProofs only[c87,go_sem,tRw,Jb,hg,Nd.cv,kbE,Dr];refine anO ?_;refine Jd (id:=0) (z:=5) (els:=[(nd t i).cv]) (by simp only[Nd.cv,Dr];rfl) rfl ?_;simp only[go_sem,JX,Ku,frz,Qa,Gf];refine JV Js (by decide) ?_;simp -implicitDefEqProofs only[go_sem,Nd.cv];refine J9 (.inl rfl) hN ?_;simp -implicitDefEqProofs only[go_sem]
 have b26:((nd t i).k == 26)=false:=beq_eq_false_iff_ne.2 Dr;rw[if_neg Dr,b26,Gr];by_cases BH:(nd t i).k=44
 ·obtain⟨u,MH,Eu,UA,O9⟩:=QU g hi (by omega);have hK:=Jab ht (x:=(u:Int)) (k:=43);rw[Gl]at hK;have hN:=nNamed t (nd t i).text (Xf t u 43) (λd hd=>kidsK_rng g Eu hd) (by omega);rw[next_means g Eu MH]at hN;simp -implicitDefEqProofs only[c87,go_sem,tRw,Jb,hg,Nd.cv,kbE,BH];refine anO ?_;refine Jd (id:=0) (z:=5) (els:=[(nd t i).cv]) (by simp only[Nd.cv,BH];rfl) rfl ?_;simp only[go_sem,JX,Ku,frz,Qa,Gf];refine JV Js (by decide) ?_;simp -implicitDefEqProofs only[go_sem,Nd.cv,Qs,upz hi,MH];refine anO ?_;refine J9 (.inl rfl) (nKidsF g ht Eu 43) ?_;simp -implicitDefEqProofs only[go_sem];refine J9 (.inl rfl) hN ?_;simp -implicitDefEqProofs only[go_sem]
 have b44:((nd t i).k == 44)=false:=beq_eq_false_iff_ne.2 BH;rw[if_neg BH,b44];simp -implicitDefEqProofs only[c87,go_sem,tRw,Jb,hg,Nd.cv,kbE,b3,b26,b44];omega
def twQ (t:Tr)(i k:Nat):Bool:=(nd t k).text == (nd t i).text && (if (nd t i).k=44 then(nd t k).k == 44 && Kh t k == Kh t i else if (nd t i).k=65 then(nd t k).k == 65 else !((nd t k).k == 65) && (KI (nd t k).k && Qz t k == Qz t i))
omit g ht in
theorem nTwice1 {i k:Nat}(hi:i<t.nodes.length)(hk:k<t.nodes.length):Fn Gb 116 [.int .i64 (k:Int),.rptr [.rptr (tRw t)],.rptr (nd t i).cv,.rptr [.int .i64 (i:Int)]] (.bool (twQ t i k)):=by
 have hg:=JY hk;refine Jc c116_ok rfl rfl λN=>?_
 unfold twQ
 cases ht:(nd t k).text == (nd t i).text with
 |false=>
  simp -implicitDefEqProofs only[c116,go_sem,tRw,Jb,hg,Nd.cv,ht,Gi,Gn];omega
 |true=>
  rw[Gj];by_cases BH:(nd t i).k=44
  ·rw[if_pos BH];simp -implicitDefEqProofs only[c116,go_sem,tRw,Jb,hg,Nd.cv,ht,kbE,BH,Gh];refine anO ?_;refine Jd (id:=0) (z:=5) (els:=[(nd t k).cv]) rfl rfl ?_;simp only[go_sem,JX,Ku,frz,Qa,Gf,Nd.cv];refine JV Js (by decide) ?_
   cases BD:(nd t k).k == 44 with
   |false=>
    simp -implicitDefEqProofs only[go_sem,kbE,BD,Gn]
   |true=>
    simp -implicitDefEqProofs only[go_sem,kbE,BD,Qs,upz hi,upz hk,Gj];omega
  have b44:((nd t i).k == 44)=false:=beq_eq_false_iff_ne.2 BH;rw[if_neg BH];by_cases Bz:(nd t i).k=65
  ·rw[if_pos Bz];simp -implicitDefEqProofs only[c116,go_sem,tRw,Jb,hg,Nd.cv,ht,kbE,Bz,Gh];omega
  have b65:((nd t i).k == 65)=false:=beq_eq_false_iff_ne.2 Bz;rw[if_neg Bz];simp -implicitDefEqProofs only[c116,go_sem,tRw,Jb,hg,Nd.cv,ht,kbE,b44,b65,Gh];refine anO ?_;refine Jd (id:=0) (z:=5) (els:=[(nd t k).cv]) rfl rfl ?_;simp only[go_sem,JX,Ku,frz,Qa,Gf,Nd.cv];refine JV Js (by decide) ?_
  cases BD:(nd t k).k == 65 with
  |true=>
   simp -implicitDefEqProofs only[go_sem,kbN,BD,Gh,Gn]
  |false=>
   simp -implicitDefEqProofs only[go_sem,kbN,BD,Gi,Gj];refine J9 (gok rfl) (nIsDecl t hk) ?_
   cases hd:KI (nd t k).k with
   |false=>
    simp -implicitDefEqProofs only[go_sem,Gn]
   |true=>
    have en:=Jdq (Qz t i) (Qz t k);simp -implicitDefEqProofs only[go_sem,itz_len,itz hi,itz hk,en,Gj];omega
end
end
section
theorem Qo {n i:Nat}(h:i<n):(Ga n).drop i=i::(Ga n).drop (i+1):=by
 rw[GM (by simpa using h),List.getElem_range]
theorem any_skip {q:Nat->Bool}{n:Nat}:∀(m:Nat),m<=n->(∀i,i<m->q i=false)->(Ga n).any q=((Ga n).drop m).any q
 |0,_,_=>by rw[Gf]
 |m+1,h,hq=>by rw[any_skip m (by omega) λi hi=>hq i (by omega),Qo (by omega),Gx,hq m (by omega),Gr]
theorem JaJ (k:Nat):Fn Gb 51 [.int .u8 (k:Int)] (.bool (KI k)):=by
 refine Jc c51_ok rfl rfl λN=>?_
 cases h1:(k == 65) <;> cases h2:(k == 64) <;> cases h3:(k == 42) <;> cases h4:(k == 43) <;> cases h5:(k == 47) <;>
  simp -implicitDefEqProofs only[c51,go_sem,kbE,h1,h2,h3,h4,h5,KI,GL,Hr]
theorem Jgt (k:Nat):Fn Gb 27 [.int .u8 (k:Int)] (.bool (k == 3 || k == 26 || k == 44)):=by
 refine Jc c27_ok rfl rfl λN=>?_
 cases h1:(k == 3) <;> cases h2:(k == 26) <;> cases h3:(k == 44) <;>
  simp -implicitDefEqProofs only[c27,go_sem,kbE,h1,h2,h3,GL,Hr]
theorem any_cg {q r:Nat->Bool}:∀{l:List Nat},(∀x∈l,q x=r x)->l.any q=l.any r
 |[],_=>rfl
 |x::l,h=>by rw[Gx,Gx,h x (by simp),any_cg λy hy=>h y (by simp[hy])]
section
variable {t:Tr}{o:List Int}(g:GoodT t o)(ht:t.Fit)
include g ht
theorem YV {j i:Nat}(hi:i<t.nodes.length):Fn Gb 69 [t.cv,.int .i64 (j:Int),.int .i64 (i:Int)] (.bool (JbC o j i)):=by
 have h:=refIsBelow t ht g (j:Int) i hi
 rwa [show (decide ((j:Int)<=(i:Int)) && decide (fs o i<=(j:Int)))=JbC o j i by unfold JbC;rw[decide_eq_decide.2 (Int.ofNat_le (m:=j) (n:=i))]]at h
theorem Jbx {n:Nat}(hn:n<t.nodes.length):Fn Gb 53 [t.cv,.int .i64 (n:Int)] (.int .i64 (Kh t n)):=refParent t ht g n hn
theorem JcL {u:Nat}(hu:u<t.nodes.length)(Ad:0<(nd t u).kids.length):Fn Gb 70 [t.cv,.int .i64 (u:Int)] (.int .i64 (Jl t u:Int)):=by
 have hg:=JY hu;have Ay:(iz (nd t u).kids).length=(nd t u).kids.length:=Jg;have A9:=lastz g hu Ad;have BJ:=(JdN ht hu).kidn;refine Jc c70_ok rfl rfl λN=>?_
 simp -implicitDefEqProofs only[c70,go_sem,Tr.cv,Tr.row];refine Jd (id:=0) (z:=2) (els:=[t.row]) rfl rfl ?_;simp only[go_sem,JX,Ku,frz,Qa];refine JV Js (by decide) ?_;simp -implicitDefEqProofs only[go_sem,Tr.row,Jb,hg,Nd.cv,Ay,A9];exact⟨by omega,by omega,Jh,by omega,by omega⟩
theorem refItemOf {i:Nat}(hi:i<t.nodes.length):Fn Gb 54 [t.cv,.int .i64 (i:Int)] (.int .i64 (YE t o i)):=by
 have Ak:(iz t.items).length=t.items.length:=Jg;have MW:=ht.items;unfold YE;generalize hq:(λL:Int=>JbC o i L.toNat)=q;refine Jc c54_ok rfl rfl λN=>?_
 simp -implicitDefEqProofs only[c54,go_sem,Tr.cv,Tr.row];refine Jd (id:=0) (z:=2) (els:=[t.row]) rfl rfl ?_;simp only[go_sem,JX,Ku,frz,Qa];refine JI (I:=λk:Nat=>k<=t.items.length/\t.items.find? q=(t.items.drop k).find? q) (inv:=λk=>gp [(1,.int .i64 (i:Int)),(0,.rptr t.row),(2,.int .i64 (k:Int))] 20) (hp:=λ_=>[.dead]) (μ:=λk=>t.items.length-k) 0 ⟨by omega,rfl⟩ ?_ rfl ?_
 ·simp[forget,gp]
 ·rintro k ⟨hk,Aa⟩;by_cases Ab:k<t.items.length
  ·have d1:((k:Int)<(t.items.length:Int))=True:=Jq;have Eh:=JN Ab;have AB:t.items.getD k 0∈t.items:=by rw[Gm,Gp Ab];exact Gw Ab
   have hr:=g.itr AB;rw[GM Ab,GH,show t.items[k]=t.items.getD k 0 by rw[Gm,Gp Ab];rfl]at Aa;generalize t.items.getD k 0=L at Eh hr Aa;obtain⟨L,rfl⟩:∃L':Nat,L=L':=⟨L.toNat,by omega⟩;have aW:q (L:Int)=JbC o i L:=by rw[<-hq];simp only[Gl]
   simp -implicitDefEqProofs only[go_sem,Tr.row,Ak,d1];refine JV Js (by decide) ?_;simp -implicitDefEqProofs only[go_sem,Ak,Eh];refine anO ?_;refine J9 (.inl rfl) (YV g ht (by omega)) ?_
   cases hb:JbC o i L with
   |true=>
    rw[aW,hb]at Aa;simp -implicitDefEqProofs only[go_sem,Ak,Eh,Aa];omega
   |false=>
    rw[aW,hb]at Aa;simp -implicitDefEqProofs only[go_sem];refine⟨Jh,k+1,⟨by omega,Aa⟩,by omega,?_⟩;simp[forget]
  ·have d1:((k:Int)<(t.items.length:Int))=False:=Jo;rw[Gs (by omega),GI]at Aa;simp -implicitDefEqProofs only[go_sem,Tr.row,Ak,d1,Aa]
def bkQ (t:Tr)(o:List Int)(j u:Nat)(last:Bool)(i:Nat):Bool:=(last || decide (i+1<(nd t u).kids.length)) && JbC o j (JL t u i)
omit g ht in
theorem bk_drop {j u m:Nat}{last:Bool}:bkB t o j u m last=((Ga (nd t u).kids.length).drop m).any (bkQ t o j u last):=by
 unfold bkB;by_cases CW:m<=(nd t u).kids.length
 ·rw[any_skip m CW λi hi=>by rw[decide_eq_false (by omega)];rfl];refine any_cg λi hi=>?_
  rw[List.range_eq_range',List.drop_range',List.mem_range'_1]at hi;rw[decide_eq_true (by omega),Gj];rfl
 ·rw[Gs (by simp;omega),GD,List.any_eq_false];intro i hi;rw[decide_eq_false (by have:=List.mem_range.1 hi;omega)];simp
theorem Jde {j u m:Nat}(hu:u<t.nodes.length)(hm:m<=100)(last:Bool):Fn Gb 71 [t.cv,.int .i64 (j:Int),.int .i64 (u:Int),.int .i64 (m:Int),.bool last] (.bool (bkB t o j u m last)):=by
 have hg:=JY hu;have Ay:(iz (nd t u).kids).length=(nd t u).kids.length:=Jg;have BJ:=(JdN ht hu).kidn;rw[bk_drop];generalize hq:bkQ t o j u last=q;refine Jc c71_ok rfl rfl λN=>?_
 simp -implicitDefEqProofs only[c71,go_sem,Tr.cv,Tr.row,Jb,hg,Nd.cv];refine anO ?_;refine Jd (id:=0) (z:=2) (els:=[t.row]) rfl rfl ?_;simp -implicitDefEqProofs only[go_sem,JX,Ku,frz,Qa,Tr.row];refine JI (I:=λi:Nat=>((Ga (nd t u).kids.length).drop m).any q=((Ga (nd t u).kids.length).drop i).any q) (inv:=λi=>gp [(1,.int .i64 (j:Int)),(2,.bool last),(0,.rptr t.row),(5,.rslc 1 (iz (nd t u).kids) none),(0,.int .i64 (i:Int))] 30) (hp:=λ_=>[.dead]) (μ:=λi=>(nd t u).kids.length-i) m rfl ?_ rfl ?_
 ·simp[forget,gp,Tr.row]
 ·intro i Aa;by_cases Ab:i<(nd t u).kids.length
  ·have d1:((i:Int)<((nd t u).kids.length:Int))=True:=Jq;have Av:=JN Ab;obtain⟨k1,k2,_⟩:=JF g hu Ab;have Mr:(nd t u).kids.getD i 0=(JL t u i:Int):=by
    have hm:(nd t u).kids.getD i 0∈(nd t u).kids:=by rw[Gm,Gp Ab];exact Gw Ab
    have:=(g.kid hu hm).1;unfold JL;omega
   rw[Mr]at Av;have hB:=YV g ht (j:=j) (i:=JL t u i) (by omega);have CU:q i=((last || decide (i+1<(nd t u).kids.length)) && JbC o j (JL t u i)):=by rw[<-hq];rfl
   rw[Qo Ab,Gx,CU]at Aa;simp -implicitDefEqProofs only[go_sem,Ay,d1];refine JV Js (by decide) ?_
   cases last with
   |true=>
    rw[Gy,Gj]at Aa;simp -implicitDefEqProofs only[go_sem,Tr.row,Gg,Gt,Ay,Av];refine anO ?_;refine J9 (gok rfl) hB ?_
    cases hb:JbC o j (JL t u i) with
    |true=>
     rw[hb,Gy]at Aa;simp -implicitDefEqProofs only[go_sem,Aa]
    |false=>
     rw[hb,Gr]at Aa;simp -implicitDefEqProofs only[go_sem];refine⟨Jh,i+1,Aa,by omega,?_⟩;simp[forget]
   |false=>
    rw[Gr]at Aa;by_cases hl:i+1<(nd t u).kids.length
    ·have e1:decide ((i:Int)<((nd t u).kids.length:Int)-1)=true:=decide_eq_true (by omega);rw[decide_eq_true hl,Gj]at Aa;simp -implicitDefEqProofs only[go_sem,Tr.row,Gg,Gt,Ay,Av,e1];refine⟨Jh,by omega,?_⟩;refine J9 (gok rfl) hB ?_
     cases hb:JbC o j (JL t u i) with
     |true=>
      rw[hb,Gy]at Aa;simp -implicitDefEqProofs only[go_sem,Aa]
     |false=>
      rw[hb,Gr]at Aa;simp -implicitDefEqProofs only[go_sem];refine⟨Jh,i+1,Aa,by omega,?_⟩;simp[forget]
    ·have e1:decide ((i:Int)<((nd t u).kids.length:Int)-1)=false:=decide_eq_false (by omega);rw[decide_eq_false hl,Gn,Gr]at Aa;simp -implicitDefEqProofs only[go_sem,Ay,e1];refine⟨Jh,Jh,i+1,Aa,by omega,?_⟩;simp[forget,Tr.row]
  ·have d1:((i:Int)<((nd t u).kids.length:Int))=False:=Jo;rw[show (Ga (nd t u).kids.length).drop i=[] from Gs (by simp;omega),GD]at Aa;simp -implicitDefEqProofs only[go_sem,Ay,d1,Aa]
theorem refInSight {d j:Nat}(hd:d<t.nodes.length)(hj:j<t.nodes.length):Fn Gb 52 [t.cv,.int .i64 (d:Int),.int .i64 (j:Int)] (.bool (inB t o d j)):=by
 have hg:=JY hd;have hP:=Jbx g ht hd;unfold inB;refine Jc c52_ok rfl rfl λN=>?_
 simp -implicitDefEqProofs only[c52,go_sem,Tr.cv,Tr.row];refine Jd (id:=0) (z:=2) (els:=[t.row]) rfl rfl ?_;simp -implicitDefEqProofs only[go_sem,JX,Ku,frz,Qa,Tr.row];refine J6 hP ?_;simp -implicitDefEqProofs only[go_sem,Jb,hg,Nd.cv,kbE];refine anO ?_;by_cases Bz:(nd t d).k=65
 ·simp -implicitDefEqProofs only[Bz,go_sem,if_true]
 have b65:((nd t d).k == 65)=false:=beq_eq_false_iff_ne.2 Bz;rw[if_neg Bz];by_cases Dq:(nd t d).k=64
 ·obtain⟨u,MH,Eu,UA,O9⟩:=QU g hd Bz;have Ad:=Ha O9;have Dc:=JF g Eu (i:=(nd t u).kids.length-1) (by omega);simp -implicitDefEqProofs only[Dq,go_sem,MH,if_true,Gl];refine JV Js (by decide) ?_;simp -implicitDefEqProofs only[go_sem];refine J9 (.inl rfl) (JcL g ht Eu Ad) ?_;simp -implicitDefEqProofs only[go_sem];refine J9 (.inl rfl) (YV g ht (show Jl t u<t.nodes.length by have:=Dc.2.1;unfold JL at this;unfold Jl;omega)) ?_;simp -implicitDefEqProofs only[go_sem]
 have b64:((nd t d).k == 64)=false:=beq_eq_false_iff_ne.2 Dq;rw[if_neg Dq];by_cases Cx:(nd t d).k=43
 ·obtain⟨u,MH,Eu,UA,O9⟩:=QU g hd Bz;have I1:(nd t u).k=28:=(Yo (JcN g Eu O9)).2.1 (by rw[Cx];rfl);obtain⟨a,b,ha,Sa,BF,_⟩:=Yj g Eu I1;have AV:(nd t u).n=(a:Int):=ha;have BJ:=(JdN ht Eu).kidn;have ah:b<(nd t u).kids.length:=BF;have OL:=JY Eu;simp -implicitDefEqProofs only[Cx,go_sem,MH,if_true,Gl,AV];refine JV Js (by decide) ?_;simp -implicitDefEqProofs only[go_sem,Jb,OL,Nd.cv,AV];refine anO ?_;refine J9 (.inl rfl) (Jde g ht Eu (by omega) true) ?_;simp -implicitDefEqProofs only[go_sem]
 have b43:((nd t d).k == 43)=false:=beq_eq_false_iff_ne.2 Cx;rw[if_neg Cx];by_cases Ck:(nd t d).k=47
 ·have Ad:(nd t d).kids.length=3:=(Jb0 g hd Ck).1;have Dc:=JF g hd (i:=(nd t d).kids.length-1) (by omega);simp -implicitDefEqProofs only[Ck,go_sem,if_true];refine JV Js (by decide) ?_;simp -implicitDefEqProofs only[go_sem];refine J9 (.inl rfl) (JcL g ht hd (by omega)) ?_;simp -implicitDefEqProofs only[go_sem];refine J9 (.inl rfl) (YV g ht (show Jl t d<t.nodes.length by have:=Dc.2.1;unfold JL at this;unfold Jl;omega)) ?_;simp -implicitDefEqProofs only[go_sem]
 have b47:((nd t d).k == 47)=false:=beq_eq_false_iff_ne.2 Ck;rw[if_neg Ck];by_cases Cn:(nd t d).k=42
 ·obtain⟨u,MH,Eu,UA,O9⟩:=QU g hd Bz;have I1:(nd t u).k=41:=(Yo (JcN g Eu O9)).2.2.1 (by rw[Cn];rfl);obtain⟨v,MG,Et,iZ,dN⟩:=QU g Eu (by omega);have Ce:(nd t v).k=40\/(nd t v).k=28:=(Yo (JcN g Et dN)).2.2.2.1 (by rw[I1];rfl);have bD:=JY Et;have bW:=Jbx g ht Eu;rw[MG]at bW;simp -implicitDefEqProofs only[Cn,go_sem,MH,MG,if_true,Gl];refine J6 bW ?_;simp -implicitDefEqProofs only[go_sem,Jb,bD,Nd.cv,kbE];refine anO ?_;by_cases Eb:(nd t v).k=40
  ·simp -implicitDefEqProofs only[Eb,go_sem,if_true];refine J6 (YV g ht Et) ?_;simp -implicitDefEqProofs only[go_sem]
  ·have b40:((nd t v).k == 40)=false:=beq_eq_false_iff_ne.2 Eb;obtain⟨a,b,ha,Sa,BF,_⟩:=Yj g Et (Ce.resolve_left Eb);have AV:(nd t v).n=(a:Int):=ha;have BJ:=(JdN ht Et).kidn;have ah:b<(nd t v).kids.length:=BF;simp -implicitDefEqProofs only[b40,go_sem,if_neg Eb];refine JV Js (by decide) ?_;simp -implicitDefEqProofs only[go_sem,Jb,bD,Nd.cv,AV];refine⟨by omega,Jh,?_⟩;have dA:=Jde g ht (j:=j) Et (show a+1<=100 by omega) false;rw[Int.natCast_add,show ((1:Nat):Int)=1 from rfl]at dA;refine J9 (.inl rfl) dA ?_;simp -implicitDefEqProofs only[go_sem]
 have b42:((nd t d).k == 42)=false:=beq_eq_false_iff_ne.2 Cn;rw[if_neg Cn];simp -implicitDefEqProofs only[b65,b64,b43,b47,b42,go_sem]
end
end
theorem twN_eq {t:Tr}{i:Nat}:twN t i=if (nd t i).k≠44/\KI (nd t i).k=false then false else(Ga i).any (twQ t i):=rfl
theorem nTwice {t:Tr}{i:Nat}(Ai:t.nodes.length<=100000)(hi:i<t.nodes.length):Fn Gb 88 [.rptr (tRw t),.int .i64 (i:Int)] (.bool (twN t i)):=by
 have hg:=JY hi;refine Jc c88_ok rfl rfl λN=>?_
 rw[twN_eq];simp -implicitDefEqProofs only[c88,go_sem];refine Jd (id:=0) (z:=1) (els:=[[.rptr (tRw t)]]) rfl rfl ?_;simp only[go_sem,JX,Ku,frz,Qa,Gf];refine Jd (id:=1) (z:=1) (els:=[[.int .i64 (i:Int)]]) rfl rfl ?_;simp only[go_sem,JX,Ku,frz,Qa,Gf];refine Ya [false,false,false,false,false,false,false,false,true,true] Js (by decide +kernel) ?_;simp -implicitDefEqProofs only[go_sem];refine vh_all (.rptr (tRw t)) (λ_=>rfl) trivial ?_;by_cases BH:(nd t i).k=44
 ·rw[if_neg (λh=>h.1 BH)];simp -implicitDefEqProofs only[go_sem,tRw,Jb,hg,Nd.cv,kbN,BH];refine anO ?_;refine Jd (id:=2) (z:=5) (els:=[(nd t i).cv]) (by simp only[Nd.cv,BH];rfl) rfl ?_;simp only[go_sem,JX,Ku,frz,Qa,Gf];refine JI (I:=λk:Nat=>k<=i/\(Ga i).any (twQ t i)=((Ga i).drop k).any (twQ t i)) (inv:=λk=>gp [(6,.fn 116 [] [.rptr [.rptr (tRw t)],.rptr (nd t i).cv,.rptr [.int .i64 (i:Int)]]),(19,.int .i64 (i:Int)),(0,.int .i64 (k:Int))] 6) (hp:=λ_=>[.dead,.dead,.dead]) (μ:=λk=>i-k) 0 ⟨by omega,rfl⟩ ?_ rfl ?_
  ·simp[forget,gp,tRw]
  ·rintro k ⟨hk,Aa⟩;by_cases Ab:k<i
   ·have d1:((k:Int)<(i:Int))=True:=Jq;rw[Qo Ab,Gx]at Aa;simp -implicitDefEqProofs only[go_sem,d1];refine vr_fv (.inl rfl) rfl c116_ok (Jb9 pNames _) (nTwice1 hi (by omega)) ?_
    cases hb:twQ t i k with
    |true=>
     rw[hb,Gy]at Aa;simp -implicitDefEqProofs only[go_sem,Aa]
    |false=>
     rw[hb,Gr]at Aa;simp -implicitDefEqProofs only[go_sem];refine⟨Jh,k+1,⟨by omega,Aa⟩,by omega,?_⟩;simp[forget]
   ·have d1:((k:Int)<(i:Int))=False:=Jo;rw[show (Ga i).drop k=[] from Gs (by simp;omega),GD]at Aa;simp -implicitDefEqProofs only[go_sem,d1,Aa]
 ·have b44:((nd t i).k == 44)=false:=beq_eq_false_iff_ne.2 BH;simp -implicitDefEqProofs only[go_sem,tRw,Jb,hg,Nd.cv,kbN,b44,Gi];refine anO ?_;refine Jd (id:=2) (z:=5) (els:=[(nd t i).cv]) rfl rfl ?_;simp only[go_sem,JX,Ku,frz,Qa,Gf];refine Kb (gok rfl) (nIsDecl t hi) ?_
  cases hd:KI (nd t i).k with
  |false=>
   simp -implicitDefEqProofs only[go_sem];rw[if_pos BH]
  |true=>
   rw[if_neg (show ¬((nd t i).k≠44/\true=false) from λh=>by cases h.2)];simp -implicitDefEqProofs only[go_sem];refine JI (I:=λk:Nat=>k<=i/\(Ga i).any (twQ t i)=((Ga i).drop k).any (twQ t i)) (inv:=λk=>gp [(6,.fn 116 [] [.rptr [.rptr (tRw t)],.rptr (nd t i).cv,.rptr [.int .i64 (i:Int)]]),(19,.int .i64 (i:Int)),(0,.int .i64 (k:Int))] 6) (hp:=λ_=>[.dead,.dead,.dead]) (μ:=λk=>i-k) 0 ⟨by omega,rfl⟩ ?_ rfl ?_
   ·simp[forget,gp,tRw]
   ·rintro k ⟨hk,Aa⟩;by_cases Ab:k<i
    ·have d1:((k:Int)<(i:Int))=True:=Jq;rw[Qo Ab,Gx]at Aa;simp -implicitDefEqProofs only[go_sem,d1];refine vr_fv (.inl rfl) rfl c116_ok (Jb9 pNames _) (nTwice1 hi (by omega)) ?_
     cases hb:twQ t i k with
     |true=>
      rw[hb,Gy]at Aa;simp -implicitDefEqProofs only[go_sem,Aa]
     |false=>
      rw[hb,Gr]at Aa;simp -implicitDefEqProofs only[go_sem];refine⟨Jh,k+1,⟨by omega,Aa⟩,by omega,?_⟩;simp[forget]
    ·have d1:((k:Int)<(i:Int))=False:=Jo;rw[show (Ga i).drop k=[] from Gs (by simp;omega),GD]at Aa;simp -implicitDefEqProofs only[go_sem,d1,Aa]
section
theorem JeZ {t:Tr}{j:Nat}(h:j<t.nodes.length):(K5 t).drop j=(j:Int)::(K5 t).drop (j+1):=by
 have hl:(K5 t).length=t.nodes.length:=by simp[K5]
 rw[GM (by omega)];simp[K5]
theorem Jhb {t:Tr}{j:Nat}(h:t.nodes.length<=j):(K5 t).drop j=[]:=Gs (by simp[K5];omega)
section
variable {t:Tr}{o:List Int}(g:GoodT t o)(ht:t.Fit)
include g ht
theorem refMeans3 {i:Nat}(hi:i<t.nodes.length)(hk:(nd t i).k=3):Fn Gb 28 [t.cv,.int .i64 (i:Int)] (.int .i64 (JfB t o i)):=by
 have Ai:=g.many;have hg:=JY hi;unfold JfB;refine Jc c28_ok rfl rfl λN=>?_
 simp -implicitDefEqProofs only[c28,go_sem,Tr.cv,Tr.row,Jb,hg,Nd.cv];refine anO ?_;refine Jd (id:=0) (z:=2) (els:=[t.row]) rfl rfl ?_;simp only[go_sem,JX,Ku,frz,Qa];refine Jd (id:=1) (z:=5) (els:=[(nd t i).cv]) rfl rfl ?_;simp only[go_sem,JX,Ku,frz,Qa,Gf];generalize hq:(λd:Int=>(nd t d.toNat).text == (nd t i).text && (KI (nd t d.toNat).k && (!((nd t d.toNat).k == 65) && inB t o d.toNat i)))=q;refine Jw (I:=λj:Nat=>j<=t.nodes.length/\(K5 t).find? q=((K5 t).drop j).find? q) (inv:=λj=>gp [(1,.int .i64 (i:Int)),(0,.rptr t.row),(2,.rptr (nd t i).cv),(0,.int .i64 (j:Int))] 64) (hp:=λ_=>[.dead,.dead]) (μ:=λj=>t.nodes.length-j) 0 [0,1] ⟨by omega,by rw[Gf]⟩ rfl ?_ rfl ?_
 ·simp[forget,JB,ren,gp,Tr.row]
 ·rintro j ⟨hj,Aa⟩;by_cases Ab:j<t.nodes.length
  ·have d1:((j:Int)<(t.nodes.length:Int))=True:=Jq;have Bv:=JY Ab;have BM:q (j:Int)=((nd t j).text == (nd t i).text && (KI (nd t j).k && (!((nd t j).k == 65) && inB t o j i))):=by rw[<-hq];simp only[Gl]
   rw[JeZ Ab,GH]at Aa
   cases Ct:((nd t j).text == (nd t i).text) with
   |false=>
    rw[BM,Ct,Gn]at Aa;simp -implicitDefEqProofs only[go_sem,Tr.row,Jb,d1,Bv,Nd.cv,Ct,Gi];refine⟨by omega,Jh,j+1,[0,1],⟨by omega,by rw[Aa]⟩,by omega,rfl,rfl,?_⟩;simp[forget,JB,ren,Jm]
   |true=>
    rw[BM,Ct,Gj]at Aa;simp -implicitDefEqProofs only[go_sem,Tr.row,Jb,d1,Bv,Nd.cv,Ct,Gh];refine anO ?_;refine Kb (gok rfl) (JaJ _) ?_
    cases hd:KI (nd t j).k with
    |false=>
     rw[hd,Gn]at Aa;simp -implicitDefEqProofs only[go_sem,Gi];refine⟨Jh,j+1,[0,1],⟨by omega,by rw[Aa]⟩,by omega,rfl,rfl,?_⟩;simp[forget,JB,ren,Jm]
    |true=>
     rw[hd,Gj]at Aa
     cases Bz:((nd t j).k == 65) with
     |true=>
      rw[Bz,Gh,Gn]at Aa;simp -implicitDefEqProofs only[go_sem,kbE,kbN,hk,Bz,Gh];refine⟨Jh,j+1,[0,1],⟨by omega,by rw[Aa]⟩,by omega,rfl,rfl,?_⟩;simp[forget,JB,ren,Jm]
     |false=>
      rw[Bz,Gi,Gj]at Aa;simp -implicitDefEqProofs only[go_sem,kbE,kbN,hk,Bz,Gi,Gh];refine Kb (gok rfl) (refInSight g ht Ab hi) ?_
      cases AU:inB t o j i with
      |true=>
       rw[AU]at Aa;simp -implicitDefEqProofs only[go_sem,Aa]
      |false=>
       rw[AU]at Aa;simp -implicitDefEqProofs only[go_sem];refine⟨Jh,j+1,[0,1],⟨by omega,by rw[Aa]⟩,by omega,rfl,rfl,?_⟩;simp[forget,JB,ren,Jm]
  ·have d1:((j:Int)<(t.nodes.length:Int))=False:=Jo;rw[Jhb (by omega),GI]at Aa;simp -implicitDefEqProofs only[go_sem,Tr.row,Jb,d1,Aa]
omit ht in
theorem refMeans26 {i:Nat}(hi:i<t.nodes.length)(hk:(nd t i).k=26):Fn Gb 28 [t.cv,.int .i64 (i:Int)] (.int .i64 (Jdi t i)):=by
 have Ai:=g.many;have hg:=JY hi;unfold Jdi;refine Jc c28_ok rfl rfl λN=>?_
 simp -implicitDefEqProofs only[c28,go_sem,Tr.cv,Tr.row,Jb,hg,Nd.cv];refine anO ?_;refine Jd (id:=0) (z:=2) (els:=[t.row]) rfl rfl ?_;simp only[go_sem,JX,Ku,frz,Qa];refine Jd (id:=1) (z:=5) (els:=[(nd t i).cv]) rfl rfl ?_;simp only[go_sem,JX,Ku,frz,Qa,Gf];generalize hq:(λd:Int=>(nd t d.toNat).text == (nd t i).text && (KI (nd t d.toNat).k && (nd t d.toNat).k == 65))=q;refine Jw (I:=λj:Nat=>j<=t.nodes.length/\(K5 t).find? q=((K5 t).drop j).find? q) (inv:=λj=>gp [(1,.int .i64 (i:Int)),(0,.rptr t.row),(2,.rptr (nd t i).cv),(0,.int .i64 (j:Int))] 64) (hp:=λ_=>[.dead,.dead]) (μ:=λj=>t.nodes.length-j) 0 [0,1] ⟨by omega,by rw[Gf]⟩ rfl ?_ rfl ?_
 ·simp[forget,JB,ren,gp,Tr.row]
 ·rintro j ⟨hj,Aa⟩;by_cases Ab:j<t.nodes.length
  ·have d1:((j:Int)<(t.nodes.length:Int))=True:=Jq;have Bv:=JY Ab;have BM:q (j:Int)=((nd t j).text == (nd t i).text && (KI (nd t j).k && (nd t j).k == 65)):=by rw[<-hq];simp only[Gl]
   rw[JeZ Ab,GH]at Aa
   cases Ct:((nd t j).text == (nd t i).text) with
   |false=>
    rw[BM,Ct,Gn]at Aa;simp -implicitDefEqProofs only[go_sem,Tr.row,Jb,d1,Bv,Nd.cv,Ct,Gi];refine⟨by omega,Jh,j+1,[0,1],⟨by omega,by rw[Aa]⟩,by omega,rfl,rfl,?_⟩;simp[forget,JB,ren,Jm]
   |true=>
    rw[BM,Ct,Gj]at Aa;simp -implicitDefEqProofs only[go_sem,Tr.row,Jb,d1,Bv,Nd.cv,Ct,Gh];refine anO ?_;refine Kb (gok rfl) (JaJ _) ?_
    cases hd:KI (nd t j).k with
    |false=>
     rw[hd,Gn]at Aa;simp -implicitDefEqProofs only[go_sem,Gi];refine⟨Jh,j+1,[0,1],⟨by omega,by rw[Aa]⟩,by omega,rfl,rfl,?_⟩;simp[forget,JB,ren,Jm]
    |true=>
     rw[hd,Gj]at Aa
     cases Bz:((nd t j).k == 65) with
     |true=>
      rw[Bz]at Aa;simp -implicitDefEqProofs only[go_sem,kbE,hk,Bz,Gh,Aa]
     |false=>
      rw[Bz]at Aa;simp -implicitDefEqProofs only[go_sem,kbE,hk,Bz,Gh];refine⟨Jh,j+1,[0,1],⟨by omega,by rw[Aa]⟩,by omega,rfl,rfl,?_⟩;simp[forget,JB,ren,Jm]
  ·have d1:((j:Int)<(t.nodes.length:Int))=False:=Jo;rw[Jhb (by omega),GI]at Aa;simp -implicitDefEqProofs only[go_sem,Tr.row,Jb,d1,Aa]
theorem refMeans44 {i:Nat}(hi:i<t.nodes.length)(hk:(nd t i).k=44):Fn Gb 28 [t.cv,.int .i64 (i:Int)] (.int .i64 (Jcb t i)):=by
 have Ai:=g.many;have hg:=JY hi;unfold Jcb;refine Jc c28_ok rfl rfl λN=>?_
 simp -implicitDefEqProofs only[c28,go_sem,Tr.cv,Tr.row,Jb,hg,Nd.cv];refine anO ?_;refine Jd (id:=0) (z:=2) (els:=[t.row]) rfl rfl ?_;simp only[go_sem,JX,Ku,frz,Qa];refine Jd (id:=1) (z:=5) (els:=[(nd t i).cv]) rfl rfl ?_;simp only[go_sem,JX,Ku,frz,Qa,Gf];generalize hq:(λd:Int=>(nd t d.toNat).text == (nd t i).text && (KI (nd t d.toNat).k && ((nd t d.toNat).k == 43 && Kh t d.toNat == Kh t i)))=q;refine Jw (I:=λj:Nat=>j<=t.nodes.length/\(K5 t).find? q=((K5 t).drop j).find? q) (inv:=λj=>gp [(1,.int .i64 (i:Int)),(0,.rptr t.row),(2,.rptr (nd t i).cv),(0,.int .i64 (j:Int))] 64) (hp:=λ_=>[.dead,.dead]) (μ:=λj=>t.nodes.length-j) 0 [0,1] ⟨by omega,by rw[Gf]⟩ rfl ?_ rfl ?_
 ·simp[forget,JB,ren,gp,Tr.row]
 ·rintro j ⟨hj,Aa⟩;by_cases Ab:j<t.nodes.length
  ·have d1:((j:Int)<(t.nodes.length:Int))=True:=Jq;have Bv:=JY Ab;have BM:q (j:Int)=((nd t j).text == (nd t i).text && (KI (nd t j).k && ((nd t j).k == 43 && Kh t j == Kh t i))):=by rw[<-hq];simp only[Gl]
   rw[JeZ Ab,GH]at Aa
   cases Ct:((nd t j).text == (nd t i).text) with
   |false=>
    rw[BM,Ct,Gn]at Aa;simp -implicitDefEqProofs only[go_sem,Tr.row,Jb,d1,Bv,Nd.cv,Ct,Gi];refine⟨by omega,Jh,j+1,[0,1],⟨by omega,by rw[Aa]⟩,by omega,rfl,rfl,?_⟩;simp[forget,JB,ren,Jm]
   |true=>
    rw[BM,Ct,Gj]at Aa;simp -implicitDefEqProofs only[go_sem,Tr.row,Jb,d1,Bv,Nd.cv,Ct,Gh];refine anO ?_;refine Kb (gok rfl) (JaJ _) ?_
    cases hd:KI (nd t j).k with
    |false=>
     rw[hd,Gn]at Aa;simp -implicitDefEqProofs only[go_sem,Gi];refine⟨Jh,j+1,[0,1],⟨by omega,by rw[Aa]⟩,by omega,rfl,rfl,?_⟩;simp[forget,JB,ren,Jm]
    |true=>
     rw[hd,Gj]at Aa;simp -implicitDefEqProofs only[go_sem,kbE,hk,Gh];refine Jd (id:=2) (z:=5) (els:=[(nd t j).cv]) rfl rfl ?_;simp only[go_sem,JX,Ku,frz,Qa,Gf,Nd.cv];refine JV Js (by decide) ?_
     cases Cx:((nd t j).k == 43) with
     |false=>
      rw[Cx,Gn]at Aa;simp -implicitDefEqProofs only[go_sem,kbE,Cx];refine⟨Jh,j+1,[0,1],⟨by omega,by rw[Aa]⟩,by omega,rfl,rfl,?_⟩;simp[forget,JB,ren]
     |true=>
      rw[Cx,Gj]at Aa;simp -implicitDefEqProofs only[go_sem,kbE,Cx];refine J9 (gok rfl) (Jbx g ht Ab) ?_;simp -implicitDefEqProofs only[go_sem];refine J9 (gok rfl) (Jbx g ht hi) ?_
      cases Db:(Kh t j == Kh t i) with
      |true=>
       rw[Db]at Aa;simp -implicitDefEqProofs only[go_sem,Db,Aa]
      |false=>
       rw[Db]at Aa;simp -implicitDefEqProofs only[go_sem,Db];refine⟨Jh,j+1,[0,1],⟨by omega,by rw[Aa]⟩,by omega,rfl,rfl,?_⟩;simp[forget,JB,ren]
  ·have d1:((j:Int)<(t.nodes.length:Int))=False:=Jo;rw[Jhb (by omega),GI]at Aa;simp -implicitDefEqProofs only[go_sem,Tr.row,Jb,d1,Aa]
theorem refMeans {i:Nat}(hi:i<t.nodes.length)(hs:KA t i=true):Fn Gb 28 [t.cv,.int .i64 (i:Int)] (.int .i64 (JU t o i)):=by
 unfold JU;unfold KA at hs;simp only[Bool.or_eq_true,beq_iff_eq]at hs;by_cases h3:(nd t i).k=3
 ·rw[if_pos h3];exact refMeans3 g ht hi h3
 ·rw[if_neg h3];by_cases Dr:(nd t i).k=26
  ·rw[if_pos Dr];exact refMeans26 g hi Dr
  ·rw[if_neg Dr,iP7];exact refMeans44 g ht hi (by omega)
def twRq (t:Tr)(o:List Int)(i k:Nat):Bool:=(nd t k).text == (nd t i).text && (if (nd t i).k=65 then(nd t k).k == 65 else if (nd t i).k=44 then(nd t k).k == 44 && Kh t k == Kh t i else KI (nd t k).k && (!((nd t k).k == 65) && YE t o k == YE t o i))
omit g ht in
theorem twR_eq {i:Nat}:twR t o i=if (nd t i).k≠44/\KI (nd t i).k=false then false else(Ga i).any (twRq t o i):=rfl
theorem refTwice {i:Nat}(hi:i<t.nodes.length):Fn Gb 29 [t.cv,.int .i64 (i:Int)] (.bool (twR t o i)):=by
 have Ai:=g.many;have hg:=JY hi;rw[twR_eq];refine Jc c29_ok rfl rfl λN=>?_
 simp -implicitDefEqProofs only[c29,go_sem,Tr.cv,Tr.row,Jb,hg,Nd.cv];refine anO ?_;refine Jd (id:=0) (z:=2) (els:=[t.row]) rfl rfl ?_;simp only[go_sem,JX,Ku,frz,Qa];refine Jd (id:=1) (z:=5) (els:=[(nd t i).cv]) rfl rfl ?_;simp only[go_sem,JX,Ku,frz,Qa,Gf,Nd.cv];refine J6 (JaJ _) ?_;by_cases BH:(nd t i).k=44
 ·have hd:KI (nd t i).k=false:=by rw[BH];rfl
  have b44:((nd t i).k == 44)=true:=beq_iff_eq.2 BH;have b65:((nd t i).k == 65)=false:=beq_eq_false_iff_ne.2 (by omega);rw[if_neg (show ¬((nd t i).k≠44/\KI (nd t i).k=false) from λh=>h.1 BH),hd];simp -implicitDefEqProofs only[go_sem,kbN,b44,Gi,Gh];generalize hq:twRq t o i=q;refine Jw (I:=λj:Nat=>j<=i/\(Ga i).any q=((Ga i).drop j).any q) (inv:=λj=>gp [(1,.int .i64 (i:Int)),(0,.rptr t.row),(2,.rptr (nd t i).cv),(0,.int .i64 (j:Int))] 71) (hp:=λ_=>[.dead,.dead]) (μ:=λj=>i-j) 0 [0,1] ⟨by omega,by rw[Gf]⟩ rfl ?_ rfl ?_
  ·simp[forget,JB,ren,gp,Tr.row,Nd.cv]
  ·rintro j ⟨hj,Aa⟩;by_cases Ab:j<i
   ·have MU:j<t.nodes.length:=by omega
    have d1:((j:Int)<(i:Int))=True:=Jq;have Bv:=JY MU;have BM:q j=twRq t o i j:=by rw[hq]
    unfold twRq at BM;rw[Qo Ab,Gx]at Aa
    cases Ct:((nd t j).text == (nd t i).text) with
    |false=>
     rw[BM,Ct,Gn,Gr]at Aa;simp -implicitDefEqProofs only[go_sem,Tr.row,Jb,d1,Bv,Nd.cv,Ct,Gi];refine⟨by omega,Jh,j+1,[0,1],⟨by omega,Aa⟩,by omega,rfl,rfl,?_⟩;simp[forget,JB,ren,Jm]
    |true=>
     rw[Ct,Gj]at BM;simp -implicitDefEqProofs only[go_sem,Tr.row,Jb,d1,Bv,Nd.cv,Ct,Gh,kbE,b65,b44];refine anO ?_;rw[iN7,if_pos BH]at BM;refine Jd (id:=2) (z:=5) (els:=[(nd t j).cv]) rfl rfl ?_;simp only[go_sem,JX,Ku,frz,Qa,Gf,Nd.cv];refine JV Js (by decide) ?_
     cases h:((nd t j).k == 44) with
     |false=>
      rw[BM,h,Gn,Gr]at Aa;simp -implicitDefEqProofs only[go_sem,kbE,h];refine⟨Jh,j+1,[0,1],⟨by omega,Aa⟩,by omega,rfl,rfl,?_⟩;simp[forget,JB,ren]
     |true=>
      rw[h,Gj]at BM;simp -implicitDefEqProofs only[go_sem,kbE,h];refine J9 (gok rfl) (Jbx g ht MU) ?_;simp -implicitDefEqProofs only[go_sem];refine J9 (gok rfl) (Jbx g ht hi) ?_
      cases Db:(Kh t j == Kh t i) with
      |true=>
       rw[BM,Db,Gy]at Aa;simp -implicitDefEqProofs only[go_sem,Db,Aa]
      |false=>
       rw[BM,Db,Gr]at Aa;simp -implicitDefEqProofs only[go_sem,Db];refine⟨Jh,j+1,[0,1],⟨by omega,Aa⟩,by omega,rfl,rfl,?_⟩;simp[forget,JB,ren]
   ·have d1:((j:Int)<(i:Int))=False:=Jo;rw[show (Ga i).drop j=[] from Gs (by simp;omega),GD]at Aa;simp -implicitDefEqProofs only[go_sem,d1,Aa]
 ·have b44:((nd t i).k == 44)=false:=beq_eq_false_iff_ne.2 BH
  cases hd:KI (nd t i).k with
  |false=>
   rw[if_pos ⟨BH,rfl⟩];simp -implicitDefEqProofs only[go_sem,kbN,b44,Gi]
  |true=>
   rw[if_neg (show ¬((nd t i).k≠44/\true=false) from λh=>by cases h.2)];simp -implicitDefEqProofs only[go_sem,Gh];by_cases Bz:(nd t i).k=65
   ·have b65:((nd t i).k == 65)=true:=beq_iff_eq.2 Bz;generalize hq:twRq t o i=q;refine Jw (I:=λj:Nat=>j<=i/\(Ga i).any q=((Ga i).drop j).any q) (inv:=λj=>gp [(1,.int .i64 (i:Int)),(0,.rptr t.row),(2,.rptr (nd t i).cv),(0,.int .i64 (j:Int))] 71) (hp:=λ_=>[.dead,.dead]) (μ:=λj=>i-j) 0 [0,1] ⟨by omega,by rw[Gf]⟩ rfl ?_ rfl ?_
    ·simp[forget,JB,ren,gp,Tr.row,Nd.cv]
    ·rintro j ⟨hj,Aa⟩;by_cases Ab:j<i
     ·have MU:j<t.nodes.length:=by omega
      have d1:((j:Int)<(i:Int))=True:=Jq;have Bv:=JY MU;have BM:q j=twRq t o i j:=by rw[hq]
      unfold twRq at BM;rw[Qo Ab,Gx]at Aa
      cases Ct:((nd t j).text == (nd t i).text) with
      |false=>
       rw[BM,Ct,Gn,Gr]at Aa;simp -implicitDefEqProofs only[go_sem,Tr.row,Jb,d1,Bv,Nd.cv,Ct,Gi];refine⟨by omega,Jh,j+1,[0,1],⟨by omega,Aa⟩,by omega,rfl,rfl,?_⟩;simp[forget,JB,ren,Jm]
      |true=>
       rw[Ct,Gj]at BM;simp -implicitDefEqProofs only[go_sem,Tr.row,Jb,d1,Bv,Nd.cv,Ct,Gh,kbE,b65];refine anO ?_;rw[if_pos Bz]at BM
       cases h:((nd t j).k == 65) with
       |true=>
        rw[BM,h,Gy]at Aa;simp -implicitDefEqProofs only[go_sem,Aa]
       |false=>
        rw[BM,h,Gr]at Aa;simp -implicitDefEqProofs only[go_sem];refine⟨Jh,j+1,[0,1],⟨by omega,Aa⟩,by omega,rfl,rfl,?_⟩;simp[forget,JB,ren,Jm]
     ·have d1:((j:Int)<(i:Int))=False:=Jo;rw[show (Ga i).drop j=[] from Gs (by simp;omega),GD]at Aa;simp -implicitDefEqProofs only[go_sem,d1,Aa]
   ·have b65:((nd t i).k == 65)=false:=beq_eq_false_iff_ne.2 Bz;generalize hq:twRq t o i=q;refine Jw (I:=λj:Nat=>j<=i/\(Ga i).any q=((Ga i).drop j).any q) (inv:=λj=>gp [(1,.int .i64 (i:Int)),(0,.rptr t.row),(2,.rptr (nd t i).cv),(0,.int .i64 (j:Int))] 71) (hp:=λ_=>[.dead,.dead]) (μ:=λj=>i-j) 0 [0,1] ⟨by omega,by rw[Gf]⟩ rfl ?_ rfl ?_
    ·simp[forget,JB,ren,gp,Tr.row,Nd.cv]
    ·rintro j ⟨hj,Aa⟩;by_cases Ab:j<i
     ·have MU:j<t.nodes.length:=by omega
      have d1:((j:Int)<(i:Int))=True:=Jq;have Bv:=JY MU;have BM:q j=twRq t o i j:=by rw[hq]
      unfold twRq at BM;rw[Qo Ab,Gx]at Aa
      cases Ct:((nd t j).text == (nd t i).text) with
      |false=>
       rw[BM,Ct,Gn,Gr]at Aa;simp -implicitDefEqProofs only[go_sem,Tr.row,Jb,d1,Bv,Nd.cv,Ct,Gi];refine⟨by omega,Jh,j+1,[0,1],⟨by omega,Aa⟩,by omega,rfl,rfl,?_⟩;simp[forget,JB,ren,Jm]
      |true=>
       rw[Ct,Gj]at BM;simp -implicitDefEqProofs only[go_sem,Tr.row,Jb,d1,Bv,Nd.cv,Ct,Gh,kbE,b65,b44];refine anO ?_;rw[if_neg Bz,if_neg BH]at BM;refine Jd (id:=2) (z:=5) (els:=[(nd t j).cv]) rfl rfl ?_;simp only[go_sem,JX,Ku,frz,Qa,Gf,Nd.cv];refine JV Js (by decide) ?_;simp -implicitDefEqProofs only[go_sem];refine J9 (.inl rfl) (JaJ _) ?_
       cases Z5:KI (nd t j).k with
       |false=>
        rw[BM,Z5,Gn,Gr]at Aa;simp -implicitDefEqProofs only[go_sem];refine⟨Jh,j+1,[0,1],⟨by omega,Aa⟩,by omega,rfl,rfl,?_⟩;simp[forget,JB,ren]
       |true=>
        rw[Z5,Gj]at BM
        cases h:((nd t j).k == 65) with
        |true=>
         rw[BM,h,Gh,Gn,Gr]at Aa;simp -implicitDefEqProofs only[go_sem,kbN,h,Gh];refine⟨Jh,j+1,[0,1],⟨by omega,Aa⟩,by omega,rfl,rfl,?_⟩;simp[forget,JB,ren]
        |false=>
         rw[h,Gi,Gj]at BM;simp -implicitDefEqProofs only[go_sem,kbN,h,Gi];refine J9 (gok rfl) (refItemOf g ht MU) ?_;simp -implicitDefEqProofs only[go_sem];refine J9 (gok rfl) (refItemOf g ht hi) ?_
         cases Db:(YE t o j == YE t o i) with
         |true=>
          rw[BM,Db,Gy]at Aa;simp -implicitDefEqProofs only[go_sem,Db,Aa]
         |false=>
          rw[BM,Db,Gr]at Aa;simp -implicitDefEqProofs only[go_sem,Db];refine⟨Jh,j+1,[0,1],⟨by omega,Aa⟩,by omega,rfl,rfl,?_⟩;simp[forget,JB,ren]
     ·have d1:((j:Int)<(i:Int))=False:=Jo;rw[show (Ga i).drop j=[] from Gs (by simp;omega),GD]at Aa;simp -implicitDefEqProofs only[go_sem,d1,Aa]
end
end
section
section
variable {P:Program}{E:Env}{H:List CObj}
def RowC (z:Nat)(els:List (List CV))(v:CV)(H':List CObj):Prop:=RowR z els v H'\/∃id es,v=.slc id 0 els.length none/\H'[id]? = some (.arr z es)/\es.take els.length=els/\els≠[]
theorem fnRow_cut {f:Nat}{args:List CV}{z:Nat}{els:List (List CV)}(h:CallsC P Env.none f args [] (RowC z els))(ha:Jp args=true)(hc:Jr els=true):Jdu P f args z els:=
 Jez (h.trunc (id:=0) (z:=0) (j:=0) (els:=[]) (v:=.un) λv H' hv=>by
  rcases hv with hv|⟨id,es,rfl,h2,h3,h4⟩
  ·exact .inl hv
  ·exact .inr ⟨id,z,es,els.length,h2,.row (id:=id) (XK h4).symm (by rw[Xu h4,h3,List.getElem?_set_self (List.getElem?_eq_some_iff.1 h2).1])⟩) ha hc
end
structure OfOk (t:Tr)(of:List Int):Prop where
 len:of.length=t.nodes.length
 rng:∀i,i<of.length->-1<=of.getD i 0/\of.getD i 0<t.nodes.length
theorem OfOk.dft {t:Tr}{of:List Int}(h:OfOk t of){i:Nat}(hi:i<of.length):of.getD i (-1)=of.getD i 0:=by
 simp[Gm,Gp hi]
def rRw (t:Tr)(of:List Int):List CV:=[.rptr (tRw t),.rslc 1 (iz of) none]
section
variable {t:Tr}{o:List Int}(g:GoodT t o)(ht:t.Fit)
include g ht
theorem nNeeds {of:List Int}(ho:OfOk t of){s:Nat}(hs:s<t.nodes.length)(hk:(nd t s).k=41):Jdu Gb 119 [.agg (rRw t of),.int .i64 (s:Int)] 1 (iz (Xy t o of s)):=by
 have Ai:=g.many;have Be:(iz of).length=t.nodes.length:=by rw[Jg,ho.len]
 rw[<-need_done g];refine fnRow_cut (J8 c119_ok λN=>?_) rfl (Je _);simp -implicitDefEqProofs only[c119,go_sem,rRw,Be];refine Jd (id:=0) (z:=2) (els:=[rRw t of]) rfl rfl ?_;simp only[go_sem,JX,Ku,frz,Qa,Gf];refine XW ?_;simp only[go_sem,G7,GA];refine Jw (I:=λi:Nat=>i<=t.nodes.length) (inv:=λi=>gp [(1,.int .i64 (s:Int)),(0,.rptr (rRw t of)),(1,K6 1 (iz (Xz t o of s (Ga i)))),(4,.rslc 1 (iz of) none),(0,.int .i64 (t.nodes.length:Int)),(0,.int .i64 (i:Int))] 70) (hp:=λi=>[.dead,QO 1 (iz (Xz t o of s (Ga i)))]) (μ:=λi=>t.nodes.length-i) 0 [0,1] (by omega) rfl ?_ rfl ?_
 ·simp[forget,JB,ren,gp,rRw,K6,iz,Xz]
 ·intro i hi;by_cases Ab:i<t.nodes.length
  ·have d1:((i:Int)<(t.nodes.length:Int))=True:=Jq;have Av:=JN (l:=of) (i:=i) (by rw[ho.len];exact Ab);have UH:=ho.rng i (by rw[ho.len];exact Ab);have Al:Xz t o of s (Ga (i+1))=Xz t o of s (Ga i)++Xz t o of s [i]:=by rw[Hf,needC_app]
   have Aq:=Jem (t:=t) (o:=o) (of:=of) (s:=s) (Ga i);rw[He]at Aq;have Z4:=ho.dft (i:=i) (by rw[ho.len];exact Ab);have h1:Xz t o of s [i]=if (decide (0<=of.getD i 0) && ((nd t (of.getD i 0).toNat).k == 42 && ((nd t i).k == 3 && (JbC o i s && (Kh t (Kh t (of.getD i 0).toNat).toNat == Kh t s && !buL t (upL t (Jl t s) t.nodes.length i) false)))))=true then [Kh t (of.getD i 0).toNat] else []:=by
    rw[Xz,Z4];rfl
   generalize Xz t o of s (Ga i)=acc at Al Aq|-;generalize of.getD i 0=m at Av UH h1;rcases Lc m 0 with Rt|Rt
   ·obtain rfl:m = -1:=by omega
    have e1:((-1:Int) == -1)=true:=by decide
    have AY:Xz t o of s [i]=[]:=by rw[h1,if_neg (by simp)]
    simp -implicitDefEqProofs only[go_sem,d1,Be,Av,e1];refine anO ?_;refine⟨Jh,i+1,[0,1],by omega,by omega,rfl,?_,?_⟩
    ·rw[Al,AY,Gq];simp only[Kl,Gc,Gd,go_sem,Qg (Ja (Je acc)),Jj]
    ·rw[Al,AY,Gq];simp[forget,JB,ren,Jm,Qt,rRw]
   obtain⟨m,rfl⟩:∃m':Nat,m=m':=⟨m.toNat,by omega⟩;have FJ:m<t.nodes.length:=by omega
   have e1:((m:Int) == -1)=false:=beq_eq_false_iff_ne.2 (by omega);rw[decide_eq_true Rt,Gj,Gl]at h1;simp -implicitDefEqProofs only[go_sem,d1,Be,Av,e1,rRw];refine anO ?_;refine Kb (gok rfl) (nKind t FJ) ?_
   cases IC:(nd t m).k == 42 with
   |false=>
    have AY:Xz t o of s [i]=[]:=by rw[h1,IC,if_neg (by simp)]
    simp -implicitDefEqProofs only[go_sem,kbN,IC,Gi];refine⟨Jh,i+1,[0,1],by omega,by omega,rfl,?_,?_⟩
    ·rw[Al,AY,Gq];simp only[Kl,Gc,Gd,go_sem,Qg (Ja (Je acc)),Jj]
    ·rw[Al,AY,Gq];simp[forget,JB,ren,Jm,Qt]
   |true=>
    rw[IC,Gj]at h1;simp -implicitDefEqProofs only[go_sem,kbN,IC,Gh];refine Kb (gok rfl) (nKind t Ab) ?_
    cases IE:(nd t i).k == 3 with
    |false=>
     have AY:Xz t o of s [i]=[]:=by rw[h1,IE,if_neg (by simp)]
     simp -implicitDefEqProofs only[go_sem,kbN,IE,Gi];refine⟨Jh,i+1,[0,1],by omega,by omega,rfl,?_,?_⟩
     ·rw[Al,AY,Gq];simp only[Kl,Gc,Gd,go_sem,Qg (Ja (Je acc)),Jj]
     ·rw[Al,AY,Gq];simp[forget,JB,ren,Jm,Qt]
    |true=>
     rw[IE,Gj]at h1;simp -implicitDefEqProofs only[go_sem,kbN,IE,Gh];refine Kb (gok rfl) (nBelow g Ab hs) ?_
     cases hb:JbC o i s with
     |false=>
      have AY:Xz t o of s [i]=[]:=by rw[h1,hb,if_neg (by simp)]
      simp -implicitDefEqProofs only[go_sem,Gi];refine⟨Jh,i+1,[0,1],by omega,by omega,rfl,?_,?_⟩
      ·rw[Al,AY,Gq];simp only[Kl,Gc,Gd,go_sem,Qg (Ja (Je acc)),Jj]
      ·rw[Al,AY,Gq];simp[forget,JB,ren,Jm,Qt]
     |true=>
      rw[hb,Gj]at h1;have Cn:(nd t m).k=42:=beq_iff_eq.1 IC;have h3:(nd t i).k=3:=beq_iff_eq.1 IE;obtain⟨v,MG,Et,_,_⟩:=QU g FJ (by omega);have hL:=nLate g ht hs hk ((Jdy g hs hk (by omega)).1 (QL.1 hb));rw[MG,Gl]at h1;simp -implicitDefEqProofs only[go_sem,Gh,tRw,Qs,upz FJ,MG];refine anO ?_;refine JV Js (by decide) ?_
      cases Db:(Kh t v == Kh t s) with
      |false=>
       have AY:Xz t o of s [i]=[]:=by rw[h1,Db,if_neg (by simp)]
       simp -implicitDefEqProofs only[go_sem,Qs,upz Et,upz hs,Db];refine⟨by omega,by omega,?_⟩;refine⟨Jh,i+1,[0,1],by omega,by omega,rfl,?_,?_⟩
       ·rw[Al,AY,Gq];simp only[Kl,Gc,Gd,go_sem,Qg (Ja (Je acc)),Jj]
       ·rw[Al,AY,Gq];simp[forget,JB,ren,Jm,Qt]
      |true=>
       rw[Db,Gj]at h1;simp -implicitDefEqProofs only[go_sem,Qs,upz Et,upz hs,Db];refine⟨by omega,by omega,?_⟩;refine J9 (gok rfl) hL ?_
       cases hl:buL t (upL t (Jl t s) t.nodes.length i) false with
       |true=>
        have AY:Xz t o of s [i]=[]:=by rw[h1,hl,if_neg (by simp)]
        simp -implicitDefEqProofs only[go_sem,Gh];refine⟨Jh,i+1,[0,1],by omega,by omega,rfl,?_,?_⟩
        ·rw[Al,AY,Gq];simp only[Kl,Gc,Gd,go_sem,Qg (Ja (Je acc)),Jj]
        ·rw[Al,AY,Gq];simp[forget,JB,ren,Jm,Qt]
       |false=>
        have Bh:Xz t o of s [i]=[(v:Int)]:=by rw[h1,hl,if_pos (by simp)]
        simp -implicitDefEqProofs only[go_sem,Gi,Jg,Jy];refine⟨⟨by omega,by omega⟩,Jh,i+1,[0,3],by omega,by omega,rfl,?_,?_⟩
        ·rw[Al,Bh,KU,Kq];simp only[Kl,Gc,Gd,go_sem,Jk,Jj];simp[Ja (Je acc),JB,ren]
        ·rw[Al,Bh,KU,Ko];simp[forget,JB,ren,Jm,Jg]
  ·have d1:((i:Int)<(t.nodes.length:Int))=False:=Jo;obtain rfl:i=t.nodes.length:=by omega
   have Aq:=Jem (t:=t) (o:=o) (of:=of) (s:=s) (Ga t.nodes.length);rw[He]at Aq;generalize Xz t o of s (Ga t.nodes.length)=acc at Aq|-
   cases acc with
   |nil=>
    simp -implicitDefEqProofs only[go_sem,d1,Xm,Q8];refine J6 sortNil ?_;simp -implicitDefEqProofs only[go_sem];refine J6 compactNil ?_;simp -implicitDefEqProofs only[go_sem];rw[show Lib.compact (([]:List Int).mergeSort λx y=>decide (x<=y))=[] by rw[Hy];rfl];exact .inl .nil
   |cons x xs=>
    simp -implicitDefEqProofs only[go_sem,d1,Ki,Yi,JaH,Jg];refine Ke (.inl rfl) (sortRow (l:=x::xs) (by simp) (by omega) rfl) λv H' ⟨h1,h2⟩=>?_
    subst h1 h2;simp -implicitDefEqProofs only[go_sem];have DN:((x::xs).mergeSort λx y=>decide (x<=y)).length=xs.length+1:=by rw[Hd];rfl
    generalize ((x::xs).mergeSort λx y=>decide (x<=y))=S at DN|-;have bT:S≠[]:=by rintro rfl;simp at DN
    rw[<-DN];refine Ke (.inl rfl) (compactRow (l:=S) bT (by simp only[Gg]at Aq;omega) rfl) λv H' ⟨h1,h2⟩=>?_
    subst h1 h2;simp -implicitDefEqProofs only[go_sem];have FY:Lib.compact S≠[]:=by
     obtain⟨y,hy⟩:=List.exists_mem_of_ne_nil _ bT;exact List.ne_nil_of_mem (JeM.2 hy)
    refine .inr ⟨1,_,by rw[Jg],rfl,?_,by simpa [iz]using FY⟩;rw[KP,List.take_left' rfl]
end
end
section
def nz (l:List Nat):List Int:=l.map λx:Nat=>(x:Int)
theorem nz_len {l:List Nat}:(nz l).length=l.length:=by simp[nz]
theorem nz_cons {x:Nat}{l:List Nat}:nz (x::l)=(x:Int)::nz l:=rfl
theorem nz_get {l:List Nat}{i:Nat}(h:i<l.length):(nz l).getD i 0=(l.getD i 0:Nat):=by
 simp[nz,Gm,Gp h]
theorem nzz_get {l:List Nat}{i:Nat}(h:i<l.length):(iz (nz l)).getD i []=[.int .i64 (l.getD i 0:Nat)]:=by rw[JN (by rw[nz_len];exact h),nz_get h]
theorem Xd {l:List Nat}:(iz (nz l)).length=l.length:=by rw[Jg,nz_len]
section
variable {t:Tr}{o:List Int}(g:GoodT t o)(ht:t.Fit)
include g ht
theorem refWay {top a0:Nat}(Bl:top<t.nodes.length)(En:blw o a0 top):Fn Gb 99 [t.cv,.int .i64 (top:Int),.int .i64 (a0:Int)] (.rslc 1 (iz (nz (upL t top t.nodes.length a0).reverse)) none):=by
 have Ai:=g.many;have SA:=up_len g (f:=t.nodes.length) Bl En (by omega);have Al:=way_start (t:=t) (top:=top) (f:=t.nodes.length) (a:=a0);generalize hR:(upL t top t.nodes.length a0).reverse=R at Al|-;have Ui:R.length<=t.nodes.length:=by rw[<-hR,Hw];omega
 refine YY ?_ rfl rfl;refine J8 c99_ok λN=>?_
 simp -implicitDefEqProofs only[c99,go_sem,Tr.cv,Tr.row];refine Jd (id:=0) (z:=2) (els:=[t.row]) rfl rfl ?_;simp only[go_sem,JX,Ku,frz,Qa,Gc,Gd];refine Jw (σ:=Nat×Nat×List Nat×Option Nat) (I:=λs=>blw o s.2.1 top/\t.nodes.length<=s.2.1+s.1/\R=(upL t top s.1 s.2.1).tail.reverse++s.2.2.1/\s.2.2.1≠[]) (inv:=λs=>gp [(1,.int .i64 (top:Int)),(0,.int .i64 (s.2.1:Int)),(0,.rptr t.row),(3,.slc 1 0 s.2.2.1.length s.2.2.2)] 13) (hp:=λs=>[.dead,.arr 1 (iz (nz s.2.2.1))]) (μ:=λs=>t.nodes.length-s.2.1) (t.nodes.length,a0,[a0],some 1) [0,1] ⟨En,by simp only;omega,Al,by simp⟩ rfl ?_ ?_ ?_
 ·simp[forget,JB,ren,Jm,gp,Tr.row]
 ·simp[Kl,JB,ren,Xv,iz,nz]
 ·rintro⟨f,a,w,cap⟩ ⟨hb,hf,hw,Ah⟩
  dsimp only at hb hf hw Ah
  have ha:a<t.nodes.length:=by have:=hb.1;omega
  by_cases he:a=top
  ·subst he;rw[way_end,List.reverse_nil,GA]at hw;have e1:((a:Int) != (a:Int))=false:=by simp
   simp -implicitDefEqProofs only[go_sem,e1];refine .step 1 1 (iz (nz w)) rfl (Je _) (.done ?_);have hx:G8 w.length (iz (nz w))=iz (nz w):=Gu (by rw[Xd];omega);simp only[frz,if_true,GN,Xd,GQ,Gf,hx];rw[hw];exact wk.refl _
  ·have e1:((a:Int) != (top:Int))=true:=bne_iff_ne.2 (by omega);obtain⟨m,f',h1,h2,h3,h4,h5,h6⟩:=way_step g Bl hb hf he;rw[h6]at hw;have dH:w.length+1<=R.length:=by rw[hw,Gv,Gg];omega
   have hP:=Jbx g ht ha;rw[h1]at hP;obtain⟨y,ys,rfl⟩:=List.exists_cons_of_ne_nil Ah;simp only[Gg]at dH;have CE:G8 (ys.length+1) (([CV.int .i64 (y:Int)])::iz (nz ys))=[CV.int .i64 (y:Int)]::iz (nz ys):=Gu (by simp[Xd]);simp -implicitDefEqProofs only[go_sem,e1,Tr.row];refine J6 hP ?_;simp -implicitDefEqProofs only[go_sem,nz_cons,Ki,Gg,CE,Xd,Jy,Gf];refine⟨⟨by omega,by omega,by omega⟩,(f',m,m::y::ys,none),[0,3],⟨h4,h5,hw,by simp⟩,by simp only;omega,rfl,?_,?_⟩
   ·have Aq:=Ja (ρ:=[0,3]) (Je (nz ys));simp[Kl,JB,ren,Xv,nz_cons,Ki,Aq]
   ·simp[forget,JB,ren,Jm];omega
theorem refLate {a0 s:Nat}(hs:s<t.nodes.length)(hk:(nd t s).k=41)(En:blw o a0 (Jl t s)):Fn Gb 72 [t.cv,.int .i64 (a0:Int),.int .i64 (s:Int)] (.bool (tdL t (upL t (Jl t s) t.nodes.length a0).reverse false)):=by
 have Ai:=g.many;have PU:=set_kid g hs hk;have Dz:Jl t s<t.nodes.length:=by have:=(JQ g hs PU.1).2;omega
 have SA:=up_len g (f:=t.nodes.length) Dz En (by omega);have hW:=refWay g ht Dz En;have Mg:=up_rng g t.nodes.length a0 (Jl t s) Dz En;have Fb:=up_kids g t.nodes.length a0 (Jl t s) Dz En;have aX:∀i,i+1<(upL t (Jl t s) t.nodes.length a0).reverse.length->((((upL t (Jl t s) t.nodes.length a0).reverse.getD (i+1) 0:Nat):Int)∈(nd t ((upL t (Jl t s) t.nodes.length a0).reverse.getD i 0)).kids/\(upL t (Jl t s) t.nodes.length a0).reverse.getD i 0<t.nodes.length):=λi hi=>pairs_rev Fb hi
 have MM:∀x∈(upL t (Jl t s) t.nodes.length a0).reverse,x<t.nodes.length:=λx hx=>Mg x (List.mem_reverse.1 hx)
 have Ui:(upL t (Jl t s) t.nodes.length a0).reverse.length<=t.nodes.length:=by rw[Hw];omega
 generalize (upL t (Jl t s) t.nodes.length a0).reverse=R at hW aX MM Ui|-;refine Jc c72_ok rfl rfl λN=>?_
 simp -implicitDefEqProofs only[c72,go_sem,Tr.cv,Tr.row];refine Jd (id:=0) (z:=2) (els:=[t.row]) rfl rfl ?_;simp only[go_sem,JX,Ku,frz,Qa,Gc,Gd];refine JV Js (by decide) ?_;simp -implicitDefEqProofs only[go_sem,Tr.row];refine J9 (.inl rfl) (JcL g ht hs PU.2) ?_;simp -implicitDefEqProofs only[go_sem];refine J9 (.inl rfl) hW ?_;simp -implicitDefEqProofs only[go_sem];generalize hD:tdL t R false=D;refine Jw (I:=λi:Nat=>i<=R.length/\D=tdL t (R.drop i) false) (inv:=λi=>gp [(3,.rptr t.row),(3,.rslc 1 (iz (nz R)) none),(0,.int .i64 (i:Int))] 54) (hp:=λ_=>[.dead]) (μ:=λi=>R.length-i) 0 [0] ⟨by omega,by rw[Gf,hD]⟩ rfl ?_ rfl ?_
 ·simp[forget,JB,ren,gp,Tr.row]
 ·rintro i ⟨hi,Aa⟩;by_cases Ab:i+1<R.length
  ·have d1:((i:Int)+1<(R.length:Int))=True:=Jq;rw[tdL_drop Ab]at Aa;obtain⟨hc,hu⟩:=aX i Ab;have FQ:=nzz_get (l:=R) (i:=i) (by omega);have M3:=nzz_get Ab;have FY:R.getD (i+1) 0<t.nodes.length:=MM _ (by rw[Gm,Gp Ab];exact Gw Ab);generalize R.getD i 0=u at Aa hc hu FQ;generalize R.getD (i+1) 0=c at Aa hc M3 FY;have OL:=JY hu;have DT:=JY FY;have MS:=Ha hc;have I4:((i:Int)+1).toNat=i+1:=by omega
   simp -implicitDefEqProofs only[go_sem,Xd,d1];refine⟨Jh,?_⟩;refine Ya [false,false,false,false,false,false,false,false,true,true] Js (by decide +kernel) ?_;by_cases h4:(nd t u).k=4
   ·have IU:Jhd t u c=some true:=by unfold Jhd;rw[if_pos h4]
    rw[IU]at Aa;simp -implicitDefEqProofs only[go_sem,Tr.row,Jb,Xd,FQ,OL,Nd.cv,kbE,h4];exact⟨by omega,by omega,by rw[Aa]⟩
   have b4:((nd t u).k == 4)=false:=beq_eq_false_iff_ne.2 h4;by_cases aO:(nd t u).k=46
   ·have IU:Jhd t u c=some (c == Jl t u):=by unfold Jhd;rw[if_neg h4,if_pos (.inl aO)]
    have b46:((nd t u).k == 46)=true:=beq_iff_eq.2 aO;rw[IU]at Aa;simp -implicitDefEqProofs only[go_sem,Tr.row,Jb,Xd,FQ,OL,Nd.cv,kbE,b4,b46];refine⟨by omega,by omega,?_⟩;refine JV Js (by decide) ?_;simp -implicitDefEqProofs only[go_sem,Xd,I4,FQ,M3];refine⟨Jh,by omega,by omega,?_⟩;refine J9 (.inl rfl) (JcL g ht hu MS) ?_;have en:=Jdq (Jl t u) c;simp -implicitDefEqProofs only[go_sem,en,Aa]
   have b46:((nd t u).k == 46)=false:=beq_eq_false_iff_ne.2 aO;by_cases Ck:(nd t u).k=47
   ·have IU:Jhd t u c=some (c == Jl t u):=by unfold Jhd;rw[if_neg h4,if_pos (.inr Ck)]
    have b47:((nd t u).k == 47)=true:=beq_iff_eq.2 Ck;rw[IU]at Aa;simp -implicitDefEqProofs only[go_sem,Tr.row,Jb,Xd,FQ,OL,Nd.cv,kbE,b4,b46,b47];refine⟨by omega,by omega,?_⟩;refine JV Js (by decide) ?_;simp -implicitDefEqProofs only[go_sem,Xd,I4,FQ,M3];refine⟨Jh,by omega,by omega,?_⟩;refine J9 (.inl rfl) (JcL g ht hu MS) ?_;have en:=Jdq (Jl t u) c;simp -implicitDefEqProofs only[go_sem,en,Aa]
   have b47:((nd t u).k == 47)=false:=beq_eq_false_iff_ne.2 Ck;by_cases DW:(nd t u).k=28
   ·have b28:((nd t u).k == 28)=true:=beq_iff_eq.2 DW;simp -implicitDefEqProofs only[go_sem,Tr.row,Jb,Xd,FQ,OL,Nd.cv,kbE,b4,b46,b47,b28];refine⟨by omega,by omega,?_⟩;refine JV Js (by decide) ?_;by_cases Cx:(nd t c).k=43
    ·have IU:Jhd t u c=none:=by unfold Jhd;rw[if_neg h4,iN7,if_pos DW,if_pos Cx]
     have b43:((nd t c).k == 43)=true:=beq_iff_eq.2 Cx;rw[IU]at Aa;simp -implicitDefEqProofs only[go_sem,Xd,I4,M3,Jb,DT,Nd.cv,kbN,b43,Gh];refine⟨Jh,by omega,by omega,Jh,i+1,[0],⟨by omega,Aa⟩,by omega,rfl,rfl,?_⟩;simp[forget,JB,ren,Jm]
    ·have IU:Jhd t u c=some false:=by unfold Jhd;rw[if_neg h4,iN7,if_pos DW,if_neg Cx]
     have b43:((nd t c).k == 43)=false:=beq_eq_false_iff_ne.2 Cx;rw[IU]at Aa;simp -implicitDefEqProofs only[go_sem,Xd,I4,M3,Jb,DT,Nd.cv,kbN,b43,Gi];exact⟨Jh,by omega,by omega,by rw[Aa]⟩
   have b28:((nd t u).k == 28)=false:=beq_eq_false_iff_ne.2 DW;have IU:Jhd t u c=none:=by unfold Jhd;rw[if_neg h4,iN7,if_neg DW]
   rw[IU]at Aa;simp -implicitDefEqProofs only[go_sem,Tr.row,Jb,Xd,FQ,OL,Nd.cv,kbE,b4,b46,b47,b28];refine⟨by omega,by omega,Jh,i+1,[0],⟨by omega,Aa⟩,by omega,rfl,rfl,?_⟩;simp[forget,JB,ren,Jm]
  ·have d1:((i:Int)+1<(R.length:Int))=False:=Jo;rw[tdL_end (by omega)]at Aa;simp -implicitDefEqProofs only[go_sem,Xd,d1,Aa];exact Jh
end
end
section
theorem indexO {E:Env}{H:List CObj}{id:Nat}{l:List Int}{x:Int}(hl:l.length<=1000000)(hH:H[id]? = some (.arr 1 (iz l))):CallsC Gb E 118 [.slc id 0 l.length none,.int .i64 x] H λv H'=>v=.int .i64 (XI (λy=>x == y) l 0)/\H'=H:=by
 have Ak:(iz l).length=l.length:=Jg;refine J8 c118_ok λN=>?_
 simp -implicitDefEqProofs only[c118,go_sem];refine JI (I:=λi:Nat=>i<=l.length/\XI (λy=>x == y) l 0=XI (λy=>x == y) (l.drop i) i) (inv:=λi=>gp [(0,.slc id 0 l.length none),(0,.int .i64 x),(5,.int .i64 (l.length:Int)),(0,.int .i64 (i:Int))] 10) (hp:=λ_=>H) (μ:=λi=>l.length-i) 0 ⟨by omega,rfl⟩ ?_ rfl ?_
 ·simp[forget,gp]
 ·rintro i ⟨hi,Aa⟩;by_cases Ab:i<l.length
  ·have d1:((i:Int)<(l.length:Int))=True:=Jq;have Av:=JN Ab;have Ci:l[i]? = some (l.getD i 0):=by rw[Gm,Gp Ab];rfl
   rw[Q6 Ci]at Aa;simp -implicitDefEqProofs only[go_sem,d1,hH,Ak,Av];generalize l.getD i 0=y at Aa Av|-;refine⟨by omega,by omega,?_⟩
   cases he:(x == y) with
   |true=>
    rw[he,if_pos rfl]at Aa;simp -implicitDefEqProofs only[go_sem,Aa]
   |false=>
    rw[he]at Aa;simp -implicitDefEqProofs only[go_sem];refine⟨Jh,i+1,⟨by omega,by simpa using Aa⟩,by omega,?_⟩;simp[forget]
  ·have d1:((i:Int)<(l.length:Int))=False:=Jo;rw[Gs (by omega)]at Aa;simp -implicitDefEqProofs only[go_sem,d1,Aa,XI]
theorem containsO {E:Env}{H:List CObj}{id:Nat}{l:List Int}{x:Int}(hl:l.length<=100000)(hH:H[id]? = some (QO 1 (iz l))):CallsC Gb E 90 [K6 id (iz l),.int .i64 x] H λv H'=>v=.bool (l.contains x)/\H'=H:=by
 cases l with
 |nil=>exact(containsI [] x (by simp)).args (args':=[.nils,.int .i64 x]) ⟨wk.nils,wk.refl _,trivial⟩ E H
 |cons y l=>
  rw[Ki,JaH,<-Ki]at hH;have hc:=indexO (E:=E) (x:=x) (l:=y::l) (by omega) hH;rw[show K6 id (iz (y::l))=.slc id 0 (y::l).length none by rw[Ki,Yi,Jg];rfl];generalize y::l=L at *;refine J8 c90_ok λN=>?_
  simp -implicitDefEqProofs only[c90,go_sem];refine Ke (.inl rfl) hc λv H' ⟨h1,h2⟩=>?_
  subst h1 h2;have e:decide (0<=XI (λy=>x == y) L 0)=L.contains x:=by rw[Jaf,Ht]
  simp -implicitDefEqProofs only[go_sem,e]
theorem JgG {l:List Int}{n:Nat}:(iz l).drop n=iz (l.drop n):=by simp[iz]
def todoV (els:List Int)(off:Nat):CV:=match els with
 |[]=>.nils
 |_::_=>.slc 2 off (els.length-off) none
theorem Jfg {els:List Int}:todoV els 0=K6 2 (iz els):=by cases els <;> simp[todoV,iz,K6]
theorem Jgf {els:List Int}{off:Nat}(h:els≠[]):todoV els off=.slc 2 off (els.length-off) none:=by cases els <;> simp_all [todoV]
theorem Jcd:∀{l out:List Int},Yv l out<=l.length
 |[],_=>GQ _
 |y::l,out=>by
  have:=Jcd (l:=l) (out:=out);simp only[Yv,Gg]
  split <;> omega
theorem needN_ok {t:Tr}{o of:List Int}:∀x∈K5 t,(∀y∈Xy t o of x.toNat,y∈K5 t)/\(Xy t o of x.toNat).length<=(K5 t).length:=
 λx _=>⟨λy hy=>(GX.1 hy).1,Gz _ _⟩
section
variable {t:Tr}{o:List Int}(g:GoodT t o)(ht:t.Fit)
include g ht
theorem nAll {of:List Int}(ho:OfOk t of){s:Nat}(hs:s<t.nodes.length)(hk:(nd t s).k=41):Jdu Gb 91 [.agg (rRw t of),.int .i64 (s:Int)] 1 (iz (bfs (λx=>Xy t o of x.toNat) (K5 t) (Xy t o of s) [])):=by
 have Ai:=g.many;have Am:(K5 t).length=t.nodes.length:=by simp[K5]
 refine Jez (J8 c91_ok λN=>?_) rfl (Je _);simp -implicitDefEqProofs only[c91,go_sem,rRw];refine Jd (id:=0) (z:=2) (els:=[rRw t of]) rfl rfl ?_;simp only[go_sem,JX,Ku,frz,Qa,Gf];refine XW ?_;simp only[go_sem,G7,GA];refine Jfd (.inl rfl) (nNeeds g ht ho hs hk) ?_;simp -implicitDefEqProofs only[go_sem];have BB:∀s':Nat,∀x∈Xy t o of s',0<=x/\x<t.nodes.length/\(nd t x.toNat).k=41:=λs' x hx=>JdF g hx
 generalize hN:(λx:Int=>Xy t o of x.toNat)=Nf;have EW:∀x∈K5 t,(∀y∈Nf x,y∈K5 t)/\(Nf x).length<=(K5 t).length:=by rw[<-hN];exact needN_ok
 have Ik:∀x,∀y∈Nf x,0<=y/\y<t.nodes.length/\(nd t y.toNat).k=41:=λx y hy=>by rw[<-hN]at hy;exact BB _ y hy
 have h0:=BB s;have IB:(Xy t o of s).length<=t.nodes.length:=by rw[<-Am];exact Gz _ _
 generalize Xy t o of s=T0 at h0 IB|-;generalize hR:bfs Nf (K5 t) T0 []=R;have Al:Yv (K5 t) []*((K5 t).length+1)<=700*701:=Lf (GK Jcd (by omega)) (by omega);refine Jw (σ:=List Int×Nat×List Int) (I:=λs'=>s'.2.1<=s'.1.length/\(∀x∈s'.1,0<=x/\x<t.nodes.length/\(nd t x.toNat).k=41)/\bfs Nf (K5 t) (s'.1.drop s'.2.1) s'.2.2=R/\muB (K5 t) (s'.1.drop s'.2.1) s'.2.2<=1000000/\s'.2.2.length+Yv (K5 t) s'.2.2<=700)
  (inv:=λs'=>gp [(2,.rptr (rRw t of)),(1,K6 1 (iz s'.2.2)),(0,todoV s'.1 s'.2.1)] 26) (hp:=λs'=>[.dead,QO 1 (iz s'.2.2),QO 1 (iz s'.1)]) (μ:=λs'=>muB (K5 t) (s'.1.drop s'.2.1) s'.2.2) (T0,0,[]) [0,1,2] ⟨by simp,h0,by simpa using hR,by simp only[Gf,muB];omega,by have:=Jcd (l:=K5 t) (out:=[]);simp only[Gt];omega⟩ rfl ?_ ?_ ?_
 ·simp[forget,JB,ren,Jm,gp,rRw,Jfg,Qt,Q8,Xm]
 ·simp only[Kl,Gc,Gd,go_sem,Qg (Ja (Je T0)),Jj,Xm,Yc]
 ·rintro⟨els,off,out⟩ ⟨Iy,hP,hB,Ml,AR⟩
  dsimp only at Iy hP hB Ml AR
  by_cases Ah:els=[]
  ·subst Ah;rw[List.drop_nil,bfs_nil]at hB;have d1:((0:Int) > 0)=False:=Jo;have d2:((0:Int)<0)=False:=Jo;simp -implicitDefEqProofs only[go_sem,todoV,d1];rw[<-hB];exact .row (id:=1) rfl rfl
  ·have UJ:QO 1 (iz els)=.arr 1 (iz els):=Xu (by simpa [iz]using Ah);have D5:(iz els).length=els.length:=Jg;rw[UJ,Jgf Ah];by_cases Ab:off<els.length
   ·have d1:((0:Int)<((els.length-off:Nat):Int))=True:=Jq;have d2:(((els.length-off:Nat):Int) > 0)=True:=Jq;have Av:=JN Ab;have FW:els.drop off=els.getD off 0::els.drop (off+1):=by
     rw[GM Ab,Gm,Gp Ab];rfl
    have AB:els.getD off 0∈els:=by rw[Gm,Gp Ab];exact Gw Ab
    have Sg:=hP _ AB;have Aj:∀y∈els.drop off,y∈K5 t:=λy hy=>by
     have:=hP y (G5 hy);exact KD.2 ⟨this.1,this.2.1⟩
    rw[FW]at hB Aj Ml|-;have OB:=Ml;simp only[muB,Gg]at OB;generalize hx:els.getD off 0=x at Av Sg hB Aj Ml|-;have bB:(((els.length-off:Nat):Int)).toNat-(1:Int).toNat=els.length-(off+1):=by omega
    simp -implicitDefEqProofs only[go_sem,d1,D5,Av,Hl];refine⟨by omega,⟨by omega,GJ _⟩,?_⟩;have Pw:x∈K5 t:=Aj x (by simp);have Be:out.length<=700:=by omega
    refine Ke (.inl rfl) (containsO (id:=1) (l:=out) (x:=x) (by omega) rfl) λv H' ⟨h1,h2⟩=>?_
    subst h1 h2
    cases hc:out.contains x with
    |true=>
     rw[bfs_old EW Aj hc]at hB;simp -implicitDefEqProofs only[go_sem,Gh];refine⟨(els,off+1,out),[0,1,2],⟨by simp only;omega,hP,hB,by simp only[muB];omega,AR⟩,by simp only[muB,Gg];omega,rfl,?_,?_⟩
     ·simp only[Kl,Gc,Gd,go_sem,Qg (Ja (Je out)),Jk,Ja (Je els),Jj,UJ]
     ·simp[forget,JB,ren,Jm,Qt,rRw,Jgf Ah];omega
    |false=>
     rw[bfs_new EW Aj hc]at hB;have CG:=YX Pw hc;have UY:=Ld ((K5 t).length+1) (show Yv (K5 t) (out++[x])+1<=Yv (K5 t) out from CG);rw[Ho,Hm]at UY;have Cy:=(EW x Pw).2;obtain⟨xn,rfl⟩:∃x':Nat,x=x':=⟨x.toNat,by omega⟩;have F3:=Sg.2.2;rw[Gl]at F3;have az:Xy t o of xn=Nf (xn:Int):=by rw[<-hN];simp only[Gl]
     have PM:=Ik (xn:Int);have Si:=(nNeeds g ht ho (show xn<t.nodes.length by omega) F3).fn rfl (Je _);rw[az]at Si;simp -implicitDefEqProofs only[go_sem,Gi,Jg,Jy,rRw];refine⟨⟨by omega,by omega⟩,?_⟩;refine J6 Si ?_;generalize Nf (xn:Int)=M at Cy PM hB|-;have OP:off+1+(els.length-off-1)=els.length:=by omega
     have OO:(off+1+(els.length-off-1)=els.length)=True:=eq_true OP;have hd:=HZ (i:=off+1) (l:=els)
     cases M with
     |nil=>
      simp -implicitDefEqProofs only[go_sem,Xm];rw[Gq]at hB;refine⟨(els,off+1,out++[(xn:Int)]),[0,4,2],⟨by simp only;omega,hP,hB,by simp only[muB];omega,by simp only[Gv,Gg,Gt];omega⟩,by simp only[muB,Gg];omega,rfl,?_,?_⟩
      ·rw[UJ,KU,Kq];simp only[Kl,Gc,Gd,go_sem,Jk,Ja (Je els),Jj];simp[Ja (Je out),JB,ren]
      ·rw[Jgf Ah,KU,Ko];simp[forget,JB,ren,Jm,Jg];omega
     |cons y ys=>
      simp -implicitDefEqProofs only[go_sem,Ki,D5,OO,Jg,Jy];simp only[Gg]at Cy;refine⟨⟨by omega,by omega⟩,(els.drop (off+1)++y::ys,0,out++[(xn:Int)]),[0,4,5],⟨by simp,λz hz=>?_,by simpa using hB,by simp only[Gf,muB,Gv,Gg];omega,by simp only[Gv,Gg,Gt];omega⟩,by simp only[Gf,muB,Gv,Gg];omega,rfl,?_,?_⟩
      ·rcases Hg.1 hz with h|h
       ·exact hP z (G5 h)
       ·exact PM z h
      ·rw[KU,Kq,KP,Ki,Kq,<-JgG];simp only[Kl,Gc,Gd,go_sem,Jk,Jj];rw[JgG];simp[Ja (Je out),Ja (Je (els.drop (off+1))),Ja (Je ys),JB,ren]
      ·rw[Jfg,KU,Ko,KP,Ki,Ko];simp[forget,JB,ren,Jm,Jg];omega
   ·obtain rfl:off=els.length:=by omega
    rw[H6,bfs_nil]at hB;have d1:((0:Int)<((els.length-els.length:Nat):Int))=False:=Jo;have d2:(((els.length-els.length:Nat):Int) > 0)=False:=Jo;simp -implicitDefEqProofs only[go_sem,d1];rw[<-hB];exact .row (id:=1) rfl rfl
end
end
section
def q2Ok (l:List IOper)(es:List (List Nat))(bs bs2:List Bool)(i j:Nat)(p q:List Nat):Bool:=
 (!(i == j) && decide (i<es.length) && decide (j<es.length)) && (Jdf l.length p q &&
 ((l.length == bs.length && (Ja1 l.length (JbV es j i) (clo (JbV es j i)) && Qh l (clo (JbV es j i)) (bs.map QY))) &&
 ((prl p l).length == bs2.length && (Ja1 (prl p l).length (pre p q (JbV es i j)) (clo (pre p q (JbV es i j))) && Qh (prl p l) (clo (pre p q (JbV es i j))) (bs2.map QY)))))
theorem vr_dregQ {P:Program}{E:Env}{n0:Nat}{N:Fr}{Q:Exit->List CV->List CObj->Prop}{H:List CObj}{T:List CV}{k:List KItem}{l:List IOper}{es:List (List Nat)}(i j:Nat)(p q:List Nat)(bs bs2:List Bool)(T':List CV)(H':List CObj)(hm:P.follows .mixedOrders=true)(AO:q2Ok l es bs bs2 i j p q=true)
  (h1:vdk P E (leads P E n0 N Q T' H') l bs T H) (h2:vdk P E (leads P E n0 N Q T' H') (prl p l) bs2 T H) (AL:Kn P E n0 N Q k T' H'):Ok P E n0 N Q (.code (.dreg l es)::k) T H:=by
 unfold q2Ok at AO;obtain⟨g0,r1⟩:=G9.1 AO;obtain⟨g1,r2⟩:=G9.1 r1;obtain⟨g2,g3⟩:=G9.1 r2;exact Jf8 hm (Jco i j g0 (X0 bs T' H' g2 (JA _ _ _ AL) h1) (Jcn p q g1 (X0 bs2 T' H' g3 (JA _ _ _ AL) h2)))
theorem nOpenE (t:Tr)(ht:t.Fit)(h:chk t≠0):Fn Gb 86 [t.cv] (.tup [.nilp,.int .i64 (chk t)]):=by
 have e:(chk t != 0)=true:=by simpa using h
 refine Jc c86_ok rfl rfl λN=>?_
 simp -implicitDefEqProofs only[c86,go_sem,Tr.cv,Tr.row];refine J6 (Jft t ht) ?_;simp -implicitDefEqProofs only[go_sem,e]
theorem iz_set {l:List Int}{i:Nat}{v:Int}:(iz l).set i [.int .i64 v]=iz (l.set i v):=by simp[iz,La]
def oT (t:Tr):List CV:=[.rslc 5 (ndz t.nodes) none,.rslc 1 (iz t.items) none,.slc 1 0 t.nodes.length none,.slc 2 0 t.nodes.length (some t.nodes.length)]
section
variable {t:Tr}{o:List Int}(g:GoodT t o)(ht:t.Fit)
include g ht
theorem nOpen:Fn Gb 86 [t.cv] (.tup [.rptr (tRw t),.int .i64 0]):=by
 have Ai:=g.many;have U1:=g.items;have hc:chk t=0:=(Jcs t).2 ⟨o,g⟩;have e:(chk t != 0)=false:=by simp[hc]
 refine YY ?_ rfl rfl;refine J8 c86_ok λN=>?_
 simp -implicitDefEqProofs only[c86,go_sem,Tr.cv,Tr.row];refine Jd (id:=0) (z:=2) (els:=[t.row]) rfl rfl ?_;simp only[go_sem,JX,Ku,frz,Qa,Tr.row];refine J6 (Jft t ht) ?_;simp -implicitDefEqProofs only[go_sem,e];have hz:GY t.nodes.length [CV.int .i64 0]=iz (XY t 0):=by rw[itemTo_zero];simp[iz]
 have hR:=repeatO (-1) t.nodes.length (by omega);rw[<-upTo_zero g]at hR;have Ox:=Ja (ρ:=[0,2,1,3]) (Je (XY t 0));have fB:=Ja (ρ:=[0,2,1,3]) (Je (upTo t 0));refine vr_dregQ 5 9 [0,1,2,3,4,6,7,8,9,5,10,11,12] [0,1,2,3,4,9,5,6,7,8,10,11,12] [false,false,false,false,false,true,false,false,false,true,false,true,false] [false,false,false,false,false,false,false,false,true,true,false,true,false] (gp [(1,.rptr t.row),(3,.ptr 3 0 0)] 71) [.dead,.arr 1 (iz (upTo t 0)),.arr 1 (iz (XY t 0)),.arr 4 [oT t]] Js (by decide +kernel) ?_ ?_ ?_
 ·simp -implicitDefEqProofs only[go_sem,Tr.row];refine⟨_,_,hs_row (iz [-1]) rfl rfl rfl rfl,?_⟩;simp -implicitDefEqProofs only[go_sem,Jb];refine⟨_,_,JgJ (.inl rfl) (hR _ _),?_⟩;simp -implicitDefEqProofs only[go_sem,Jb,hz];exact⟨⟨by omega,GJ _,by omega,by omega⟩,Jn (by simp[forget])⟩
 ·simp -implicitDefEqProofs only[prl,Q3,Gg,Gt,Gc,Gd,List.getD_cons_zero,List.getD_cons_succ,go_sem,Tr.row];refine⟨_,_,hs_row (iz [-1]) rfl rfl rfl rfl,?_⟩;simp -implicitDefEqProofs only[go_sem,Jb,hz];refine⟨⟨by omega,GJ _,by omega,by omega⟩,?_⟩;refine⟨_,_,JgJ (.inl rfl) (hR _ _),?_⟩;simp -implicitDefEqProofs only[go_sem];refine leads_to [0,2,1,3] rfl (by simp[forget,JB,ren,Jm]) ?_;simp only[Kl,Gc,Gd,go_sem,Jk,Jj,Ox,fB];simp[JB,ren,Jm,oT]
 ·simp only[gp,GY];simp -implicitDefEqProofs only[go_sem,Tr.row,Jb];refine Jw (I:=λi:Nat=>i<=t.nodes.length) (inv:=λi=>gp [(1,.rptr t.row),(3,.ptr 3 0 0),(24,.rslc 5 (ndz t.nodes) none),(0,.int .i64 (t.nodes.length:Int)),(0,.int .i64 (i:Int))] 44) (hp:=λi=>[.dead,.arr 1 (iz (upTo t i)),.arr 1 (iz (XY t 0)),.arr 4 [oT t]]) (μ:=λi=>t.nodes.length-i) 0 [0,1,2,3] (by omega) rfl ?_ ?_ ?_
  ·simp[forget,JB,ren,Jm,gp,Tr.row]
  ·simp only[Kl,Gc,Gd,go_sem,Jk,Jj,Ja (Je _)];simp[JB,ren,Jm,oT]
  ·intro i hi;by_cases Ab:i<t.nodes.length
   ·have d1:((i:Int)<(t.nodes.length:Int))=True:=Jq;have hg:=JY Ab;have Ay:(iz (nd t i).kids).length=(nd t i).kids.length:=Jg;have BJ:=(JdN ht Ab).kidn;have dO:=upTo_succ g Ab;simp -implicitDefEqProofs only[go_sem,d1,Jb,hg,Nd.cv,Ay];refine anO ?_;refine Jd (id:=4) (z:=5) (els:=[(nd t i).cv]) rfl rfl ?_;simp only[go_sem,JX,Ku,frz,Qa,oT,Gf,JC (Je _),Gc,Gd];refine JI (I:=λk:Nat=>k<=(nd t i).kids.length) (inv:=λk=>gp [(1,.rptr t.row),(3,.ptr 3 0 0),(0,.int .i64 (i:Int)),(23,.rslc 5 (ndz t.nodes) none),(0,.int .i64 (t.nodes.length:Int)),(0,.int .i64 (i:Int)),(5,.rslc 1 (iz (nd t i).kids) none),(0,.int .i64 ((nd t i).kids.length:Int)),(0,.int .i64 (k:Int))] 36) (hp:=λk=>[.dead,.arr 1 (iz (Xj i (upTo t i) ((nd t i).kids.take k))),.arr 1 (iz (XY t 0)),.arr 4 [oT t],.dead]) (μ:=λk=>(nd t i).kids.length-k) 0 (by omega) ?_ rfl ?_
    ·simp[forget,gp,Tr.row]
    ·intro k hk;by_cases Dc:k<(nd t i).kids.length
     ·have d2:((k:Int)<((nd t i).kids.length:Int))=True:=Jq;have Eh:=JN Dc;have AB:(nd t i).kids.getD k 0∈(nd t i).kids:=by rw[Gm,Gp Dc];exact Gw Dc
      have hr:=g.kid Ab AB;have Cb:Xj (i:Int) (upTo t i) ((nd t i).kids.take (k+1))=(Xj (i:Int) (upTo t i) ((nd t i).kids.take k)).set ((nd t i).kids.getD k 0).toNat i:=by
       rw[GZ Dc,JbF,Gm,Gp Dc];rfl
      have DN:(Xj (i:Int) (upTo t i) ((nd t i).kids.take k)).length=t.nodes.length:=by rw[Jbb,Yz]
      generalize (nd t i).kids.getD k 0=c at Eh hr Cb;obtain⟨c,rfl⟩:∃c':Nat,c=c':=⟨c.toNat,by omega⟩;rw[Gl]at Cb;generalize Xj (i:Int) (upTo t i) ((nd t i).kids.take k)=r at Cb DN|-;have P7:(iz r).length=t.nodes.length:=by rw[Jg,DN]
      have IK:=JN (l:=r) (i:=c) (by omega);simp -implicitDefEqProofs only[go_sem,d2,Ay,Eh,oT,P7,IK,Gg,Gt,GR,Gf,iz_set];refine⟨by omega,by omega,by omega,Jh,k+1,by omega,by omega,?_,?_⟩
      ·rw[Cb]
      ·simp[forget,Tr.row]
     ·have d2:((k:Int)<((nd t i).kids.length:Int))=False:=Jo;rw[Gu (by omega),<-dO];simp -implicitDefEqProofs only[go_sem,d2];refine⟨Jh,i+1,[0,1,2,3],by omega,by omega,rfl,?_,?_⟩
      ·simp only[Kl,Gc,Gd,go_sem,Jk,Jj,Ja (Je _)];simp[JB,ren,Jm,oT]
      ·simp[forget,JB,ren,Jm,Tr.row]
   ·have d1:((i:Int)<(t.nodes.length:Int))=False:=Jo;obtain rfl:i=t.nodes.length:=by omega
    rw[upTo_all g];simp -implicitDefEqProofs only[go_sem,d1,Tr.row,Jb];refine Jw (I:=λi:Nat=>i<=t.nodes.length/\(i=0\/i<=t.nodes.length)/\Qz t i<=t.items.length) (inv:=λi=>gp [(1,.rptr t.row),(3,.ptr 3 0 0),(4,.int .i64 (Qz t i:Int)),(44,.int .i64 (t.nodes.length:Int)),(0,.int .i64 (i:Int))] 20) (hp:=λi=>[.dead,.arr 1 (iz (upT t)),.arr 1 (iz (XY t i)),.arr 4 [oT t]]) (μ:=λi=>t.nodes.length-i) 0 [0,1,2,3] ⟨by omega,.inl rfl,by rw[JfG g];omega⟩ rfl ?_ ?_ ?_
    ·simp[forget,JB,ren,Jm,gp,Tr.row,JfG g]
    ·simp only[Kl,Gc,Gd,go_sem,Jk,Jj,Ja (Je _)];simp[JB,ren,Jm,oT]
    ·rintro i ⟨hi,_,AU⟩;by_cases Ab:i<t.nodes.length
     ·have d1:((i:Int)<(t.nodes.length:Int))=True:=Jq;obtain⟨L,h1,h2,h3,h4,h5⟩:=itemN_step g Ab;have Oj:=itemTo_succ Ab;have P7:(iz (XY t i)).length=t.nodes.length:=by rw[Jg,JfF (by omega)]
      have IK:=JN (l:=XY t i) (i:=i) (by rw[JfF (by omega)];exact Ab);have Av:=JN (l:=t.items) h1;rw[h2]at Av;have Ak:(iz t.items).length=t.items.length:=Jg;by_cases he:i=L
      ·have e1:((i:Int) == (L:Int))=true:=by simp[he]
       rw[if_pos he]at h5;simp -implicitDefEqProofs only[go_sem,d1,Tr.row,oT,P7,IK,Ak,Av,e1,Gg,Gt,GR,Gf,iz_set];refine⟨by omega,by omega,by omega,Jh,Jh,i+1,[0,1,2,3],⟨by omega,.inr (by omega),by omega⟩,by omega,rfl,?_,?_⟩
       ·rw[<-Oj];simp only[Kl,Gc,Gd,go_sem,Jk,Jj,Ja (Je _)];simp[JB,ren,Jm]
       ·rw[h5];simp[forget,JB,ren,Jm]
      ·have e1:((i:Int) == (L:Int))=false:=beq_eq_false_iff_ne.2 (by omega);rw[if_neg he]at h5;simp -implicitDefEqProofs only[go_sem,d1,Tr.row,oT,P7,IK,Ak,Av,e1,Gg,Gt,GR,Gf,iz_set];refine⟨by omega,by omega,by omega,Jh,i+1,[0,1,2,3],⟨by omega,.inr (by omega),by omega⟩,by omega,rfl,?_,?_⟩
       ·rw[<-Oj];simp only[Kl,Gc,Gd,go_sem,Jk,Jj,Ja (Je _)];simp[JB,ren,Jm]
       ·rw[h5];simp[forget,JB,ren,Jm]
     ·have d1:((i:Int)<(t.nodes.length:Int))=False:=Jo;obtain rfl:i=t.nodes.length:=by omega
      rw[itemTo_all];simp -implicitDefEqProofs only[go_sem,d1];refine .step 1 1 (iz (upT t)) rfl (Je _) (.step 2 1 (iz (Jds t)) ?_ (Je _) (.step 3 4 [tRw t] ?_ rfl (.done ?_)))
      ·simp only[Ku,Qa,JX,frz,oT,Gc,Gd,GV,GU,List.getElem?_cons_succ,List.getElem?_cons_zero,JC (Je _)]
      ·have q1:(iz (upT t)).take t.nodes.length=iz (upT t):=Gu (by rw[Jg,JdT];omega);have q2:(iz (Jds t)).take t.nodes.length=iz (Jds t):=Gu (by rw[Jg,Jcg];omega);simp[Ku,Qa,JX,frz,oT,tRw,Jg,JdT,Jcg,q1,q2]
      ·simp[frz,JX];exact wk.refl _
end
end
section
theorem JgV {n:Nat}{l:List Int}{q:Int->Bool}(h:∀x∈l,0<=x/\x<n) : -1<=(match l.find? q with|some d=>d|none=>-1)/\(match l.find? q with|some d=>d|none=>-1)<(n:Int):=by
 cases hf:l.find? q with
 |none=>simp;omega
 |some d=>
  have:=h d (List.mem_of_find?_eq_some hf);simp only;omega
theorem JgB {t:Tr}{o:List Int}{i:Nat} : -1<=JU t o i/\JU t o i<t.nodes.length:=by
 unfold JU JfB Jdi Jcb;have h:∀x∈K5 t,0<=x/\x<(t.nodes.length:Int):=λx hx=>KD.1 hx
 split
 ·exact JgV h
 ·split
  ·exact JgV h
  ·split
   ·exact JgV h
   ·omega
theorem Xc {t:Tr}{o:List Int}:(ofL t o).length=t.nodes.length:=by simp[ofL]
theorem ofL_get {t:Tr}{o:List Int}{i:Nat}(h:i<t.nodes.length):(ofL t o).getD i 0=JU t o i:=by
 simp[ofL,Gm,h]
theorem ofL_take {t:Tr}{o:List Int}{i:Nat}(h:i<t.nodes.length):(ofL t o).take (i+1)=(ofL t o).take i++[JU t o i]:=by
 rw[GZ (by rw[Xc];exact h)];simp[ofL]
theorem ofL_ok {t:Tr}{o:List Int}:OfOk t (ofL t o):=⟨Xc,λi hi=>by rw[Xc]at hi;rw[ofL_get hi];exact JgB⟩
def resV (t:Tr)(o:List Int):CV:=match Jas t o 6 10 (Ga t.nodes.length) with
 |some r=>.tup [.agg [.rptr (tRw t),.rslc 1 (iz ((ofL t o).take r.1)) none],.int .i64 (r.1:Int),.int .i64 r.2]
 |none=>match (Ga t.nodes.length).find? (stN t o) with
  |some i=>.tup [.agg (rRw t (ofL t o)),.int .i64 (i:Int),.int .i64 9]
  |none=>.tup [.agg (rRw t (ofL t o)),.int .i64 0,.int .i64 0]
theorem resV_closed {t:Tr}{o:List Int}:(resV t o).closed=true:=by
 unfold resV
 split
 ·rfl
 ·split <;> rfl
theorem frzs_row {H:List CObj}{id:Nat}{l:List Int}{x:CV}{ys:List CV}(hx:x.closed=true)(hy:Jp ys=true)(h:H[id]? = some (QO 1 (iz l))):Frzs (.tup (.agg [x,.rslc 1 (iz l) none]::ys)) (.tup (.agg [x,K6 id (iz l)]::ys)) H:=by
 cases l with
 |nil=>exact .done (YO ⟨Jc3 ⟨wk.refl _,wk.nils,trivial⟩,wks.refl _⟩)
 |cons a l=>
  refine .step id 1 (iz (a::l)) h (Je _) (.done ?_);have e:frz id 1 (iz (a::l)) (K6 id (iz (a::l)))=.rslc 1 (iz (a::l)) none:=by
   rw[Ki,Yi];simp[frz]
  simp only[frz,JX,e,XN x hx,Qx ys hy];exact wk.refl _
theorem bfs_len {N:Int->List Int}{l:List Int}(hN:∀x∈l,∀y∈N x,y∈l):∀(f:Nat) (todo out:List Int),(∀x∈todo,x∈l)->(bfsF N f todo out).length<=out.length+Yv l out
 |0,_,out,_=>Le _ _
 |f+1,[],out,_=>Le _ _
 |f+1,x::todo,out,h=>by
  rw[bfsF]
  cases hc:out.contains x with
  |true=>rw[if_pos rfl];exact bfs_len hN f todo out λy hy=>h y (by simp[hy])
  |false=>
   rw[if_neg (by simp)];have hx:=h x (by simp);have h1:=bfs_len hN f (todo++N x) (out++[x]) λy hy=>by
    rcases Hg.1 hy with h2|h2
    ·exact h y (by simp[h2])
    ·exact hN x hx y h2
   have h2:=YX hx hc;simp only[Gv,Gg,Gt]at h1;omega
theorem nResolveE0 (t:Tr)(ht:t.Fit)(h:chk t≠0):Fn Gb 61 [t.cv] (.tup [.agg [.nilp,.nils],.int .i64 0,.int .i64 (chk t)]):=by
 have e:(chk t != 0)=true:=by simpa using h
 refine Jc c61_ok rfl rfl λN=>?_
 simp -implicitDefEqProofs only[c61,go_sem,Tr.cv,Tr.row];refine J6 (nOpenE t ht h) ?_;simp -implicitDefEqProofs only[go_sem,e]
section
variable {t:Tr}{o:List Int}(g:GoodT t o)(ht:t.Fit)
include g ht
theorem nResolve0:Fn Gb 61 [t.cv] (resV t o):=by
 have Ai:=g.many;refine YY ?_ rfl resV_closed;refine J8 c61_ok λN=>?_
 simp -implicitDefEqProofs only[c61,go_sem,Tr.cv,Tr.row];refine Jd (id:=0) (z:=2) (els:=[t.row]) rfl rfl ?_;simp only[go_sem,JX,Ku,frz,Qa,Tr.row];refine J6 (nOpen g ht) ?_;simp -implicitDefEqProofs only[go_sem,tRw,Jb];refine XW ?_;simp only[go_sem,G7,GA];refine Jw (I:=λi:Nat=>i<=t.nodes.length/\Jas t o 6 10 (Ga t.nodes.length)=Jas t o 6 10 ((Ga t.nodes.length).drop i)) (inv:=λi=>gp [(2,.ptr 1 0 0),(2,.rptr (tRw t)),(20,.int .i64 (t.nodes.length:Int)),(0,.int .i64 (i:Int))] 53) (hp:=λi=>[.dead,.arr 2 [[.rptr (tRw t),K6 2 (iz ((ofL t o).take i))]],QO 1 (iz ((ofL t o).take i))]) (μ:=λi=>t.nodes.length-i) 0 [0,1,2] ⟨by omega,by rw[Gf]⟩ rfl ?_ ?_ ?_
 ·simp[forget,JB,ren,Jm,gp,tRw]
 ·simp[Kl,JB,ren,Xv,K6,QO,iz,tRw]
 ·rintro i ⟨hi,Aa⟩;have BO:((ofL t o).take i).length=i:=by rw[G6,Xc];omega
  by_cases Ab:i<t.nodes.length
  ·have d1:((i:Int)<(t.nodes.length:Int))=True:=Jq;have FD:=ofL_take (o:=o) Ab;rw[Qo Ab,Jas]at Aa;have CS:∀a:Int,Jas t o 6 10 (Ga t.nodes.length)=some (i,a)->resV t o=.tup [.agg [.rptr (tRw t),.rslc 1 (iz ((ofL t o).take i)) none],.int .i64 (i:Int),.int .i64 a]:=λa h=>by unfold resV;rw[h]
   generalize (ofL t o).take i=acc at BO FD CS|-;simp -implicitDefEqProofs only[go_sem,d1];refine J6 (nMeaning g ht Ab) ?_;simp -implicitDefEqProofs only[go_sem];refine J6 (nTwice (by omega) Ab) ?_
   cases Ev:twN t i with
   |true=>
    rw[Ev,if_pos rfl]at Aa;rw[CS 6 Aa];simp -implicitDefEqProofs only[go_sem];exact frzs_row rfl rfl rfl
   |false=>
    rw[Ev]at Aa
    cases FB:KA t i with
    |false=>
     rw[if_neg (by simp),if_neg (by rw[FB];simp)]at Aa;simp -implicitDefEqProofs only[go_sem,Jg,Jy];refine⟨⟨by omega,by omega⟩,Jh,i+1,[0,1,4],⟨by omega,Aa⟩,by omega,rfl,?_,?_⟩
     ·rw[FD,KU,Kq,Ko];simp only[Kl,Gc,Gd,go_sem,Jk,Jj];simp[Ja (Je acc),JB,ren,Jm,Jg]
     ·simp[forget,JB,ren,Jm]
    |true=>
     cases SV:(JU t o i == -1) with
     |true=>
      rw[if_neg (by simp),if_pos (by rw[FB,SV];rfl)]at Aa;rw[CS 10 Aa];simp -implicitDefEqProofs only[go_sem,SV];exact frzs_row rfl rfl rfl
     |false=>
      rw[if_neg (by simp),if_neg (by rw[FB,SV];simp)]at Aa;simp -implicitDefEqProofs only[go_sem,SV,Jg,Jy];refine⟨⟨by omega,by omega⟩,Jh,i+1,[0,1,4],⟨by omega,Aa⟩,by omega,rfl,?_,?_⟩
      ·rw[FD,KU,Kq,Ko];simp only[Kl,Gc,Gd,go_sem,Jk,Jj];simp[Ja (Je acc),JB,ren,Jm,Jg]
      ·simp[forget,JB,ren,Jm]
  ·have d1:((i:Int)<(t.nodes.length:Int))=False:=Jo;obtain rfl:i=t.nodes.length:=by omega
   rw[show (Ga t.nodes.length).drop t.nodes.length=[] from Gs (by simp),Jas]at Aa;have CS:resV t o=match (Ga t.nodes.length).find? (stN t o) with|some i=>.tup [.agg (rRw t (ofL t o)),.int .i64 (i:Int),.int .i64 9]|none=>.tup [.agg (rRw t (ofL t o)),.int .i64 0,.int .i64 0]:=by unfold resV;rw[Aa]
   rw[CS,Gu (by rw[Xc];omega)];by_cases h0:t.nodes.length=0
   ·have F6:ofL t o=[]:=List.length_eq_zero_iff.1 (by rw[Xc];exact h0);have d2:((0:Int)<(t.nodes.length:Int))=False:=Jo;have P8:Ga t.nodes.length=[]:=by rw[h0];rfl
    rw[F6,Xm,Q8,Yc,P8,GI];simp -implicitDefEqProofs only[go_sem,d1,tRw,Jb];refine JI (σ:=Unit) (I:=λ_=>True) (inv:=λ_=>gp [(2,.ptr 1 0 0),(2,.rptr (tRw t)),(56,.int .i64 (t.nodes.length:Int)),(0,.int .i64 0)] 17) (hp:=λ_=>[.dead,.arr 2 [[.rptr (tRw t),.nils]],.dead]) (μ:=λ_=>0) () trivial ?_ rfl ?_
    ·simp[forget,gp,tRw]
    ·intro _ _;simp -implicitDefEqProofs only[go_sem,d2];exact .done (YO ⟨Jc3 ⟨wk.refl _,wk.nils,trivial⟩,wks.refl _⟩)
   ·have Ri:iz (ofL t o)≠[]:=by
     intro e;have:=congrArg Lb e;rw[Jg,Xc]at this;exact h0 (by simpa using this)
    have BU:=Xc (t:=t) (o:=o);rw[XK Ri,Xu Ri,Jg,BU];simp -implicitDefEqProofs only[go_sem,d1,tRw,Jb];refine Jd (id:=2) (z:=1) (els:=iz (ofL t o)) rfl (Je _) ?_;have EQ:G8 t.nodes.length (iz (ofL t o))=iz (ofL t o):=Gu (by rw[Jg,BU];omega);simp only[go_sem,JX,Ku,frz,Qa,Gc,Gd,Gf,GN,if_true,Jg,BU,GQ,EQ,GV,GU];refine Jw (I:=λi:Nat=>i<=t.nodes.length/\(Ga t.nodes.length).find? (stN t o)=((Ga t.nodes.length).drop i).find? (stN t o)) (inv:=λi=>gp [(2,.ptr 1 0 0),(2,.rptr (tRw t)),(56,.int .i64 (t.nodes.length:Int)),(0,.int .i64 (i:Int))] 17) (hp:=λ_=>[.dead,.arr 2 [rRw t (ofL t o)],.dead]) (μ:=λi=>t.nodes.length-i) 0 [0,1,2] ⟨by omega,by rw[Gf]⟩ rfl ?_ ?_ ?_
    ·simp[forget,JB,ren,Jm,gp,tRw]
    ·simp[Kl,JB,ren,Xv,rRw,tRw]
    ·rintro i ⟨hi,Aa⟩;by_cases Ab:i<t.nodes.length
     ·have d1:((i:Int)<(t.nodes.length:Int))=True:=Jq;rw[Qo Ab,GH]at Aa;simp -implicitDefEqProofs only[go_sem,d1];refine J6 (nKind t Ab) ?_
      cases hk:((nd t i).k == 41) with
      |false=>
       have Al:stN t o i=false:=by unfold stN;rw[hk];rfl
       rw[Al]at Aa;simp -implicitDefEqProofs only[go_sem,kbE,hk];refine⟨Jh,i+1,[0,1,2],⟨by omega,Aa⟩,by omega,rfl,?_,?_⟩
       ·simp[Kl,JB,ren,Xv,rRw]
       ·simp[forget,JB,ren,Jm]
      |true=>
       have Al:stN t o i=(bfs (λx=>Xy t o (ofL t o) x.toNat) (K5 t) (Xy t o (ofL t o) i) []).contains (i:Int):=by unfold stN;rw[hk,Gj]
       have hA:=(nAll g ht (ofL_ok (o:=o)) Ab (beq_iff_eq.1 hk)).fn rfl (Je _);have BF:(bfs (λx=>Xy t o (ofL t o) x.toNat) (K5 t) (Xy t o (ofL t o) i) []).length<=100000:=by
        have h1:=bfs_len (N:=λx=>Xy t o (ofL t o) x.toNat) (l:=K5 t) (λx hx=>(needN_ok x hx).1) (muB (K5 t) (Xy t o (ofL t o) i) []+1) (Xy t o (ofL t o) i) [] (λx hx=>(GX.1 hx).1);have h2:=Jcd (l:=K5 t) (out:=[]);have h3:(K5 t).length=t.nodes.length:=by simp[K5]
        simp only[Gt]at h1;show (bfsF _ _ _ _).length<=_;omega
       generalize bfs (λx=>Xy t o (ofL t o) x.toNat) (K5 t) (Xy t o (ofL t o) i) []=B at Al hA BF;simp -implicitDefEqProofs only[go_sem,kbE,hk,rRw];refine Kb (gok rfl) hA ?_;simp -implicitDefEqProofs only[go_sem];refine Kb (gok rfl) (containsI B (i:Int) BF) ?_
       cases hc:B.contains (i:Int) with
       |false=>
        rw[Al,hc]at Aa;simp -implicitDefEqProofs only[go_sem];refine⟨Jh,i+1,[0,1,2],⟨by omega,Aa⟩,by omega,rfl,?_,?_⟩
        ·simp[Kl,JB,ren,Xv]
        ·simp[forget,JB,ren,Jm]
       |true=>
        rw[Al,hc]at Aa;rw[Aa];simp -implicitDefEqProofs only[go_sem];exact .done (wk.refl _)
     ·have d1:((i:Int)<(t.nodes.length:Int))=False:=Jo;rw[show (Ga t.nodes.length).drop i=[] from Gs (by simp;omega),GI]at Aa;rw[Aa];simp -implicitDefEqProofs only[go_sem,d1,rRw];exact .done (wk.refl _)
theorem nResolve:Fn Gb 39 [t.cv] (if (X4 t o).2=0 then .tup [.agg [.rslc 1 (iz (ofL t o)) none],.int .i64 0,.int .i64 0] else .tup [.agg [.nils],.int .i64 ((X4 t o).1:Int),.int .i64 (X4 t o).2]):=by
 have hV:=nResolve0 g ht;refine Jc c39_ok rfl (by split <;> rfl) λN=>?_
 simp -implicitDefEqProofs only[c39,go_sem,Tr.cv,Tr.row];refine J6 hV ?_;unfold X4 resV
 cases hs:Jas t o 6 10 (Ga t.nodes.length) with
 |some r=>
  have hr:∀l:List Nat,Jas t o 6 10 l=some r->r.2=6\/r.2=10:=by
   intro l
   induction l with
   |nil=>intro h;cases h
   |cons x l ih=>
    intro h;rw[Jas]at h
    split at h
    ·cases h;exact .inl rfl
    ·split at h
     ·cases h;exact .inr rfl
     ·exact ih h
  have h2:=hr _ hs;have e1:(r.2 != 0)=true:=bne_iff_ne.2 (by omega);simp only;rw[iN7];simp -implicitDefEqProofs only[go_sem,e1]
 |none=>
  simp only
  cases hf:(Ga t.nodes.length).find? (stN t o) with
  |some i=>
   simp only;rw[if_neg (by decide)];simp -implicitDefEqProofs only[go_sem,rRw]
  |none=>
   simp only[if_true];simp -implicitDefEqProofs only[go_sem,rRw]
end
theorem nResolveE (t:Tr)(ht:t.Fit)(h:chk t≠0):Fn Gb 39 [t.cv] (.tup [.agg [.nils],.int .i64 0,.int .i64 (chk t)]):=by
 have e:(chk t != 0)=true:=by simpa using h
 refine Jc c39_ok rfl rfl λN=>?_
 simp -implicitDefEqProofs only[c39,go_sem,Tr.cv,Tr.row];refine J6 (nResolveE0 t ht h) ?_;simp -implicitDefEqProofs only[go_sem,e]
end
section
section
variable {t:Tr}{o:List Int}(g:GoodT t o)(ht:t.Fit)
include g ht
end
end
section
section
variable {E:Env}{H:List CObj}
theorem vr_pc {P:Program}{n0:Nat}{N:Fr}{Q:Exit->List CV->List CObj->Prop}{T:List CV}{k:List KItem}{d:Option Nat}{g:Option (Nat×Bool)}{f:Nat}{xa:List IArg}{l:List IOper}{v:CV}(hg:GOk T g)(Ag:Pure P E f (xa.map (J7 T)) H v)(h:Kn P E n0 N Q (.ops l::k) (put T d v) H):Ok P E n0 N Q (.ops (⟨d,.call f xa,g⟩::l)::k) T H:=
 Ke hg Ag λv' H' ⟨h1,h2⟩=>by rw[h1,h2];exact h
theorem indexFP {f:Nat}{l1 l2:List CV}{F:IFunc}(l:List Int)(q:Int->Bool)(hF:Jf Gb f=some F)
  (hq:∀p∈l,Pure Gb E f (l1++[.int .i64 p]++l2) H (.bool (q p))) (Ad:l.length<=1000000):Pure Gb E 142 [.rslc 1 (iz l) none,.fn f l1 l2] H (.int .i64 (XI q l 0)):=by
 have Ak:(iz l).length=l.length:=Jg;refine J8 c142_ok λN=>?_
 simp -implicitDefEqProofs only[c142,go_sem,Ak];refine JI (I:=λi:Nat=>i<=l.length/\XI q l 0=XI q (l.drop i) i) (inv:=λi=>gp [(0,.rslc 1 (iz l) none),(0,.fn f l1 l2),(5,.int .i64 l.length),(0,.int .i64 i)] 10) (hp:=λ_=>H) (μ:=λi=>l.length-i) 0 ⟨by omega,rfl⟩ ?_ rfl ?_
 ·simp[forget,gp]
 ·rintro i ⟨hi,Aa⟩;by_cases Ab:i<l.length
  ·have d1:((i:Int)<(l.length:Int))=True:=Jq;have Av:=JN Ab;have Ci:l[i]? = some (l.getD i 0):=by rw[Gm,Gp Ab];rfl
   have hm:l.getD i 0∈l:=Hu Ci;rw[Q6 Ci]at Aa;simp -implicitDefEqProofs only[go_sem,Ak,d1,Av];refine anO ?_;refine vr_pcallv (.inl rfl) rfl hF (Jb9 pNames _) (hq _ hm) ?_
   cases hb:q (l.getD i 0) with
   |true=>
    rw[hb,if_pos rfl]at Aa;simp -implicitDefEqProofs only[go_sem,Aa]
   |false=>
    rw[hb]at Aa;simp -implicitDefEqProofs only[go_sem];refine⟨Jh,i+1,⟨by omega,by simpa using Aa⟩,by omega,?_⟩;simp[forget]
  ·have d1:((i:Int)<(l.length:Int))=False:=Jo;rw[Gs (by omega)]at Aa;simp -implicitDefEqProofs only[go_sem,d1,Aa,XI]
theorem containsFP {f:Nat}{l1 l2:List CV}{F:IFunc}(l:List Int)(q:Int->Bool)(hF:Jf Gb f=some F)
  (hq:∀p∈l,Pure Gb E f (l1++[.int .i64 p]++l2) H (.bool (q p))) (Ad:l.length<=1000000):Pure Gb E 152 [.rslc 1 (iz l) none,.fn f l1 l2] H (.bool (l.any q)):=by
 refine J8 c152_ok λN=>?_
 simp -implicitDefEqProofs only[c152,go_sem];refine vr_pc (.inl rfl) (indexFP l q hF hq Ad) ?_;simp -implicitDefEqProofs only[go_sem,Jaf]
end
section
variable {t:Tr}{o:List Int}(g:GoodT t o)(ht:t.Fit)
include g ht
end
end
section
def bb (l:List Bool):List (List CV):=l.map λb=>[.bool b]
theorem bb_len {l:List Bool}:(bb l).length=l.length:=by simp[bb]
theorem bb_get {l:List Bool}{i:Nat}(h:i<l.length):(bb l).getD i []=[.bool (l.getD i false)]:=by
 simp[bb,Gm,Gp h]
theorem Q7:∀(l:List Bool),Jr (bb l)=true
 |[]=>rfl
 |x::l=>by simp[bb,Jr,Jp,CV.closed];exact Q7 l
theorem bb_set {l:List Bool}{i:Nat}{b:Bool}:(bb l).set i [.bool b]=bb (l.set i b):=by simp[bb,La]
theorem bb_rep {n:Nat}:GY n [CV.bool false]=bb (GY n false):=by simp[bb]
def Jdo (l:List Bool)(i:Nat):List Int:=((Ga i).filter λj=>l.getD j false).map λj:Nat=>(j:Int)
theorem setTo_succ {l:List Bool}{i:Nat}:Jdo l (i+1)=Jdo l i++if l.getD i false=true then [(i:Int)] else []:=by
 unfold Jdo;rw[Hf,Hz,H7,H5,H9]
 split <;> rfl
theorem setTo_len {l:List Bool}{i:Nat}:(Jdo l i).length<=i:=by
 unfold Jdo;rw[H8];exact GK (Gz _ _) (by simp)
theorem refSet (l:List Bool)(hl:l.length<=100000):Je1 Gb 56 [.rslc 1 (bb l) none] 1 (iz (setL l)):=by
 have BF:(bb l).length=l.length:=bb_len;refine JeA (J8 c56_ok λN=>?_) rfl (Je _);simp -implicitDefEqProofs only[c56,go_sem];refine Jw (I:=λi:Nat=>i<=l.length) (inv:=λi=>gp [(0,.rslc 1 (bb l) none),(2,.slc 0 0 (iz (Jdo l i)).length (JbT (iz (Jdo l i)))),(0,.int .i64 (i:Int))] 16) (hp:=λi=>[.arr 1 (iz (Jdo l i))]) (μ:=λi=>l.length-i) 0 [0] (by omega) rfl ?_ ?_ ?_
 ·simp[forget,JB,ren,Jm,gp,Jdo,iz,JbT]
 ·simp[Kl,Xv,Jdo,iz]
 ·intro i hi;by_cases Ab:i<l.length
  ·have d1:((i:Int)<(l.length:Int))=True:=Jq;have Av:=bb_get Ab;have Al:=setTo_succ (l:=l) (i:=i);have DN:=setTo_len (l:=l) (i:=i);have Aq:=Ja (ρ:=[0]) (Je (Jdo l i));have Z8:=Ja (ρ:=[2]) (Je (Jdo l i))
   cases hb:l.getD i false with
   |false=>
    rw[hb,if_neg (by simp),Gq]at Al;rw[hb]at Av;simp -implicitDefEqProofs only[go_sem,BF,d1,Av];refine⟨by omega,Jh,i+1,[0],by omega,by omega,rfl,?_,?_⟩
    ·rw[Al];simp only[Kl,Gc,Gd,go_sem,Jk,Aq]
    ·rw[Al];simp[forget,JB,ren,Jm]
   |true=>
    rw[hb,if_pos rfl]at Al;rw[hb]at Av;simp -implicitDefEqProofs only[go_sem,BF,d1,Av,Jy,Jg];refine⟨by omega,⟨by omega,by omega⟩,Jh,i+1,[2],by omega,by omega,rfl,?_,?_⟩
    ·rw[Al,KU];simp only[Kl,Gc,Gd,go_sem,Jk];simp[Z8,JB,ren]
    ·rw[Al,KU,Jaj];simp[forget,JB,ren,Jm]
  ·have d1:((i:Int)<(l.length:Int))=False:=Jo;obtain rfl:i=l.length:=by omega
   simp -implicitDefEqProofs only[go_sem,BF,d1];exact⟨0,rfl,rfl⟩
theorem refHas3 (l:List Int)(x:Int)(hl:l.length<=100000):Fn Gb 30 [.rslc 1 (iz l) none,.int .i64 x] (.bool (l.contains x)):=by
 have Ak:(iz l).length=l.length:=Jg;refine Jc c30_ok rfl rfl λN=>?_
 simp -implicitDefEqProofs only[c30,go_sem];refine JI (I:=λi:Nat=>i<=l.length/\l.contains x=(l.drop i).contains x) (inv:=λi=>gp [(0,.rslc 1 (iz l) none),(0,.int .i64 x),(3,.int .i64 (i:Int))] 12) (hp:=λ_=>[]) (μ:=λi=>l.length-i) 0 ⟨by omega,rfl⟩ ?_ rfl ?_
 ·simp[forget,gp]
 ·rintro i ⟨hi,Aa⟩;by_cases Ab:i<l.length
  ·have d1:((i:Int)<(l.length:Int))=True:=Jq;have Av:=JN Ab;rw[GM Ab,HV,show l[i]=l.getD i 0 by rw[Gm,Gp Ab];rfl]at Aa;generalize l.getD i 0=y at Aa Av;have hc:(x == y)=(y == x):=by rw[Hq,beq_iff_eq,beq_iff_eq];exact⟨Eq.symm,Eq.symm⟩
   rw[hc]at Aa
   cases he:(y == x) with
   |true=>
    rw[he,Gy]at Aa;simp -implicitDefEqProofs only[go_sem,Ak,d1,Av,he,Aa];omega
   |false=>
    rw[he,Gr]at Aa;simp -implicitDefEqProofs only[go_sem,Ak,d1,Av,he];refine⟨by omega,Jh,i+1,⟨by omega,Aa⟩,by omega,?_⟩;simp[forget]
  ·have d1:((i:Int)<(l.length:Int))=False:=Jo;rw[show l.drop i=[] from Gs (by omega),HY]at Aa;simp -implicitDefEqProofs only[go_sem,Ak,d1,Aa]
section
variable {t:Tr}{o:List Int}(g:GoodT t o)(ht:t.Fit)
include g ht
theorem refNeeds {of:List Int}(ho:OfOk t of){s:Nat}(hs:s<t.nodes.length)(hk:(nd t s).k=41):Je1 Gb 55 [t.cv,.rslc 1 (iz of) none,.int .i64 (s:Int)] 1 (iz (Yu t o of s)):=by
 have Ai:=g.many;have Be:(iz of).length=t.nodes.length:=by rw[Jg,ho.len]
 have PU:=set_kid g hs hk;have Dz:Jl t s<t.nodes.length:=by have:=(JQ g hs PU.1).2;omega
 rw[needR_eq];refine JeA (J8 c55_ok λN=>?_) rfl (Je _);simp -implicitDefEqProofs only[c55,go_sem,Tr.cv,Tr.row];refine Jd (id:=0) (z:=2) (els:=[t.row]) rfl rfl ?_;simp only[go_sem,JX,Ku,frz,Qa,Gc,Gd];refine Ya [false,false,false,true,false,false,false,false,false] Js (by decide +kernel) ?_;simp -implicitDefEqProofs only[go_sem,Tr.row,Jb];refine⟨⟨by omega,GJ _,by omega,by omega⟩,?_⟩;refine vh_f (Jbx g ht hs) ?_;simp -implicitDefEqProofs only[go_sem];rw[bb_rep,<-Jdm];have OU:∀(i:Nat) (p:Nat->Bool),(Ga (i+1)).any p=((Ga i).any p || p i):=λi p=>by
  rw[Hf,List.any_append,Gx,GD,GL]
 refine Jw (I:=λi:Nat=>i<=t.nodes.length) (inv:=λi=>gp [(1,.rslc 1 (iz of) none),(0,.int .i64 (s:Int)),(0,.rptr t.row),(3,.slc 1 0 t.nodes.length (some t.nodes.length)),(0,.int .i64 (Kh t s)),(0,.int .i64 (i:Int))] 73) (hp:=λi=>[.dead,.arr 1 (bb (KH t.nodes.length λx=>(Ga i).any (Jbr t o of s x)))]) (μ:=λi=>t.nodes.length-i) 0 [0,1] (by omega) rfl ?_ ?_ ?_
 ·simp[forget,JB,ren,Jm,gp,Tr.row]
 ·simp only[Kl,Gc,Gd,go_sem,Jk,Jj,Ja (Q7 _)];rfl
 ·intro i hi;have Aq:=Ja (ρ:=[0,1]) (Q7 (KH t.nodes.length λx=>(Ga i).any (Jbr t o of s x)));by_cases Ab:i<t.nodes.length
  ·have d1:((i:Int)<(t.nodes.length:Int))=True:=Jq;have Av:=JN (l:=of) (i:=i) (by rw[ho.len];exact Ab);have U5:=JY Ab;have UH:=ho.rng i (by rw[ho.len];exact Ab);have Z4:=ho.dft (i:=i) (by rw[ho.len];exact Ab);have hQ:∀x,Jbr t o of s x i=((nd t i).k == 3 && (decide (0<=of.getD i 0) && (JbC o i (Jl t s) && ((nd t (of.getD i 0).toNat).k == 42 && (Kh t (of.getD i 0).toNat == x && (Kh t x.toNat == Kh t s && !tdL t (upL t (Jl t s) t.nodes.length i).reverse false)))))):=λx=>by unfold Jbr;rw[Z4]
   have BN:(∀x,Jbr t o of s x i=false)->(KH t.nodes.length λx=>(Ga (i+1)).any (Jbr t o of s x))=KH t.nodes.length λx=>(Ga i).any (Jbr t o of s x):=λh=>boolsN_congr λj hj=>by rw[OU,h,GL]
   generalize of.getD i 0=m at Av UH hQ;simp -implicitDefEqProofs only[go_sem,d1,Tr.row,Jb];refine JV Js (by decide) ?_
   cases h3:((nd t i).k == 3) with
   |false=>
    have AY:=BN λx=>by rw[hQ,h3,Gn]
    simp -implicitDefEqProofs only[go_sem,Jb,U5,Nd.cv,kbN,h3,Gi];refine⟨by omega,Jh,i+1,[0,1],by omega,by omega,rfl,?_,?_⟩
    ·rw[AY];simp only[Kl,Gc,Gd,go_sem,Jk,Aq,Jj]
    ·simp[forget,JB,ren,Jm]
   |true=>
    rcases Lc m 0 with Rt|Rt
    ·have e1:decide (m<0)=true:=decide_eq_true Rt;have AY:=BN λx=>by rw[hQ,decide_eq_false (by omega),Gn,GG]
     simp -implicitDefEqProofs only[go_sem,Jb,U5,Nd.cv,kbN,h3,Gh,Be,Av,e1];refine⟨by omega,by omega,Jh,i+1,[0,1],by omega,by omega,rfl,?_,?_⟩
     ·rw[AY];simp only[Kl,Gc,Gd,go_sem,Jk,Aq,Jj]
     ·simp[forget,JB,ren,Jm]
    ·have e1:decide (m<0)=false:=decide_eq_false (by omega);obtain⟨m,rfl⟩:∃m':Nat,m=m':=⟨m.toNat,by omega⟩;have FJ:m<t.nodes.length:=by omega
     have bE:=JY FJ;simp -implicitDefEqProofs only[go_sem,Jb,U5,Nd.cv,kbN,h3,Gh,Be,Av,e1];refine⟨by omega,by omega,?_⟩;refine J9 (gok rfl) (JcL g ht hs PU.2) ?_;simp -implicitDefEqProofs only[go_sem];refine J9 (gok rfl) (YV g ht Dz) ?_
     cases hb:JbC o i (Jl t s) with
     |false=>
      have AY:=BN λx=>by rw[hQ,hb,Gn,GG,GG]
      simp -implicitDefEqProofs only[go_sem,Gi];refine⟨Jh,i+1,[0,1],by omega,by omega,rfl,?_,?_⟩
      ·rw[AY];simp only[Kl,Gc,Gd,go_sem,Jk,Aq,Jj]
      ·simp[forget,JB,ren,Jm]
     |true=>
      cases Cn:((nd t m).k == 42) with
      |false=>
       have AY:=BN λx=>by rw[hQ,Gl,Cn,Gn,GG,GG,GG]
       simp -implicitDefEqProofs only[go_sem,Gh,Jb,Be,Av,bE,Nd.cv,kbN,Cn,Gi];refine⟨by omega,by omega,Jh,i+1,[0,1],by omega,by omega,rfl,?_,?_⟩
       ·rw[AY];simp only[Kl,Gc,Gd,go_sem,Jk,Aq,Jj]
       ·simp[forget,JB,ren,Jm]
      |true=>
       have k42:(nd t m).k=42:=beq_iff_eq.1 Cn;obtain⟨v,MG,Et,_,_⟩:=QU g FJ (by omega);have bX:=Jbx g ht FJ;rw[MG]at bX;have Uj:∀x,Jbr t o of s x i=(((v:Int) == x) && (Kh t x.toNat == Kh t s && !tdL t (upL t (Jl t s) t.nodes.length i).reverse false)):=λx=>by
        rw[hQ,h3,hb,Gl,Cn,MG,decide_eq_true (by omega)];rfl
       simp -implicitDefEqProofs only[go_sem,Gh,Jb,Be,Av,bE,Nd.cv,kbN,Cn];refine⟨by omega,by omega,?_⟩;refine JV Js (by decide) ?_;simp -implicitDefEqProofs only[go_sem,Be,Av];refine anO ?_;refine J9 (.inl rfl) bX ?_;simp -implicitDefEqProofs only[go_sem];refine J6 (Jbx g ht Et) ?_
       cases Db:(Kh t v == Kh t s) with
       |false=>
        have AY:=BN λx=>by
         rw[Uj]
         cases hx:((v:Int) == x) with
         |false=>rfl
         |true=>
          have:=beq_iff_eq.1 hx;rw[<-this,Gl,Db];rfl
        simp -implicitDefEqProofs only[go_sem,Db];refine⟨Jh,i+1,[0,1],by omega,by omega,rfl,?_,?_⟩
        ·rw[AY];simp only[Kl,Gc,Gd,go_sem,Jk,Aq,Jj]
        ·simp[forget,JB,ren,Jm]
       |true=>
        simp -implicitDefEqProofs only[go_sem,Db];refine Kb (gok rfl) (refLate g ht hs hk (QL.1 hb)) ?_
        cases hl:tdL t (upL t (Jl t s) t.nodes.length i).reverse false with
        |true=>
         have AY:=BN λx=>by rw[Uj,hl];simp
         simp -implicitDefEqProofs only[go_sem,Gh];refine⟨Jh,i+1,[0,1],by omega,by omega,rfl,?_,?_⟩
         ·rw[AY];simp only[Kl,Gc,Gd,go_sem,Jk,Aq,Jj]
         ·simp[forget,JB,ren,Jm]
        |false=>
         have BB:(KH t.nodes.length λx=>(Ga i).any (Jbr t o of s x)).set v true=KH t.nodes.length λx=>(Ga (i+1)).any (Jbr t o of s x):=by
          refine JfY Et (λj hj Ah=>?_) ?_
          ·rw[OU,Uj,beq_eq_false_iff_ne.2 (show (v:Int)≠(j:Int) by omega),Gn,GL]
          ·rw[OU,Uj,Gl,Db,hl];simp
         have BF:(bb (KH t.nodes.length λx=>(Ga i).any (Jbr t o of s x))).length=t.nodes.length:=by rw[bb_len,QG]
         have I8:=bb_get (l:=KH t.nodes.length λx=>(Ga i).any (Jbr t o of s x)) (i:=v) (by rw[QG];exact Et);simp -implicitDefEqProofs only[go_sem,Gi,BF,I8,Gg,Gt,GR,Gf,bb_set,BB];refine⟨by omega,by omega,Jh,i+1,[0,1],by omega,by omega,rfl,?_,?_⟩
         ·simp only[Kl,Gc,Gd,go_sem,Jk,Ja (Q7 _),Jj]
         ·simp[forget,JB,ren,Jm]
  ·have d1:((i:Int)<(t.nodes.length:Int))=False:=Jo;obtain rfl:i=t.nodes.length:=by omega
   have BF:(bb (KH t.nodes.length λx=>(Ga t.nodes.length).any (Jbr t o of s x))).length=t.nodes.length:=by rw[bb_len,QG]
   simp -implicitDefEqProofs only[go_sem,d1,Tr.row,Jb];refine Jd (id:=1) (z:=1) (els:=bb (KH t.nodes.length λx=>(Ga t.nodes.length).any (Jbr t o of s x))) rfl (Q7 _) ?_;have EQ:=Gu (l:=bb (KH t.nodes.length λx=>(Ga t.nodes.length).any (Jbr t o of s x))) (i:=t.nodes.length) (by rw[BF];omega);simp only[go_sem,JX,Ku,frz,Qa,Gc,Gd,Gf,GN,if_true,BF,GQ,EQ,GV,GU];refine vr_rowW (.inl rfl) (refSet _ (by rw[QG];omega)) ?_;simp -implicitDefEqProofs only[go_sem];exact⟨2,rfl,rfl⟩
end
end
section
theorem needR_ok {t:Tr}{o of:List Int}:∀x∈K5 t,(∀y∈Yu t o of x.toNat,y∈K5 t)/\(Yu t o of x.toNat).length<=(K5 t).length:=
 λx _=>⟨λy hy=>(GX.1 hy).1,Gz _ _⟩
def todoW (els:List Int)(off:Nat):CV:=.slc 2 off (els.length-off) (JbT (iz els))
theorem JeS {els:List Int}(h:els≠[]):JbT (iz els)=none:=by cases els with
 |nil=>exact absurd rfl h
 |cons x l=>rfl
section
variable {t:Tr}{o:List Int}(g:GoodT t o)(ht:t.Fit)
include g ht
theorem refReached {of:List Int}(ho:OfOk t of){s:Nat}(hs:s<t.nodes.length)(hk:(nd t s).k=41):Je1 Gb 31 [t.cv,.rslc 1 (iz of) none,.int .i64 (s:Int)] 1 (iz ((K5 t).filter λx=>(bfs (λx=>Yu t o of x.toNat) (K5 t) (Yu t o of s) []).contains x)):=by
 have Ai:=g.many;have Am:(K5 t).length=t.nodes.length:=by simp[K5]
 refine JeA (J8 c31_ok λN=>?_) rfl (Je _);simp -implicitDefEqProofs only[c31,go_sem,Tr.cv,Tr.row,Jb];refine⟨⟨by omega,GJ _,by omega,by omega⟩,?_⟩;refine Jd (id:=0) (z:=2) (els:=[t.row]) rfl rfl ?_;simp only[go_sem,JX,Ku,frz,Qa,Gc,Gd,List.map_replicate,Tr.row];refine vr_rowW (.inl rfl) (refNeeds g ht ho hs hk) ?_;simp -implicitDefEqProofs only[go_sem];have BB:∀s':Nat,s' < t.nodes.length->(nd t s').k=41->∀x∈Yu t o of s',0<=x/\x<t.nodes.length/\(nd t x.toNat).k=41:=λs' h1 h2 x hx=>by
  rw[<-need_eq g h1 h2]at hx;exact JdF g hx
 generalize hN:(λx:Int=>Yu t o of x.toNat)=Nf;have EW:∀x∈K5 t,(∀y∈Nf x,y∈K5 t)/\(Nf x).length<=(K5 t).length:=by rw[<-hN];exact needR_ok
 have Ik:∀x:Nat,x<t.nodes.length->(nd t x).k=41->∀y∈Nf x,0<=y/\y<t.nodes.length/\(nd t y.toNat).k=41:=λx h1 h2 y hy=>by
  rw[<-hN]at hy;simp only[Gl]at hy;exact BB x h1 h2 y hy
 have h0:=BB s hs hk;have IB:(Yu t o of s).length<=t.nodes.length:=by rw[<-Am];exact Gz _ _
 generalize Yu t o of s=T0 at h0 IB|-;generalize hR:bfs Nf (K5 t) T0 []=R;have Al:Yv (K5 t) []*((K5 t).length+1)<=700*701:=Lf (GK Jcd (by omega)) (by omega);have gQ:(KH t.nodes.length λx=>([]:List Int).contains x)=GY t.nodes.length false:=by rw[<-Jdm];rfl
 rw[bb_rep,<-gQ];refine Jw (σ:=List Int×Nat×List Int) (I:=λs'=>s'.2.1<=s'.1.length/\(∀x∈s'.1,0<=x/\x<t.nodes.length/\(nd t x.toNat).k=41)/\bfs Nf (K5 t) (s'.1.drop s'.2.1) s'.2.2=R/\muB (K5 t) (s'.1.drop s'.2.1) s'.2.2<=1000000)
  (inv:=λs'=>gp [(1,.rslc 1 (iz of) none),(1,.rptr t.row),(3,.slc 1 0 t.nodes.length (some t.nodes.length)),(0,todoW s'.1 s'.2.1)] 33) (hp:=λs'=>[.dead,.arr 1 (bb (KH t.nodes.length λx=>s'.2.2.contains x)),.arr 1 (iz s'.1)]) (μ:=λs'=>muB (K5 t) (s'.1.drop s'.2.1) s'.2.2) (T0,0,[]) [0,1,2] ⟨by simp,h0,by simpa using hR,by simp only[Gf,muB];omega⟩ rfl ?_ ?_ ?_
 ·simp[forget,JB,ren,Jm,gp,todoW,rowW,Tr.row,Jg]
 ·simp only[Kl,Gc,Gd,go_sem,Jk,Ja (Je T0),Ja (Q7 _),Jj]
 ·rintro⟨els,off,out⟩ ⟨Iy,hP,hB,Ml⟩
  dsimp only at Iy hP hB Ml
  have D5:(iz els).length=els.length:=Jg;by_cases Ab:off<els.length
  ·have Ah:els≠[]:=by rintro rfl;simp at Ab
   have d1:((0:Int)<((els.length-off:Nat):Int))=True:=Jq;have d2:(((els.length-off:Nat):Int) > 0)=True:=Jq;have Av:=JN Ab;have FW:els.drop off=els.getD off 0::els.drop (off+1):=by
    rw[GM Ab,Gm,Gp Ab];rfl
   have AB:els.getD off 0∈els:=by rw[Gm,Gp Ab];exact Gw Ab
   have Sg:=hP _ AB;have Aj:∀y∈els.drop off,y∈K5 t:=λy hy=>by
    have:=hP y (G5 hy);exact KD.2 ⟨this.1,this.2.1⟩
   rw[FW]at hB Aj Ml|-;have OB:=Ml;simp only[muB,Gg]at OB;generalize hx:els.getD off 0=x at Av Sg hB Aj Ml|-;obtain⟨xn,rfl⟩:∃x':Nat,x=x':=⟨x.toNat,by omega⟩;have Pw:(xn:Int)∈K5 t:=Aj xn (by simp);have F3:=Sg.2.2;rw[Gl]at F3;have Ed:xn<t.nodes.length:=by omega
   have BF:(bb (KH t.nodes.length λx=>out.contains x)).length=t.nodes.length:=by rw[bb_len,QG]
   have I8:=bb_get (l:=KH t.nodes.length λx=>out.contains x) (i:=xn) (by rw[QG];exact Ed);rw[JfZ Ed]at I8
   cases hc:out.contains (xn:Int) with
   |true=>
    rw[hc]at I8;rw[bfs_old EW Aj hc]at hB;simp -implicitDefEqProofs only[go_sem,todoW,JeS Ah,d1,D5,Av,Hl,BF,I8,Gh];refine⟨by omega,⟨by omega,GJ _⟩,by omega,by omega,(els,off+1,out),[0,1,2],⟨by simp only;omega,hP,hB,by simp only[muB];omega⟩,by simp only[muB,Gg];omega,rfl,?_,?_⟩
    ·simp only[Kl,Gc,Gd,go_sem,Jk,Ja (Je els),Ja (Q7 _),Jj]
    ·simp[forget,JB,ren,Jm,JeS Ah];omega
   |false=>
    rw[hc]at I8;rw[bfs_new EW Aj hc]at hB;have CG:=YX Pw hc;have UY:=Ld ((K5 t).length+1) (show Yv (K5 t) (out++[(xn:Int)])+1<=Yv (K5 t) out from CG);rw[Ho,Hm]at UY;have Cy:=(EW xn Pw).2;have az:Yu t o of xn=Nf (xn:Int):=by rw[<-hN];simp only[Gl]
    have PM:=Ik xn Ed F3;have Si:=(refNeeds g ht ho Ed F3).fn rfl (Je _);rw[az]at Si;have PW:(KH t.nodes.length λx=>out.contains x).set xn true=KH t.nodes.length λx=>(out++[(xn:Int)]).contains x:=by
     refine JfY Ed (λj hj Ah=>?_) (by simp);have:((j:Int) == (xn:Int))=false:=beq_eq_false_iff_ne.2 (by omega);simp[];omega
    simp -implicitDefEqProofs only[go_sem,todoW,JeS Ah,d1,D5,Av,Hl,BF,I8,Gi,Gg,Gt,GR,Gf,bb_set,PW,Tr.row];refine⟨by omega,⟨by omega,GJ _⟩,by omega,by omega,by omega,by omega,?_⟩;refine J6 Si ?_;generalize Nf (xn:Int)=M at Cy PM hB|-;have OP:off+1+(els.length-off-1)=els.length:=by omega
    have OO:(off+1+(els.length-off-1)=els.length)=True:=eq_true OP;have hd:=HZ (i:=off+1) (l:=els)
    cases M with
    |nil=>
     simp -implicitDefEqProofs only[go_sem,Xm];rw[Gq]at hB;refine⟨(els,off+1,out++[(xn:Int)]),[0,1,2],⟨by simp only;omega,hP,hB,by simp only[muB];omega⟩,by simp only[muB,Gg];omega,rfl,?_,?_⟩
     ·simp only[Kl,Gc,Gd,go_sem,Jk,Ja (Je els),Ja (Q7 _),Jj]
     ·simp[forget,JB,ren,Jm,JeS Ah];omega
    |cons y ys=>
     simp -implicitDefEqProofs only[go_sem,Ki,D5,OO,Jg,Jy];simp only[Gg]at Cy;refine⟨⟨by omega,by omega⟩,(els.drop (off+1)++y::ys,0,out++[(xn:Int)]),[0,1,3],⟨by simp,λz hz=>?_,by simpa using hB,by simp only[Gf,muB,Gv,Gg];omega⟩,by simp only[Gf,muB,Gv,Gg];omega,rfl,?_,?_⟩
     ·rcases Hg.1 hz with h|h
      ·exact hP z (G5 h)
      ·exact PM z h
     ·rw[KP,Ki,<-JgG];simp only[Kl,Gc,Gd,go_sem,Jk,Jj,Ja (Q7 _)];rw[JgG];simp[Ja (Je (els.drop (off+1))),Ja (Je ys),JB,ren]
     ·rw[JeS (show els.drop (off+1)++y::ys≠[] by simp)];simp[forget,JB,ren,Jm];omega
  ·obtain rfl:off=els.length:=by omega
   rw[H6,bfs_nil]at hB;have BF:(bb (KH t.nodes.length λx=>out.contains x)).length=t.nodes.length:=by rw[bb_len,QG]
   have d1:((0:Int)<((els.length-els.length:Nat):Int))=False:=Jo;have d2:(((els.length-els.length:Nat):Int) > 0)=False:=Jo;simp -implicitDefEqProofs only[go_sem,todoW,d1];refine Jd (id:=1) (z:=1) (els:=bb (KH t.nodes.length λx=>out.contains x)) rfl (Q7 _) ?_;have EQ:=Gu (l:=bb (KH t.nodes.length λx=>out.contains x)) (i:=t.nodes.length) (by rw[BF];omega);simp only[go_sem,JX,Ku,frz,Qa,Gc,Gd,Gf,GN,if_true,BF,GQ,EQ,GV,GU,JC (Je _)];refine vr_rowW (.inl rfl) (refSet _ (by rw[QG];omega)) ?_;rw[<-hB,<-Jfm (t:=t) (f:=λx=>out.contains x)];simp -implicitDefEqProofs only[go_sem];exact⟨3,rfl,rfl⟩
theorem refResolve:Fn Gb 9 [t.cv] (if (resR t o).2=0 then .tup [.rslc 1 (iz (ofL t o)) none,.int .i64 0,.int .i64 0] else .tup [.rslc 1 [] none,.int .i64 ((resR t o).1:Int),.int .i64 (resR t o).2]):=by
 have Ai:=g.many;have Z9:chk t=0:=(Jcs t).2 ⟨o,g⟩;have e0:(chk t != 0)=false:=by simp[Z9]
 refine YY ?_ rfl (by split <;> rfl);refine J8 c9_ok λN=>?_
 simp -implicitDefEqProofs only[c9,go_sem,Tr.cv,Tr.row];refine Jd (id:=0) (z:=2) (els:=[t.row]) rfl rfl ?_;simp only[go_sem,JX,Ku,frz,Qa,Gc,Gd,Tr.row];refine J6 (refCheck t ht) ?_;simp -implicitDefEqProofs only[go_sem,e0];have AJ:∀{k:Nat} {y:List CV} {H:List CObj},H[k]? = some (.arr 1 [])->Jp y=true->Frzs (.tup (.rslc 1 [] none::y)) (.tup (.slc k 0 0 (some 0)::y)) H:=λh hy=>.step _ 1 [] h rfl (.done (by
  simp only[frz,JX,if_true,Qx _ hy];exact wk.refl _))
 have Bu:∀(i:Nat) (a:Int),a≠0->resR t o=(i,a)->(if (resR t o).2=0 then CV.tup [.rslc 1 (iz (ofL t o)) none,.int .i64 0,.int .i64 0] else .tup [.rslc 1 [] none,.int .i64 ((resR t o).1:Int),.int .i64 (resR t o).2])=.tup [.rslc 1 [] none,.int .i64 (i:Int),.int .i64 a]:=λi a ha h=>by rw[h,if_neg ha]
 refine Jw (I:=λi:Nat=>i<=t.nodes.length/\Jgj t o 6 10 (Ga t.nodes.length)=Jgj t o 6 10 ((Ga t.nodes.length).drop i)) (inv:=λi=>gp [(1,.rptr t.row),(4,.slc 1 0 (iz ((ofL t o).take i)).length (JbT (iz ((ofL t o).take i)))),(0,.int .i64 (i:Int))] 64) (hp:=λi=>[.dead,.arr 1 (iz ((ofL t o).take i))]) (μ:=λi=>t.nodes.length-i) 0 [0,1] ⟨by omega,by rw[Gf]⟩ rfl ?_ ?_ ?_
 ·simp[forget,JB,ren,Jm,gp,Tr.row,iz,JbT]
 ·simp[Kl,Xv,iz]
 ·rintro i ⟨hi,Aa⟩;have BO:((ofL t o).take i).length=i:=by rw[G6,Xc];omega
  by_cases Ab:i<t.nodes.length
  ·have d1:((i:Int)<(t.nodes.length:Int))=True:=Jq;have Av:=JY Ab;have FD:=ofL_take (o:=o) Ab;rw[Qo Ab,Jgj]at Aa;have CS:∀a:Int,Jgj t o 6 10 (Ga t.nodes.length)=some (i,a)->resR t o=(i,a):=λa h=>by unfold resR;rw[h]
   have Aq:=Ja (ρ:=[0,3]) (Je ((ofL t o).take i));generalize (ofL t o).take i=acc at BO FD Aq|-;simp -implicitDefEqProofs only[go_sem,d1,Tr.row,Jb,Av,Nd.cv];refine anO ?_;refine J6 (Jgt _) ?_;have FB:((nd t i).k == 3 || (nd t i).k == 26 || (nd t i).k == 44)=KA t i:=rfl;rw[FB]
   cases hs:KA t i with
   |true=>
    simp -implicitDefEqProofs only[go_sem];refine J6 (refMeans g ht Ab hs) ?_;by_cases hm:JU t o i<0
    ·have e1:(JU t o i<0)=True:=eq_true hm;rw[hs,decide_eq_true hm,Gj,if_pos rfl]at Aa;rw[Bu i 10 (by decide) (CS 10 Aa)];simp -implicitDefEqProofs only[go_sem,e1];exact AJ (k:=2) rfl rfl
    ·have e1:(JU t o i<0)=False:=eq_false hm;rw[hs,decide_eq_false hm,GG,if_neg (by simp)]at Aa;simp -implicitDefEqProofs only[go_sem,e1];refine J6 (refTwice g ht Ab) ?_
     cases Ev:twR t o i with
     |true=>
      rw[Ev,if_pos rfl]at Aa;rw[Bu i 6 (by decide) (CS 6 Aa)];simp -implicitDefEqProofs only[go_sem];exact AJ (k:=2) rfl rfl
     |false=>
      rw[Ev,if_neg (by simp)]at Aa;simp -implicitDefEqProofs only[go_sem,Jy,Jg];refine⟨⟨by omega,by omega⟩,Jh,i+1,[0,3],⟨by omega,Aa⟩,by omega,rfl,?_,?_⟩
      ·rw[FD,KU];simp only[Kl,Gc,Gd,go_sem,Jk,Jj];simp[Aq,JB,ren]
      ·rw[FD,KU,Jaj];simp[forget,JB,ren,Jm]
   |false=>
    have F7:JU t o i = -1:=by
     unfold KA at hs;simp only[Bool.or_eq_false_iff,beq_eq_false_iff_ne]at hs;unfold JU;rw[if_neg hs.1.1,if_neg hs.1.2,if_neg hs.2]
    rw[hs,Gn,if_neg (by simp)]at Aa;rw[F7]at FD;simp -implicitDefEqProofs only[go_sem];refine J6 (refTwice g ht Ab) ?_
    cases Ev:twR t o i with
    |true=>
     rw[Ev,if_pos rfl]at Aa;rw[Bu i 6 (by decide) (CS 6 Aa)];simp -implicitDefEqProofs only[go_sem];exact AJ (k:=2) rfl rfl
    |false=>
     rw[Ev,if_neg (by simp)]at Aa;simp -implicitDefEqProofs only[go_sem,Jy,Jg];refine⟨⟨by omega,by omega⟩,Jh,i+1,[0,3],⟨by omega,Aa⟩,by omega,rfl,?_,?_⟩
     ·rw[FD,KU];simp only[Kl,Gc,Gd,go_sem,Jk,Jj];simp[Aq,JB,ren]
     ·rw[FD,KU,Jaj];simp[forget,JB,ren,Jm]
  ·have d1:((i:Int)<(t.nodes.length:Int))=False:=Jo;obtain rfl:i=t.nodes.length:=by omega
   rw[show (Ga t.nodes.length).drop t.nodes.length=[] from Gs (by simp),Jgj]at Aa;have CS:resR t o=match (Ga t.nodes.length).find? (stR t o) with|some i=>(i,9)|none=>(0,0):=by unfold resR;simp only[Aa];cases (Ga t.nodes.length).find? (stR t o) <;> rfl
   rw[Gu (by rw[Xc];omega)];simp -implicitDefEqProofs only[go_sem,d1,Tr.row,Jb];refine Jd (id:=1) (z:=1) (els:=iz (ofL t o)) rfl (Je _) ?_;have BU:=Xc (t:=t) (o:=o);have EQ:G8 t.nodes.length (iz (ofL t o))=iz (ofL t o):=Gu (by rw[Jg,BU];omega);simp only[go_sem,JX,Ku,frz,Qa,Gc,Gd,Gf,GN,if_true,Jg,BU,GQ,EQ,GV,GU];refine Jw (I:=λi:Nat=>i<=t.nodes.length/\(Ga t.nodes.length).find? (stR t o)=((Ga t.nodes.length).drop i).find? (stR t o)) (inv:=λi=>gp [(1,.rptr t.row),(4,.rslc 1 (iz (ofL t o)) none),(2,.int .i64 (i:Int))] 62) (hp:=λ_=>[.dead,.dead]) (μ:=λi=>t.nodes.length-i) 0 [0,1] ⟨by omega,by rw[Gf]⟩ rfl ?_ rfl ?_
   ·simp[forget,JB,ren,gp,Tr.row]
   ·rintro i ⟨hi,Aa⟩;by_cases Ab:i<t.nodes.length
    ·have d1:((i:Int)<(t.nodes.length:Int))=True:=Jq;have Av:=JY Ab;rw[Qo Ab,GH]at Aa
     cases hk:((nd t i).k == 41) with
     |false=>
      have Al:stR t o i=false:=by unfold stR;rw[hk];rfl
      rw[Al]at Aa;simp -implicitDefEqProofs only[go_sem,d1,Tr.row,Jb,Av,Nd.cv,kbE,hk];refine⟨by omega,Jh,i+1,[0,1],⟨by omega,Aa⟩,by omega,rfl,rfl,?_⟩;simp[forget,JB,ren]
     |true=>
      have Al:stR t o i=((K5 t).filter λx=>(bfs (λx=>Yu t o (ofL t o) x.toNat) (K5 t) (Yu t o (ofL t o) i) []).contains x).contains (i:Int):=by unfold stR;rw[hk,Gj]
      have hA:=(refReached g ht (ofL_ok (o:=o)) Ab (beq_iff_eq.1 hk)).fn rfl (Je _);have BF:((K5 t).filter λx=>(bfs (λx=>Yu t o (ofL t o) x.toNat) (K5 t) (Yu t o (ofL t o) i) []).contains x).length<=100000:=by
       refine GK (Gz _ _) ?_;simp only[K5,H8,He];omega
      generalize (K5 t).filter (λx=>(bfs (λx=>Yu t o (ofL t o) x.toNat) (K5 t) (Yu t o (ofL t o) i) []).contains x)=B at Al hA BF;simp -implicitDefEqProofs only[go_sem,d1,Tr.row,Jb,Av,Nd.cv,kbE,hk];refine anO ?_;refine Kb (gok rfl) hA ?_;simp -implicitDefEqProofs only[go_sem];refine Kb (gok rfl) (refHas3 B (i:Int) BF) ?_
      cases hc:B.contains (i:Int) with
      |false=>
       rw[Al,hc]at Aa;simp -implicitDefEqProofs only[go_sem];refine⟨Jh,i+1,[0,1],⟨by omega,Aa⟩,by omega,rfl,rfl,?_⟩;simp[forget,JB,ren]
      |true=>
       rw[Al,hc]at Aa;rw[Aa]at CS;rw[Bu i 9 (by decide) CS];simp -implicitDefEqProofs only[go_sem];exact AJ (k:=2) rfl rfl
    ·have d1:((i:Int)<(t.nodes.length:Int))=False:=Jo;rw[show (Ga t.nodes.length).drop i=[] from Gs (by simp;omega),GI]at Aa;rw[Aa]at CS;rw[CS,if_pos rfl];simp -implicitDefEqProofs only[go_sem,d1,Tr.row,Jb];exact .done (wk.refl _)
end
theorem refResolveE (t:Tr)(ht:t.Fit)(h:chk t≠0):Fn Gb 9 [t.cv] (.tup [.rslc 1 [] none,.int .i64 0,.int .i64 (chk t)]):=by
 have e:(chk t != 0)=true:=by simpa using h
 refine YY ?_ rfl rfl;refine J8 c9_ok λN=>?_
 simp -implicitDefEqProofs only[c9,go_sem,Tr.cv,Tr.row];refine J6 (refCheck t ht) ?_;simp -implicitDefEqProofs only[go_sem,e];refine .step 1 1 [] rfl rfl (.done ?_);simp only[frz,JX,if_true];exact wk.refl _
end
end Go.Cm
end
end
