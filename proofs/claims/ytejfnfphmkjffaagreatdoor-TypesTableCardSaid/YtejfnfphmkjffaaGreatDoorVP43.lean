/-
  A part of the proof. Conditions: none.
-/
import Derived.Test.YtejfnfphmkjffaaGreatDoorVP40
set_option linter.unusedSimpArgs false
set_option linter.unusedVariables false
open Bool renaming not_true->Gh,not_false->Gi,true_and->Gj,false_and->Gn,false_or->Gr,true_or->Gy,and_false->GG,or_false->GL,and_eq_true_iff->G9,eq_iff_iff->Hq,or_true->Hr
open List renaming getD_eq_getElem?_getD->Gm,drop_zero->Gf,map_cons->Gb,getElem?_eq_getElem->Gp,length_cons->Gg,map_nil->Gd,range->Ga,drop_eq_nil_of_le->Gs,append_nil->Gq,take_of_length_le->Gu,length_nil->Gt,length_append->Gv,length_filter_le->Gz,getElem_mem->Gw,drop_eq_getElem_cons->GM,any_cons->Gx,take_succ_eq_append_getElem->GZ,nil_append->GA,find?_cons->GH,find?_nil->GI,drop_succ_cons->GR,any_nil->GD,set_cons_zero->GU,set_cons_succ->GV,mem_of_mem_drop->G5,mem_filter->GX,replicate->GY,length_take->G6,cons_append->G7,length_pos_of_mem->Ha,length_mergeSort->Hd,length_range->He,range_succ->Hf,mem_append->Hg,contains_eq_any_beq->Ht,take->G8,mem_of_getElem?->Hu,length_reverse->Hw,mergeSort_nil->Hy,filter_append->Hz,contains_cons->HV,contains_nil->HY,length_drop->HZ,filter_cons->H5,drop_length->H6,map_append->H7,length_map->H8,filter_nil->H9,map_set->La,length->Lb
open Go.Proofs.Tryz renaming prog->Gc
open Int renaming toNat_natCast->Gl,le_refl->GJ,lt_or_le->Lc
open Nat renaming le_trans->GK,zero_add->GN,le_refl->GQ,add_zero->Hl,mul_le_mul_right->Ld,one_mul->Hm,add_mul->Ho,le_add_right->Le,mul_le_mul->Lf
noncomputable section
section
set_option maxRecDepth 100000
set_option maxHeartbeats 4000000
open Go.Proofs
namespace Go.Cm
section
theorem kbE {k m:Nat}:((k:Int) == no_index (@OfNat.ofNat Int m _))=(k == m):=by
 rw[Hq,beq_iff_eq,beq_iff_eq];exact Int.ofNat_inj
theorem kbN {k m:Nat}:((k:Int) != no_index (@OfNat.ofNat Int m _)) = !(k == m):=by rw[bne,kbE]
def tRw (t:Tr):List CV:=[.rslc 5 (ndz t.nodes) none,.rslc 1 (iz t.items) none,.rslc 1 (iz (upT t)) none,.rslc 1 (iz (JdA t)) none]
theorem JeS {t:Tr}(ht:t.Fit){i:Nat}(hi:i<t.nodes.length):(nd t i).Fit:=ht.nodes _ (by unfold nd;rw[Gm,Gp hi];exact Gw hi)
theorem J3 {t:Tr}{i:Nat}(h:i<t.nodes.length):(ndz t.nodes).getD i []=(nd t i).cv:=QT h
theorem upz {t:Tr}{i:Nat}(h:i<t.nodes.length):(iz (upT t)).getD i []=[.int .i64 (Kk t i)]:=by rw[JH (by rw[Jd4];exact h),upT_get h]
theorem itz {t:Tr}{i:Nat}(h:i<t.nodes.length):(iz (JdA t)).getD i []=[.int .i64 (Qb t i)]:=by rw[JH (by rw[Jcs];exact h),itemT_get h]
theorem Qw {t:Tr}:(iz (upT t)).length=t.nodes.length:=by rw[Jg,Jd4]
theorem itz_len {t:Tr}:(iz (JdA t)).length=t.nodes.length:=by rw[Jg,Jcs]
theorem nKind (t:Tr){i:Nat}(hi:i<t.nodes.length):Fn Gc 89 [.rptr (tRw t),.int .i64 (i:Int)] (.int .u8 ((nd t i).k:Int)):=by
 have hg:=J3 hi;refine Ja c89_ok rfl rfl λN=>?_
 simp -implicitDefEqProofs only[c89,go_sem,tRw,Jb,hg,Nd.cv];omega
theorem nInside (t:Tr){i:Nat}(hi:i<t.nodes.length):Fn Gc 174 [.rptr (tRw t),.int .i64 (i:Int)] (.bool (!((nd t i).k == 43))):=by
 refine Ja c174_ok rfl rfl λN=>?_
 simp -implicitDefEqProofs only[c174,go_sem];refine JV (nKind t hi) ?_;simp -implicitDefEqProofs only[go_sem,kbN]
def bz (l:List Nat):List (List CV):=l.map λi:Nat=>[.int .u8 (i:Int)]
theorem bz_len {l:List Nat}:(bz l).length=l.length:=by simp[bz]
theorem bz_get {l:List Nat}{i:Nat}(h:i<l.length):(bz l).getD i []=[.int .u8 (l.getD i 0:Nat)]:=by
 simp[bz,Gm,Gp h]
theorem bz_closed:∀(l:List Nat),Jq (bz l)=true
 |[]=>rfl
 |x::l=>by simp[bz,Jq,Jm,CV.closed];exact bz_closed l
theorem indexB (l:List Nat)(x:Nat)(hl:l.length<=100000):Fn Gc 173 [.rslc 1 (bz l) none,.int .u8 (x:Int)] (.int .i64 (Xk (λy=>x == y) l 0)):=by
 have Af:(bz l).length=l.length:=bz_len;have jB:=bz_closed l;refine Ja c173_ok rfl rfl λN=>?_
 simp -implicitDefEqProofs only[c173,go_sem,Af];refine JE (I:=λi:Nat=>i<=l.length/\Xk (λy=>x == y) l 0=Xk (λy=>x == y) (l.drop i) i) (inv:=λi=>gp [(0,.rslc 1 (bz l) none),(0,.int .u8 x),(5,.int .i64 (l.length:Int)),(0,.int .i64 (i:Int))] 10) (hp:=λ_=>[]) (μ:=λi=>l.length-i) 0 ⟨by omega,rfl⟩ ?_ rfl ?_
 ·simp[forget,gp]
 ·rintro i ⟨hi,Aa⟩;by_cases Ab:i<l.length
  ·have d1:=dtT i l.length;have Ar:=bz_get Ab;have Cb:l[i]? = some (l.getD i 0):=by rw[Gm,Gp Ab];rfl
   rw[QX Cb]at Aa;have en:=Jdy (l.getD i 0) x;simp -implicitDefEqProofs only[go_sem,Af,d1,Ar,en];generalize l.getD i 0=y at Aa|-;refine anO ?_
   cases he:(x == y) with
   |true=>
    rw[he,if_pos rfl]at Aa;simp -implicitDefEqProofs only[go_sem,Aa]
   |false=>
    rw[he]at Aa;simp -implicitDefEqProofs only[go_sem];refine⟨Jh,i+1,⟨by omega,by simpa using Aa⟩,by omega,?_⟩;simp[forget]
  ·have d1:=dfF i l.length;rw[Gs (by omega)]at Aa;simp -implicitDefEqProofs only[go_sem,d1,Aa,Xk]
theorem containsB (l:List Nat)(x:Nat)(hl:l.length<=100000):Fn Gc 146 [.rslc 1 (bz l) none,.int .u8 (x:Int)] (.bool (l.contains x)):=by
 refine Ja c146_ok rfl rfl λN=>?_
 simp -implicitDefEqProofs only[c146,go_sem];refine JV (indexB l x hl) ?_;have e:decide (0<=Xk (λy=>x == y) l 0)=l.contains x:=by rw[Jav,Ht]
 simp -implicitDefEqProofs only[go_sem,e]
theorem nIsDecl (t:Tr){i:Nat}(hi:i<t.nodes.length):Fn Gc 117 [.rptr (tRw t),.int .i64 (i:Int)] (.bool (KI (nd t i).k)):=by
 have e:[65,64,42,43,47].contains (nd t i).k=KI (nd t i).k:=by
  simp only[HV,HY,GL,KI,Bool.or_assoc]
 refine Ja c117_ok rfl rfl λN=>?_
 simp -implicitDefEqProofs only[c117,go_sem];refine Jd (id:=0) (z:=1) (els:=bz [65,64,42,43,47]) rfl rfl ?_;simp only[go_sem,JY,Ky,frz,Qc,bz,Gb,Gd,Gg,Gt,Gf,List.take_succ_cons,List.take_zero];refine JV (nKind t hi) ?_;simp -implicitDefEqProofs only[go_sem];refine JV (containsB [65,64,42,43,47] _ (by simp)) ?_;simp -implicitDefEqProofs only[go_sem,e]
section
variable {t:Tr}{o:List Int}(g:GoodT t o)
include g
theorem nBelow {j0 a:Nat}(gq:j0<t.nodes.length)(ha:a<t.nodes.length):Fn Gc 147 [.rptr (tRw t),.int .i64 (j0:Int),.int .i64 (a:Int)] (.bool (Jbx o j0 a)):=by
 refine Ja c147_ok rfl rfl λN=>?_
 simp -implicitDefEqProofs only[c147,go_sem];refine JE (σ:=Int) (I:=λv=>(v = -1/\Jbx o j0 a=false)\/∃j:Nat,v=j/\j<t.nodes.length/\Jbx o j0 a=Jbx o j a) (inv:=λv=>gp [(0,.rptr (tRw t)),(0,.int .i64 v),(0,.int .i64 (a:Int))] 21) (hp:=λ_=>[]) (μ:=λv=>if v<0 then 0 else t.nodes.length-v.toNat+1) (j0:Int) (.inr ⟨j0,rfl,gq,rfl⟩) ?_ rfl ?_
 ·simp[forget,gp]
 ·rintro v (⟨rfl,hb⟩|⟨j,rfl,hj,hb⟩)
  ·have e1:(((-1:Int)) != -1)=false:=by decide
   have e2:((-1:Int) == (a:Int))=false:=beq_eq_false_iff_ne.2 (by omega);simp -implicitDefEqProofs only[go_sem,e1,e2,hb]
  ·have e1:((j:Int) != -1)=true:=bne_iff_ne.2 (by omega);by_cases he:j=a
   ·subst he;have e2:((j:Int) != (j:Int))=false:=by simp
    have e3:((j:Int) == (j:Int))=true:=by simp
    have e4:=Qp.2 (Jbw g hj);simp -implicitDefEqProofs only[go_sem,e1,e2,e3,hb,e4]
   ·have e2:((j:Int) != (a:Int))=true:=bne_iff_ne.2 (by omega);have hp:=par_rng g hj;have hu:=blw_up g hj ha he;simp -implicitDefEqProofs only[go_sem,e1,e2,tRw,Qw,upz hj];refine⟨by omega,Kk t j,?_,?_,?_⟩
    ·rcases Xh g hj with ⟨h,_⟩|⟨m,h,h1,h2,_⟩
     ·rw[h,if_pos (by decide)]at hu;exact .inl ⟨h,by rw[hb,hu]⟩
     ·rw[h,iN7,Gl]at hu;exact .inr ⟨m,h,h2,by rw[hb,hu]⟩
    ·rcases Xh g hj with ⟨h,_⟩|⟨m,h,h1,h2,_⟩
     ·show (if Kk t j<0 then 0 else _)<(if (j:Int)<0 then 0 else _);rw[h,if_pos (by decide),iN7];omega
     ·rw[h,iN7,iN7];omega
    ·simp[forget]
theorem lastz {m:Nat}(hm:m<t.nodes.length)(Ad:0<(nd t m).kids.length):(iz (nd t m).kids).getD ((nd t m).kids.length-1) []=[.int .i64 (Ji t m:Int)]:=by
 rw[JH (by omega)];have h4:(nd t m).kids.getD ((nd t m).kids.length-1) 0∈(nd t m).kids:=by
  rw[Gm,Gp (by omega)];exact Gw _
 have h5:=(g.kid hm h4).1;have:((Ji t m:Nat):Int)=(nd t m).kids.getD ((nd t m).kids.length-1) 0:=by unfold Ji;omega
 rw[this]
theorem nLate (ht:t.Fit){a0 s:Nat}(hs:s<t.nodes.length)(hk:(nd t s).k=41)(DY:blw o a0 (Ji t s)):Fn Gc 148 [.rptr (tRw t),.int .i64 (a0:Int),.int .i64 (s:Int)] (.bool (buL t (upL t (Ji t s) t.nodes.length a0) false)):=by
 have Bu:=(set_kid g hs hk).1;have Dn:Ji t s<t.nodes.length:=by have:=(JR g hs Bu).2;omega
 generalize hR:buL t (upL t (Ji t s) t.nodes.length a0) false=R;refine Ja c148_ok rfl rfl λN=>?_
 simp -implicitDefEqProofs only[c148,go_sem];refine JE (σ:=Nat×Bool) (I:=λs'=>blw o s'.1 (Ji t s)/\∃f,t.nodes.length<=s'.1+f/\R=buL t (upL t (Ji t s) f s'.1) s'.2) (inv:=λs'=>gp [(0,.rptr (tRw t)),(1,.int .i64 (s:Int)),(4,.bool s'.2),(0,.int .i64 (s'.1:Int))] 64) (hp:=λ_=>[]) (μ:=λs'=>t.nodes.length-s'.1) (a0,false) ⟨DY,t.nodes.length,by omega,hR.symm⟩ ?_ rfl ?_
 ·simp[forget,gp]
 ·rintro⟨a,late⟩ ⟨hb,f,hf,Aa⟩
  dsimp only at hb hf Aa
  have ha:a<t.nodes.length:=by have:=hb.1;omega
  rcases late_step g (late:=late) hs Bu hb hf with ⟨he,hp⟩|⟨Ai,m,f',hp,jo,Md,hm,MJ,AJ,gI,Au⟩
  ·have e1:((s:Int) != (s:Int))=false:=by simp
   subst he;rw[late_end]at Aa;simp -implicitDefEqProofs only[go_sem,tRw,Qw,upz ha,hp,e1,Aa];omega
  ·have e1:((m:Int) != (s:Int))=true:=bne_iff_ne.2 (by omega);have hg:=J3 hm;rw[Au]at Aa;have Ad:0<(nd t m).kids.length:=Ha AJ;have Aw:(iz (nd t m).kids).length=(nd t m).kids.length:=Jg;have A7:=lastz g hm Ad;have BK:(nd t m).kids.length<9223372036854775807:=by have:=(JeS ht hm).kidn;omega
   simp -implicitDefEqProofs only[go_sem,tRw,Qw,upz ha,hp,e1,Jb,hg,Nd.cv];refine⟨by omega,by omega,by omega,?_⟩;refine JV (nKind t hm) ?_;have fin:∀late',late'=JcS t m a late->(blw o m (Ji t s)/\∃f,t.nodes.length<=m+f/\R=buL t (upL t (Ji t s) f m) late'):=λlate' h=>⟨MJ,f',gI,by rw[h];exact Aa⟩
   have en:=Jdy (Ji t m) a;by_cases h4:(nd t m).k=4
   ·have Al:JcS t m a late=true:=by unfold JcS;rw[if_pos h4]
    simp -implicitDefEqProofs only[go_sem,kbE,h4,Qw,upz ha,hp];refine⟨by omega,(m,true),fin true Al.symm,by simp only;omega,?_⟩;simp[forget]
   ·have b4:((nd t m).k == 4)=false:=beq_eq_false_iff_ne.2 h4;by_cases h5:(nd t m).k=46\/(nd t m).k=47
    ·have Al:JcS t m a late=(late || a == Ji t m):=by unfold JcS;rw[if_neg h4,if_pos h5]
     have b5:((nd t m).k == 46)=true\/((nd t m).k == 46)=false/\((nd t m).k == 47)=true:=by
      rcases h5 with h|h <;> simp[h]
     rcases b5 with b5|⟨b5,b6⟩
     ·cases late with
      |true=>
       simp -implicitDefEqProofs only[go_sem,kbE,b4,b5,Qw,upz ha,hp];refine⟨by omega,(m,true),fin true (by rw[Al];rfl),by simp only;omega,?_⟩;simp[forget]
      |false=>
       simp -implicitDefEqProofs only[go_sem,kbE,b4,b5,Qw,upz ha,hp,Aw,A7,en];refine⟨Jh,by omega,by omega,(m,a == Ji t m),fin _ (by rw[Al];rfl),by simp only;omega,?_⟩;simp[forget]
     ·cases late with
      |true=>
       simp -implicitDefEqProofs only[go_sem,kbE,b4,b5,b6,Qw,upz ha,hp];refine⟨by omega,(m,true),fin true (by rw[Al];rfl),by simp only;omega,?_⟩;simp[forget]
      |false=>
       simp -implicitDefEqProofs only[go_sem,kbE,b4,b5,b6,Qw,upz ha,hp,Aw,A7,en];refine⟨Jh,by omega,by omega,(m,a == Ji t m),fin _ (by rw[Al];rfl),by simp only;omega,?_⟩;simp[forget]
    ·have b5:((nd t m).k == 46)=false:=beq_eq_false_iff_ne.2 λh=>h5 (.inl h)
     have b6:((nd t m).k == 47)=false:=beq_eq_false_iff_ne.2 λh=>h5 (.inr h)
     by_cases h7:(nd t m).k=28
     ·have b7:((nd t m).k == 28)=true:=by simp[h7]
      have Al:JcS t m a late=(late && (nd t a).k == 43):=by unfold JcS;rw[if_neg h4,if_neg h5,if_pos h7]
      cases late with
      |true=>
       simp -implicitDefEqProofs only[go_sem,kbE,b4,b5,b6,b7];refine Kh (gok rfl) (nInside t ha) ?_;simp -implicitDefEqProofs only[go_sem,Qw,upz ha,hp,Bool.not_not];refine⟨by omega,(m,(nd t a).k == 43),fin _ (by rw[Al];rfl),by simp only;omega,?_⟩;simp[forget]
      |false=>
       simp -implicitDefEqProofs only[go_sem,kbE,b4,b5,b6,b7,Qw,upz ha,hp];refine⟨by omega,(m,false),fin _ (by rw[Al];rfl),by simp only;omega,?_⟩;simp[forget]
     ·have b7:((nd t m).k == 28)=false:=beq_eq_false_iff_ne.2 h7;have Al:JcS t m a late=late:=by unfold JcS;rw[if_neg h4,if_neg h5,if_neg h7]
      simp -implicitDefEqProofs only[go_sem,kbE,b4,b5,b6,b7,Qw,upz ha,hp];refine⟨by omega,(m,late),fin _ Al.symm,by simp only;omega,?_⟩;simp[forget]
end
end
theorem kidsK_take {t:Tr}{u k i:Nat}(h:i<(nd t u).kids.length):((nd t u).kids.take (i+1)).filter (λc=>Jt t.nodes c == k)=((nd t u).kids.take i).filter (λc=>Jt t.nodes c == k)++if Jt t.nodes ((nd t u).kids.getD i 0) == k then [(nd t u).kids.getD i 0] else []:=by
 rw[GZ h,Hz,Gm,Gp h,Option.getD_some,H5,H9]
theorem kids_len_le {t:Tr}{u k i:Nat}:(((nd t u).kids.take i).filter (λc=>Jt t.nodes c == k)).length<=(nd t u).kids.length:=
 GK (Gz _ _) (by rw[G6];omega)
theorem nKids (t:Tr)(ht:t.Fit){u:Nat}(hu:u<t.nodes.length)(hK:∀k∈(nd t u).kids,0<=k/\k<t.nodes.length)(k:Nat):JdC Gc 115 [.rptr (tRw t),.int .i64 (u:Int),.int .u8 (k:Int)] 1 (iz (Xo t u k)):=by
 have hg:=J3 hu;have BK:=(JeS ht hu).kidn;have Aw:(iz (nd t u).kids).length=(nd t u).kids.length:=Jg;refine JdW (Kc c115_ok λN=>?_) rfl (Jf _);simp only[c115,go_sem,tRw,Jb,hg,Nd.cv,Aw];refine anO ?_;refine Yn ?_;simp only[go_sem,GA];generalize hF:(λc=>Jt t.nodes c == k)=F;refine Jv (I:=λi:Nat=>i<=(nd t u).kids.length) (inv:=λi=>gp [(0,.rptr (tRw t)),(1,.int .u8 (k:Int)),(3,Qg 0 (iz (((nd t u).kids.take i).filter F))),(10,.rslc 1 (iz (nd t u).kids) none),(0,.int .i64 ((nd t u).kids.length:Int)),(0,.int .i64 (i:Int))] 14) (hp:=λi=>[Q7 1 (iz (((nd t u).kids.take i).filter F))]) (μ:=λi=>(nd t u).kids.length-i) 0 [0] (by omega) rfl ?_ rfl ?_
 ·simp[forget,JB,ren,gp,tRw,iz,Qg]
 ·intro i hi;by_cases Ab:i<(nd t u).kids.length
  ·have d1:=dtT i (nd t u).kids.length;have Ar:=JH Ab;have CW:=kidsK_take (k:=k) Ab;have A9:=kids_len_le (t:=t) (u:=u) (k:=k) (i:=i);have AC:(nd t u).kids.getD i 0∈(nd t u).kids:=by rw[Gm,Gp Ab];exact Gw Ab
   have hb:=hK _ AC;rw[hF]at CW A9;generalize (nd t u).kids.getD i 0=c at CW Ar hb;obtain⟨c,rfl⟩:∃c':Nat,c=c':=⟨c.toNat,by omega⟩;generalize ((nd t u).kids.take i).filter F=acc at CW A9;simp only[go_sem,d1,Aw,Ar];refine anO ?_;refine JV (nKind t (by omega)) ?_;have en:=Jdy k (nd t c).k;have ek:Jt t.nodes (c:Int)=(nd t c).k:=by unfold Jt nd;rw[Gl]
   rw[ek]at CW
   cases hq:(nd t c).k == k with
   |false=>
    rw[hq]at CW en;simp only[Bool.false_eq_true,if_false,Gq]at CW;simp only[go_sem,en];refine⟨Jh,i+1,[0],by omega,by omega,rfl,?_,?_⟩
    ·rw[CW];simp only[Kq,Gb,Gd,go_sem,Qk (Jc (Jf acc))]
    ·rw[CW];simp[forget,JB,ren,Jn,tRw,Qx]
   |true=>
    rw[hq]at CW en;simp only[if_true]at CW;simp only[go_sem,en,Jg,Jy];refine⟨⟨by omega,by omega⟩,Jh,i+1,[2],by omega,by omega,rfl,?_,?_⟩
    ·rw[CW,Qe,KA];simp only[Kq,Gb,Gd,go_sem,Jo];simp[Jc (Jf acc),JB,ren]
    ·rw[CW,Qe,Kz];simp[forget,JB,ren,Jn,tRw,Jg]
  ·have d1:=dfF i (nd t u).kids.length;rw[Gu (by omega)];rw[show (nd t u).kids.filter F=Xo t u k by rw[<-hF];rfl];simp only[go_sem,d1];exact⟨0,rfl,rfl⟩
section
theorem JeV {z bytes id:Nat}{H:List CObj}{els:List (List CV)}:KU z bytes H (Qg id els) []=some (.tt,Qg id els,H):=by cases els <;> rfl
attribute [go_sem] JeV
theorem Xw:iz []=[]:=rfl
theorem Kn {x:Int}{l:List Int}:iz (x::l)=[.int .i64 x]::iz l:=rfl
theorem KS {a b:List Int}:iz (a++b)=iz a++iz b:=by simp[iz]
theorem JeO {f:Int->List Int}{b:Nat}(h:∀x,(f x).length<=b):∀l:List Int,((l.map f).flatten).length<=l.length*b
 |[]=>by simp
 |x::l=>by
  have h1:=h x;have h2:=JeO h l;simp only[Gb,List.flatten_cons,Gv,Gg,Ho,Hm];omega
theorem kidsK_len {t:Tr}{u k:Nat}:(Xo t u k).length<=(nd t u).kids.length:=Gz _ _
theorem flat_take {f:Int->List Int}{l:List Int}{i:Nat}(h:i<l.length):((l.take (i+1)).map f).flatten=((l.take i).map f).flatten++f (l.getD i 0):=by
 rw[GZ h,H7,List.flatten_append,Gm,Gp h];simp
theorem kidsK_rng {t:Tr}{o:List Int}(g:GoodT t o){u k:Nat}(hu:u<t.nodes.length){c:Int}(hc:c∈Xo t u k):0<=c/\c<t.nodes.length:=by
 have:=g.kid hu (Qm.1 hc).1;omega
theorem Jar {t:Tr}(ht:t.Fit){x:Int}{k:Nat}:(Xo t x.toNat k).length<=30:=by
 rcases Nat.lt_or_ge x.toNat t.nodes.length with h|h
 ·exact GK kidsK_len (JeS ht h).kidn
 ·have:nd t x.toNat=default:=by unfold nd;rw[Gm,List.getElem?_eq_none h];rfl
  refine GK kidsK_len ?_;rw[this];exact Nat.zero_le _
theorem binds_le {t:Tr}(ht:t.Fit){u:Nat}:(Jaa t u).length<=900:=by
 have h1:=JeO (f:=λs:Int=>Xo t s.toNat 42) (b:=30) (λx=>Jar ht) (Xo t u 41);have h2:=Jar ht (x:=(u:Int)) (k:=41);rw[Gl]at h2;unfold Jaa;omega
section
variable {t:Tr}{o:List Int}(g:GoodT t o)(ht:t.Fit)
include g ht
theorem nKidsG {u:Nat}(hu:u<t.nodes.length)(k:Nat):JdC Gc 115 [.rptr (tRw t),.int .i64 (u:Int),.int .u8 (k:Int)] 1 (iz (Xo t u k)):=
 nKids t ht hu (λc hc=>by have:=g.kid hu hc;omega) k
theorem nKidsF {u:Nat}(hu:u<t.nodes.length)(k:Nat):Fn Gc 115 [.rptr (tRw t),.int .i64 (u:Int),.int .u8 (k:Int)] (.rslc 1 (iz (Xo t u k)) none):=
 (nKidsG g ht hu k).fn rfl (Jf _)
theorem nBinds {u:Nat}(hu:u<t.nodes.length):JdC Gc 170 [.rptr (tRw t),.int .i64 (u:Int)] 1 (iz (Jaa t u)):=by
 have hL:=Jar ht (x:=(u:Int)) (k:=41);rw[Gl]at hL;refine JdW (Kc c170_ok λN=>?_) rfl (Jf _);simp only[c170,go_sem];refine JV (nKidsF g ht hu 41) ?_;have Bt:Jaa t u=((Xo t u 41).map λs=>Xo t s.toNat 42).flatten:=rfl;rw[Bt];have hr:∀c∈Xo t u 41,0<=c/\c<t.nodes.length:=λc hc=>kidsK_rng g hu hc
 generalize Xo t u 41=L at hL hr|-;have Af:(iz L).length=L.length:=Jg;simp only[go_sem,Af];refine Yn ?_;simp only[go_sem,GA];generalize hf:(λs:Int=>Xo t s.toNat 42)=f;have I8:∀x,(f x).length<=30:=λx=>by rw[<-hf];exact Jar ht
 refine Jv (I:=λi:Nat=>i<=L.length) (inv:=λi=>gp [(0,.rptr (tRw t)),(3,Qg 0 (iz ((L.take i).map f).flatten)),(4,.rslc 1 (iz L) none),(0,.int .i64 (L.length:Int)),(0,.int .i64 (i:Int))] 10) (hp:=λi=>[Q7 1 (iz ((L.take i).map f).flatten)]) (μ:=λi=>L.length-i) 0 [0] (by omega) rfl ?_ rfl ?_
 ·simp[forget,JB,ren,gp,Qg,iz]
 ·intro i hi;by_cases Ab:i<L.length
  ·have d1:=dtT i L.length;have Ar:=JH Ab;have AC:L.getD i 0∈L:=by rw[Gm,Gp Ab];exact Gw Ab
   have hb:=hr _ AC;have EW:=flat_take (f:=f) Ab;have Pq:f (L.getD i 0)=Xo t (L.getD i 0).toNat 42:=by rw[<-hf]
   have RP:=I8 (L.getD i 0);have Cf:=JeO I8 (L.take i);rw[G6]at Cf;generalize ((L.take i).map f).flatten=acc at Cf EW|-;generalize f (L.getD i 0)=xs at Pq RP EW;generalize L.getD i 0=c at Ar hb Pq;obtain⟨c,rfl⟩:∃c':Nat,c=c':=⟨c.toNat,by omega⟩;rw[Gl]at Pq;simp only[go_sem,d1,Af,Ar];refine anO ?_;refine JV (nKidsF g ht (by omega) 42) ?_;rw[<-Pq]
   cases xs with
   |nil=>
    rw[Gq]at EW;simp only[go_sem,Xw];refine⟨Jh,i+1,[0],by omega,by omega,rfl,?_,?_⟩
    ·rw[EW];simp only[Kq,Gb,Gd,go_sem,Qk (Jc (Jf acc))]
    ·rw[EW];simp[forget,JB,ren,Jn,Qx]
   |cons x xs=>
    simp only[Gg]at RP;simp only[go_sem,Kn,Jg,Jy];refine⟨⟨by omega,by omega⟩,Jh,i+1,[1],by omega,by omega,rfl,?_,?_⟩
    ·rw[EW,KS,Kn,KA];simp only[Kq,Gb,Gd,go_sem,Jo];simp[Jc (Jf acc),Jc (Jf xs),JB,ren]
    ·rw[EW,KS,Kn,Kz];simp[forget,JB,ren,Jn,Jg]
  ·have d1:=dfF i L.length;rw[Gu (by omega)];simp only[go_sem,d1];exact⟨0,rfl,rfl⟩
end
end
section
section
variable {P:Program}{E:Env}{H:List CObj}
theorem CallsC.pad {f:Nat}{args:List CV}{R R':CV->List CObj->Prop}(h:CallsC P E f args H R)(hR:∀v H',R v H'->R' v H'\/R' v (H'++[.dead])):CallsC P E f args H R':=by
 intro m w vs hs hv;refine(h m w vs hs hv).mono ?_;rintro e w' ⟨r,m',v,H',h1,h2,h3,h4,h5⟩;rcases hR _ _ h5 with g|g
 ·exact⟨r,m',v,H',h1,h2,h3,h4,g⟩
 ·obtain⟨t1,t2,t3⟩:=h3.pad (n0:=H.length);exact⟨r,_,v,_,h1,h2.trans t3,t1,Xg t2 (Kw.refl _) _ _ h4,g⟩
def RowR (z:Nat)(els:List (List CV))(v:CV)(H':List CObj):Prop:=(∃id,v=Qg id els/\H'[id]? = some (Q7 z els))\/(v=.nils/\els=[])\/∃id c,v=.slc id 0 els.length (some c)/\H'[id]? = some (.arr z els)/\els≠[]
theorem RowR.row {z id:Nat}{els:List (List CV)}{v:CV}{H':List CObj}(h1:v=Qg id els)(h2:H'[id]? = some (Q7 z els)):RowR z els v H':=.inl ⟨id,h1,h2⟩
theorem RowR.nil {z:Nat}{H':List CObj}:RowR z [] .nils H':=.inr (.inl ⟨rfl,rfl⟩)
theorem RowR.lit {z id c:Nat}{e:List CV}{els:List (List CV)}{H':List CObj}(h2:H'[id]? = some (.arr z (e::els))):RowR z (e::els) (.slc id 0 (els.length+1) (some c)) H':=.inr (.inr ⟨id,c,rfl,h2,by simp⟩)
theorem JeL {f:Nat}{args:List CV}{z:Nat}{els:List (List CV)}(h:CallsC P Env.none f args [] (RowR z els))(ha:Jm args=true)(hc:Jq els=true):JdC P f args z els:=
 JdW ((h.wk (R':=λv H'=>(∃id,v=Qg id els/\H'[id]? = some (Q7 z els))\/(v=.nils/\els=[])) λv H' hv=>by
  rcases hv with hv|hv|⟨id,c,rfl,h2,h3⟩
  ·exact⟨v,wk.refl _,.inl hv⟩
  ·exact⟨v,wk.refl _,.inr hv⟩
  ·exact⟨_,wk_cap,.inl ⟨id,(YP h3).symm,by rw[Yp h3];exact h2⟩⟩).pad λv H' hv=>by
  rcases hv with hv|⟨rfl,rfl⟩
  ·exact .inl hv
  ·exact .inr ⟨H'.length,rfl,by simp;rfl⟩) ha hc
end
section
variable {t:Tr}{o:List Int}(g:GoodT t o)(ht:t.Fit)
include g ht
theorem nDeclares {u a:Nat}(hu:u<t.nodes.length)(ha:a<t.nodes.length):JdC Gc 144 [.rptr (tRw t),.int .i64 (u:Int),.int .i64 (a:Int)] 1 (iz (JcC t u a)):=by
 have hg:=J3 hu;have Aw:(iz (nd t u).kids).length=(nd t u).kids.length:=Jg;have bu:=dtT u t.nodes.length;refine JeL (Kc c144_ok λN=>?_) rfl (Jf _);unfold JcC;by_cases Ec:(nd t u).k=40
 ·rw[if_pos Ec];simp -implicitDefEqProofs only[c144,go_sem,tRw,Jb,hg,Nd.cv,kbE,Ec];refine anO ?_;refine Jfs (.inl rfl) (nBinds g ht hu) ?_;simp -implicitDefEqProofs only[go_sem];exact .row (id:=1) rfl rfl
 have b40:((nd t u).k == 40)=false:=beq_eq_false_iff_ne.2 Ec;rw[if_neg Ec];by_cases BG:(nd t u).k=65
 ·rw[if_pos BG];simp -implicitDefEqProofs only[c144,go_sem,tRw,Jb,hg,Nd.cv,kbE,BG];refine anO ?_;refine Jfs (.inl rfl) (nKidsG g ht hu 64) ?_;simp -implicitDefEqProofs only[go_sem];exact .row (id:=1) rfl rfl
 have b65:((nd t u).k == 65)=false:=beq_eq_false_iff_ne.2 BG;rw[if_neg BG];by_cases BV:(nd t u).k=47
 ·rw[if_pos BV];have Ad:(nd t u).kids.length=3:=(Jcb g hu BV).1;have M9:=JH (l:=(nd t u).kids) (i:=2) (by omega);by_cases he:(a:Int)=(nd t u).kids.getD 2 0
  ·have e1:((a:Int) == (nd t u).kids.getD 2 0)=true:=beq_iff_eq.2 he;rw[if_pos he];simp -implicitDefEqProofs only[c144,go_sem,tRw,Jb,hg,Nd.cv,kbE,BV,Aw,Ad,M9,e1];exact⟨by omega,by omega,.lit rfl⟩
  ·have e1:((a:Int) == (nd t u).kids.getD 2 0)=false:=beq_eq_false_iff_ne.2 he;rw[if_neg he];simp -implicitDefEqProofs only[c144,go_sem,tRw,Jb,hg,Nd.cv,kbE,BV,Aw,Ad,M9,e1];exact⟨by omega,by omega,.nil⟩
 have b47:((nd t u).k == 47)=false:=beq_eq_false_iff_ne.2 BV;rw[if_neg BV];by_cases DZ:(nd t u).k=28
 ·rw[if_pos DZ];simp -implicitDefEqProofs only[c144,go_sem,tRw,Jb,hg,Nd.cv,kbE,DZ];refine anO ?_;refine JV (nKind t ha) ?_;by_cases Cy:(nd t a).k=43
  ·rw[if_pos Cy];simp -implicitDefEqProofs only[go_sem,kbE,Cy];exact .nil
  have b43:((nd t a).k == 43)=false:=beq_eq_false_iff_ne.2 Cy;rw[if_neg Cy];by_cases Bg:(nd t a).k=41\/(nd t a).k=44
  ·rw[if_pos Bg];have hK:=Jar ht (x:=(u:Int)) (k:=43);rw[Gl]at hK;have hB:=binds_le ht (u:=u);have b41:((nd t a).k == 41)=true\/((nd t a).k == 41)=false/\((nd t a).k == 44)=true:=by
    rcases Bg with h|h <;> simp[h]
   rcases b41 with b41|⟨b41,b44⟩
   ·simp -implicitDefEqProofs only[go_sem,kbE,b43,b41];refine Jfs (.inl rfl) (nKidsG g ht hu 43) ?_;simp -implicitDefEqProofs only[go_sem];refine JV ((nBinds g ht hu).fn rfl (Jf _)) ?_;generalize Xo t u 43=L at hK|-;generalize Jaa t u=M at hB|-
    cases M with
    |nil=>
     simp -implicitDefEqProofs only[go_sem,Xw,Gq];exact .row (id:=1) rfl rfl
    |cons x xs=>
     simp only[Gg]at hB;simp -implicitDefEqProofs only[go_sem,Kn,Jg,Jy];refine⟨⟨by omega,by omega⟩,.row (id:=2) (by rw[KS,Kn,Kz,Jg,Jg]) (by rw[KS,Kn,KA];rfl)⟩
   ·simp -implicitDefEqProofs only[go_sem,kbE,b43,b41,b44];refine Jfs (.inl rfl) (nKidsG g ht hu 43) ?_;simp -implicitDefEqProofs only[go_sem];refine JV ((nBinds g ht hu).fn rfl (Jf _)) ?_;generalize Xo t u 43=L at hK|-;generalize Jaa t u=M at hB|-
    cases M with
    |nil=>
     simp -implicitDefEqProofs only[go_sem,Xw,Gq];exact .row (id:=1) rfl rfl
    |cons x xs=>
     simp only[Gg]at hB;simp -implicitDefEqProofs only[go_sem,Kn,Jg,Jy];refine⟨⟨by omega,by omega⟩,.row (id:=2) (by rw[KS,Kn,Kz,Jg,Jg]) (by rw[KS,Kn,KA];rfl)⟩
  ·have b41:((nd t a).k == 41)=false:=beq_eq_false_iff_ne.2 λh=>Bg (.inl h)
   have b44:((nd t a).k == 44)=false:=beq_eq_false_iff_ne.2 λh=>Bg (.inr h)
   rw[if_neg Bg];simp -implicitDefEqProofs only[go_sem,kbE,b43,b41,b44];refine Jfs (.inl rfl) (nKidsG g ht hu 43) ?_;simp -implicitDefEqProofs only[go_sem];exact .row (id:=1) rfl rfl
 have b28:((nd t u).k == 28)=false:=beq_eq_false_iff_ne.2 DZ;rw[if_neg DZ];simp -implicitDefEqProofs only[c144,go_sem,tRw,Jb,hg,Nd.cv,kbE,b40,b65,b47,b28];exact⟨by omega,.nil⟩
omit g in
theorem decl_le {u a:Nat}:(JcC t u a).length<=1000:=by
 have hB:=binds_le ht (u:=u);have hK:∀k,(Xo t u k).length<=30:=λk=>by
  have:=Jar ht (x:=(u:Int)) (k:=k)
  rwa [Gl]at this
 have h1:=hK 64;have h2:=hK 43;unfold JcC
 repeat' split
 all_goals first|omega|simp only[Gv,Gg,Gt];omega
omit ht in
theorem sight_sort {j:Nat}(hj:j<t.nodes.length):(X9 t t.nodes.length j).mergeSort (λx y=>decide (x<=y))=QK t j:=by
 refine asc_eq (sort_strict (climb_nodup g _ _ hj)) (Jd0.filter _) λx=>?_
 unfold QK;rw[sort_mem,GX,List.contains_iff_mem]
 constructor
 ·intro h;have:=climb_who g _ _ _ hj h;exact⟨KE.2 ⟨this.1,this.2.1⟩,h⟩
 ·exact λh=>h.2
theorem nSight {j:Nat}(hj:j<t.nodes.length):Fn Gc 114 [.rptr (tRw t),.int .i64 (j:Int)] (.rslc 1 (iz (QK t j)) none):=by
 have Aj:=g.many;rw[<-sight_sort g hj];refine Jf0 (Kc c114_ok λN=>?_) rfl (Jf _);simp -implicitDefEqProofs only[c114,go_sem];refine Yn ?_;simp only[go_sem,GA];generalize hC:X9 t t.nodes.length j=C;refine Jv (σ:=Nat×Nat×List Int) (I:=λs=>s.2.1<t.nodes.length/\t.nodes.length<=s.2.1+s.1/\s.2.2++X9 t s.1 s.2.1=C/\s.2.2.length+1000*s.1<=1000*t.nodes.length) (inv:=λs=>gp [(0,.rptr (tRw t)),(3,Qg 0 (iz s.2.2)),(0,.int .i64 (s.2.1:Int))] 31) (hp:=λs=>[Q7 1 (iz s.2.2)]) (μ:=λs=>t.nodes.length-s.2.1) (t.nodes.length,j,[]) [0] ⟨hj,by simp only;omega,by simp[hC],by simp⟩ rfl ?_ rfl ?_
 ·simp[forget,JB,ren,gp,Qg,iz]
 ·rintro⟨f,a,acc⟩ ⟨ha,hf,Cf,Ad⟩
  dsimp only at ha hf Cf Ad
  obtain⟨f,rfl⟩:∃f',f=f' + 1:=⟨f-1,by omega⟩;rw[X9]at Cf;rcases Xh g ha with ⟨hp,_⟩|⟨m,hp,Md,hm,_⟩
  ·have e1:((-1:Int) != -1)=false:=by decide
   rw[hp,if_pos (by decide),Gq]at Cf;simp -implicitDefEqProofs only[go_sem,tRw,Qw,upz ha,hp,e1];refine anO ?_
   cases acc with
   |nil=>
    rw[<-Cf];simp -implicitDefEqProofs only[go_sem,Xw,XV];refine JV sortNil ?_;simp -implicitDefEqProofs only[go_sem,Hy,Xw,XV,Jah];exact⟨0,rfl⟩
   |cons x xs=>
    rw[<-Cf];simp only[Gg]at Ad;have Ai:(x::xs).mergeSort (λx y=>decide (x<=y))≠[]:=by
     intro e;have:=congrArg Lb e;rw[Hd]at this;simp at this
    have Eg:(iz ((x::xs).mergeSort λx y=>decide (x<=y)))≠[]:=by simpa [iz]using Ai
    simp -implicitDefEqProofs only[go_sem,Kn,Yo,JaS,Jg];refine Km (.inl rfl) (sortRow (l:=x::xs) (by simp) (by simp only[Gg];omega) rfl) λv H' ⟨h1,h2⟩=>?_
    subst h1 h2;simp -implicitDefEqProofs only[go_sem];refine⟨0,by rw[YP Eg,Jg,Hd];rfl,by rw[Yp Eg];rfl⟩
  ·have e1:((m:Int) != -1)=true:=bne_iff_ne.2 (by omega);rw[hp,iN7,Gl,<-List.append_assoc]at Cf;have Bq:=decl_le ht (u:=m) (a:=a);simp -implicitDefEqProofs only[go_sem,tRw,Qw,upz ha,hp,e1];refine⟨by omega,by omega,?_⟩;refine JV ((nDeclares g ht hm ha).fn rfl (Jf _)) ?_;generalize JcC t m a=xs at Cf Bq|-
   cases xs with
   |nil=>
    rw[Gq]at Cf;simp -implicitDefEqProofs only[go_sem,Qw,upz ha,hp,Xw];refine⟨by omega,(f,m,acc),[0],⟨hm,by simp only;omega,Cf,by simp only;omega⟩,by simp only;omega,rfl,?_,?_⟩
    ·simp only[Kq,Gb,Gd,go_sem,Qk (Jc (Jf acc))]
    ·simp[forget,JB,ren,Jn,Qx]
   |cons x xs=>
    simp only[Gg]at Bq;simp -implicitDefEqProofs only[go_sem,upz ha,hp,Kn,Jg,Jd4,Jy];refine⟨⟨by omega,by omega⟩,by omega,(f,m,acc++x::xs),[1],⟨hm,by simp only;omega,Cf,by simp only[Gv,Gg];omega⟩,by simp only;omega,rfl,?_,?_⟩
    ·rw[KS,Kn,KA];simp only[Kq,Gb,Gd,go_sem,Jo];simp[Jc (Jf acc),Jc (Jf xs),JB,ren]
    ·rw[KS,Kn,Kz];simp[forget,JB,ren,Jn,Jg]
end
end
section
theorem JeQ {q:Int->Bool}:∀(l:List Int) (i:Nat),(Xk q l i = -1/\l.find? q=none)\/∃j,j<l.length/\Xk q l i=((i+j:Nat):Int)/\l.find? q=some (l.getD j 0)
 |[],i=>.inl ⟨rfl,rfl⟩
 |x::l,i=>by
  rw[Xk,GH]
  cases hq:q x with
  |true=>exact .inr ⟨0,by simp,by simp,by simp⟩
  |false=>
   rcases JeQ l (i+1) with ⟨h1,h2⟩|⟨j,h1,h2,h3⟩
   ·exact .inl ⟨by simpa using h1,h2⟩
   ·exact .inr ⟨j+1,by simpa using h1,by simp[h2];omega,by simpa using h3⟩
theorem indexFI {f:Nat}{l1 l2:List CV}{F:IFunc}(l:List Int)(q:Int->Bool)(cap:Option Nat)(hF:Je Gc f=some F)(Dc:Jm l1=true)(Dj:Jm l2=true)
  (hq:∀p∈l,Fn Gc f (l1++[.int .i64 p]++l2) (.bool (q p))) (Ad:l.length<=1000000):Fn Gc 142 [.rslc 1 (iz l) cap,.fn f l1 l2] (.int .i64 (Xk q l 0)):=by
 have Af:(iz l).length=l.length:=Jg;refine Ja c142_ok (by simp[Jm,CV.closed,Dc,Dj]) rfl λN=>?_
 simp -implicitDefEqProofs only[c142,go_sem,Af];refine JE (I:=λi:Nat=>i<=l.length/\Xk q l 0=Xk q (l.drop i) i) (inv:=λi=>gp [(0,.rslc 1 (iz l) cap),(0,.fn f l1 l2),(5,.int .i64 l.length),(0,.int .i64 i)] 10) (hp:=λ_=>[]) (μ:=λi=>l.length-i) 0 ⟨by omega,rfl⟩ ?_ rfl ?_
 ·simp[forget,gp]
 ·rintro i ⟨hi,Aa⟩;by_cases Ab:i<l.length
  ·have d1:=dtT i l.length;have Ar:=JH Ab;have Cb:l[i]? = some (l.getD i 0):=by rw[Gm,Gp Ab];rfl
   have hm:l.getD i 0∈l:=Hu Cb;rw[QX Cb]at Aa;simp -implicitDefEqProofs only[go_sem,Af,d1,Ar];refine anO ?_;refine vr_fv (.inl rfl) rfl hF (Jck pNames _) (hq _ hm) ?_
   cases hb:q (l.getD i 0) with
   |true=>
    rw[hb,if_pos rfl]at Aa;simp -implicitDefEqProofs only[go_sem,Aa]
   |false=>
    rw[hb]at Aa;simp -implicitDefEqProofs only[go_sem];refine⟨Jh,i+1,⟨by omega,by simpa using Aa⟩,by omega,?_⟩;simp[forget]
  ·have d1:=dfF i l.length;rw[Gs (by omega)]at Aa;simp -implicitDefEqProofs only[go_sem,d1,Aa,Xk]
theorem nNamed1 (t:Tr)(s:List UInt8){i:Nat}(hi:i<t.nodes.length):Fn Gc 143 [.int .i64 (i:Int),.rptr [.rptr (tRw t)],.rptr [S s]] (.bool ((nd t i).text == s)):=by
 have hg:=J3 hi;refine Ja c143_ok rfl rfl λN=>?_
 simp -implicitDefEqProofs only[c143,go_sem];refine JW Jp (by decide) ?_;simp -implicitDefEqProofs only[go_sem,tRw,Jb,hg,Nd.cv];omega
theorem nNamed (t:Tr)(s:List UInt8)(l:List Int)(hl:∀d∈l,0<=d/\d<t.nodes.length)(Ad:l.length<=1000000):Fn Gc 113 [.rptr (tRw t),.rslc 1 (iz l) none,S s] (.int .i64 (JaD t l s)):=by
 have Af:(iz l).length=l.length:=Jg;unfold JaD;generalize hq:(λd:Int=>(nd t d.toNat).text == s)=q;refine Ja c113_ok rfl rfl λN=>?_
 simp -implicitDefEqProofs only[c113,go_sem];refine Jd (id:=0) (z:=1) (els:=[[.rptr (tRw t)]]) rfl rfl ?_;simp only[go_sem,JY,Ky,frz,Qc,Gf];refine Jd (id:=1) (z:=1) (els:=[[S s]]) rfl rfl ?_;simp only[go_sem,JY,Ky,frz,Qc,Gf];refine JV (indexFI l q none c143_ok rfl rfl (λp hp=>?_) Ad) ?_
 ·have hb:=hl p hp;obtain⟨p,rfl⟩:∃p':Nat,p=p':=⟨p.toNat,by omega⟩;have h:=nNamed1 t s (i:=p) (by omega);rw[<-hq];simpa only[GA,G7,Gl]using h
 ·rcases JeQ (q:=q) l 0 with ⟨h1,h2⟩|⟨j,h1,h2,h3⟩
  ·have e1:((-1:Int)<0)=True:=Kl;simp -implicitDefEqProofs only[go_sem,h1,h2,e1]
  ·rw[GN]at h2;have e1:((j:Int)<0)=False:=Ki;have BD:=JH h1;simp -implicitDefEqProofs only[go_sem,h2,h3,e1,Af,BD];omega
section
variable {t:Tr}{o:List Int}(g:GoodT t o)(ht:t.Fit)
include g ht
theorem nMeaning {i:Nat}(hi:i<t.nodes.length):Fn Gc 87 [.rptr (tRw t),.int .i64 (i:Int)] (.tup [.int .i64 (JN t o i),.bool (Kr t i)]):=by
 have hg:=J3 hi;have Aj:=g.many;have ZO:=ht.items;refine Ja c87_ok rfl rfl λN=>?_
 unfold JN Kr;by_cases h3:(nd t i).k=3
 ·have hm:=JbW g hi (by omega);have hs:∀d∈QK t i,0<=d/\d<t.nodes.length:=λd hd=>KE.1 (GX.1 hd).1
  have DU:(QK t i).length<=1000000:=by
   have:=Gz (λd=>(X9 t t.nodes.length i).contains d) (K6 t);unfold QK;have h2:(K6 t).length=t.nodes.length:=by simp[K6]
   omega
  have hN:=nNamed t (nd t i).text (QK t i) hs DU;rw[hm]at hN;simp -implicitDefEqProofs only[c87,go_sem,tRw,Jb,hg,Nd.cv,kbE,h3];refine anO ?_;refine Jd (id:=0) (z:=5) (els:=[(nd t i).cv]) (by simp only[Nd.cv,h3];rfl) rfl ?_;simp only[go_sem,JY,Ky,frz,Qc,Gf];refine JW Jp (by decide) ?_;simp -implicitDefEqProofs only[go_sem,Nd.cv];refine Kb (.inl rfl) (nSight g ht hi) ?_;simp -implicitDefEqProofs only[go_sem];refine Kb (.inl rfl) hN ?_;simp -implicitDefEqProofs only[go_sem]
 have b3:((nd t i).k == 3)=false:=beq_eq_false_iff_ne.2 h3;rw[if_neg h3,b3,Gr];by_cases Cz:(nd t i).k=26
 ·have hN:=nNamed t (nd t i).text t.items (λd hd=>by have:=g.itr hd;omega) (by omega);rw[call_means g]at hN;simp -implicitDefEqProofs only[c87,go_sem,tRw,Jb,hg,Nd.cv,kbE,Cz];refine anO ?_;refine Jd (id:=0) (z:=5) (els:=[(nd t i).cv]) (by simp only[Nd.cv,Cz];rfl) rfl ?_;simp only[go_sem,JY,Ky,frz,Qc,Gf];refine JW Jp (by decide) ?_;simp -implicitDefEqProofs only[go_sem,Nd.cv];refine Kb (.inl rfl) hN ?_;simp -implicitDefEqProofs only[go_sem]
 have b26:((nd t i).k == 26)=false:=beq_eq_false_iff_ne.2 Cz;rw[if_neg Cz,b26,Gr];by_cases BO:(nd t i).k=44
 ·obtain⟨u,MP,Ex,UK,Ph⟩:=QV g hi (by omega);have hK:=Jar ht (x:=(u:Int)) (k:=43);rw[Gl]at hK;have hN:=nNamed t (nd t i).text (Xo t u 43) (λd hd=>kidsK_rng g Ex hd) (by omega);rw[next_means g Ex MP]at hN;simp -implicitDefEqProofs only[c87,go_sem,tRw,Jb,hg,Nd.cv,kbE,BO];refine anO ?_;refine Jd (id:=0) (z:=5) (els:=[(nd t i).cv]) (by simp only[Nd.cv,BO];rfl) rfl ?_;simp only[go_sem,JY,Ky,frz,Qc,Gf];refine JW Jp (by decide) ?_;simp -implicitDefEqProofs only[go_sem,Nd.cv,Qw,upz hi,MP];refine anO ?_;refine Kb (.inl rfl) (nKidsF g ht Ex 43) ?_;simp -implicitDefEqProofs only[go_sem];refine Kb (.inl rfl) hN ?_;simp -implicitDefEqProofs only[go_sem]
 have b44:((nd t i).k == 44)=false:=beq_eq_false_iff_ne.2 BO;rw[if_neg BO,b44];simp -implicitDefEqProofs only[c87,go_sem,tRw,Jb,hg,Nd.cv,kbE,b3,b26,b44];omega
def twQ (t:Tr)(i k:Nat):Bool:=(nd t k).text == (nd t i).text && (if (nd t i).k=44 then(nd t k).k == 44 && Kk t k == Kk t i else if (nd t i).k=65 then(nd t k).k == 65 else !((nd t k).k == 65) && (KI (nd t k).k && Qb t k == Qb t i))
omit g ht in
theorem nTwice1 {i k:Nat}(hi:i<t.nodes.length)(hk:k<t.nodes.length):Fn Gc 116 [.int .i64 (k:Int),.rptr [.rptr (tRw t)],.rptr (nd t i).cv,.rptr [.int .i64 (i:Int)]] (.bool (twQ t i k)):=by
 have hg:=J3 hk;refine Ja c116_ok rfl rfl λN=>?_
 unfold twQ
 cases ht:(nd t k).text == (nd t i).text with
 |false=>
  simp -implicitDefEqProofs only[c116,go_sem,tRw,Jb,hg,Nd.cv,ht,Gi,Gn];omega
 |true=>
  rw[Gj];by_cases BO:(nd t i).k=44
  ·rw[if_pos BO];simp -implicitDefEqProofs only[c116,go_sem,tRw,Jb,hg,Nd.cv,ht,kbE,BO,Gh];refine anO ?_;refine Jd (id:=0) (z:=5) (els:=[(nd t k).cv]) rfl rfl ?_;simp only[go_sem,JY,Ky,frz,Qc,Gf,Nd.cv];refine JW Jp (by decide) ?_
   cases BL:(nd t k).k == 44 with
   |false=>
    simp -implicitDefEqProofs only[go_sem,kbE,BL,Gn]
   |true=>
    simp -implicitDefEqProofs only[go_sem,kbE,BL,Qw,upz hi,upz hk,Gj];omega
  have b44:((nd t i).k == 44)=false:=beq_eq_false_iff_ne.2 BO;rw[if_neg BO];by_cases BG:(nd t i).k=65
  ·rw[if_pos BG];simp -implicitDefEqProofs only[c116,go_sem,tRw,Jb,hg,Nd.cv,ht,kbE,BG,Gh];omega
  have b65:((nd t i).k == 65)=false:=beq_eq_false_iff_ne.2 BG;rw[if_neg BG];simp -implicitDefEqProofs only[c116,go_sem,tRw,Jb,hg,Nd.cv,ht,kbE,b44,b65,Gh];refine anO ?_;refine Jd (id:=0) (z:=5) (els:=[(nd t k).cv]) rfl rfl ?_;simp only[go_sem,JY,Ky,frz,Qc,Gf,Nd.cv];refine JW Jp (by decide) ?_
  cases BL:(nd t k).k == 65 with
  |true=>
   simp -implicitDefEqProofs only[go_sem,kbN,BL,Gh,Gn]
  |false=>
   simp -implicitDefEqProofs only[go_sem,kbN,BL,Gi,Gj];refine Kb (gok rfl) (nIsDecl t hk) ?_
   cases hd:KI (nd t k).k with
   |false=>
    simp -implicitDefEqProofs only[go_sem,Gn]
   |true=>
    have en:=Jdy (Qb t i) (Qb t k);simp -implicitDefEqProofs only[go_sem,itz_len,itz hi,itz hk,en,Gj];omega
end
end
section
theorem Qr {n i:Nat}(h:i<n):(Ga n).drop i=i::(Ga n).drop (i+1):=by
 rw[GM (by simpa using h),List.getElem_range]
theorem any_skip {q:Nat->Bool}{n:Nat}:∀(m:Nat),m<=n->(∀i,i<m->q i=false)->(Ga n).any q=((Ga n).drop m).any q
 |0,_,_=>by rw[Gf]
 |m+1,h,hq=>by rw[any_skip m (by omega) λi hi=>hq i (by omega),Qr (by omega),Gx,hq m (by omega),Gr]
theorem JaU (k:Nat):Fn Gc 51 [.int .u8 (k:Int)] (.bool (KI k)):=by
 refine Ja c51_ok rfl rfl λN=>?_
 cases h1:(k == 65) <;> cases h2:(k == 64) <;> cases h3:(k == 42) <;> cases h4:(k == 43) <;> cases h5:(k == 47) <;>
  simp -implicitDefEqProofs only[c51,go_sem,kbE,h1,h2,h3,h4,h5,KI,GL,Hr]
theorem JgP (k:Nat):Fn Gc 27 [.int .u8 (k:Int)] (.bool (k == 3 || k == 26 || k == 44)):=by
 refine Ja c27_ok rfl rfl λN=>?_
 cases h1:(k == 3) <;> cases h2:(k == 26) <;> cases h3:(k == 44) <;>
  simp -implicitDefEqProofs only[c27,go_sem,kbE,h1,h2,h3,GL,Hr]
theorem any_cg {q r:Nat->Bool}:∀{l:List Nat},(∀x∈l,q x=r x)->l.any q=l.any r
 |[],_=>rfl
 |x::l,h=>by rw[Gx,Gx,h x (by simp),any_cg λy hy=>h y (by simp[hy])]
section
variable {t:Tr}{o:List Int}(g:GoodT t o)(ht:t.Fit)
include g ht
theorem Y2 {j i:Nat}(hi:i<t.nodes.length):Fn Gc 69 [t.cv,.int .i64 (j:Int),.int .i64 (i:Int)] (.bool (Jbx o j i)):=by
 have h:=refIsBelow t ht g (j:Int) i hi
 rwa [show (decide ((j:Int)<=(i:Int)) && decide (fs o i<=(j:Int)))=Jbx o j i by unfold Jbx;rw[decide_eq_decide.2 (Int.ofNat_le (m:=j) (n:=i))]]at h
theorem JbI {n:Nat}(hn:n<t.nodes.length):Fn Gc 53 [t.cv,.int .i64 (n:Int)] (.int .i64 (Kk t n)):=refParent t ht g n hn
theorem JcW {u:Nat}(hu:u<t.nodes.length)(Ad:0<(nd t u).kids.length):Fn Gc 70 [t.cv,.int .i64 (u:Int)] (.int .i64 (Ji t u:Int)):=by
 have hg:=J3 hu;have Aw:(iz (nd t u).kids).length=(nd t u).kids.length:=Jg;have A7:=lastz g hu Ad;have BK:=(JeS ht hu).kidn;refine Ja c70_ok rfl rfl λN=>?_
 simp -implicitDefEqProofs only[c70,go_sem,Tr.cv,Tr.row];refine Jd (id:=0) (z:=2) (els:=[t.row]) rfl rfl ?_;simp only[go_sem,JY,Ky,frz,Qc];refine JW Jp (by decide) ?_;simp -implicitDefEqProofs only[go_sem,Tr.row,Jb,hg,Nd.cv,Aw,A7];exact⟨by omega,by omega,Jh,by omega,by omega⟩
theorem refItemOf {i:Nat}(hi:i<t.nodes.length):Fn Gc 54 [t.cv,.int .i64 (i:Int)] (.int .i64 (Ye t o i)):=by
 have Af:(iz t.items).length=t.items.length:=Jg;have M5:=ht.items;unfold Ye;generalize hq:(λL:Int=>Jbx o i L.toNat)=q;refine Ja c54_ok rfl rfl λN=>?_
 simp -implicitDefEqProofs only[c54,go_sem,Tr.cv,Tr.row];refine Jd (id:=0) (z:=2) (els:=[t.row]) rfl rfl ?_;simp only[go_sem,JY,Ky,frz,Qc];refine JE (I:=λk:Nat=>k<=t.items.length/\t.items.find? q=(t.items.drop k).find? q) (inv:=λk=>gp [(1,.int .i64 (i:Int)),(0,.rptr t.row),(2,.int .i64 (k:Int))] 20) (hp:=λ_=>[.dead]) (μ:=λk=>t.items.length-k) 0 ⟨by omega,rfl⟩ ?_ rfl ?_
 ·simp[forget,gp]
 ·rintro k ⟨hk,Aa⟩;by_cases Ab:k<t.items.length
  ·have d1:=dtT k t.items.length;have CE:=JH Ab;have AC:t.items.getD k 0∈t.items:=by rw[Gm,Gp Ab];exact Gw Ab
   have hr:=g.itr AC;rw[GM Ab,GH,show t.items[k]=t.items.getD k 0 by rw[Gm,Gp Ab];rfl]at Aa;generalize t.items.getD k 0=L at CE hr Aa;obtain⟨L,rfl⟩:∃L':Nat,L=L':=⟨L.toNat,by omega⟩;have bB:q (L:Int)=Jbx o i L:=by rw[<-hq];simp only[Gl]
   simp -implicitDefEqProofs only[go_sem,Tr.row,Af,d1];refine JW Jp (by decide) ?_;simp -implicitDefEqProofs only[go_sem,Af,CE];refine anO ?_;refine Kb (.inl rfl) (Y2 g ht (by omega)) ?_
   cases hb:Jbx o i L with
   |true=>
    rw[bB,hb]at Aa;simp -implicitDefEqProofs only[go_sem,Af,CE,Aa];omega
   |false=>
    rw[bB,hb]at Aa;simp -implicitDefEqProofs only[go_sem];refine⟨Jh,k+1,⟨by omega,Aa⟩,by omega,?_⟩;simp[forget]
  ·have d1:=dfF k t.items.length;rw[Gs (by omega),GI]at Aa;simp -implicitDefEqProofs only[go_sem,Tr.row,Af,d1,Aa]
def bkQ (t:Tr)(o:List Int)(j u:Nat)(last:Bool)(i:Nat):Bool:=(last || decide (i+1<(nd t u).kids.length)) && Jbx o j (JG t u i)
omit g ht in
theorem bk_drop {j u m:Nat}{last:Bool}:bkB t o j u m last=((Ga (nd t u).kids.length).drop m).any (bkQ t o j u last):=by
 unfold bkB;by_cases C8:m<=(nd t u).kids.length
 ·rw[any_skip m C8 λi hi=>by rw[decide_eq_false (by omega)];rfl];refine any_cg λi hi=>?_
  rw[List.range_eq_range',List.drop_range',List.mem_range'_1]at hi;rw[decide_eq_true (by omega),Gj];rfl
 ·rw[Gs (by simp;omega),GD,List.any_eq_false];intro i hi;rw[decide_eq_false (by have:=List.mem_range.1 hi;omega)];simp
theorem Jdo {j u m:Nat}(hu:u<t.nodes.length)(hm:m<=100)(last:Bool):Fn Gc 71 [t.cv,.int .i64 (j:Int),.int .i64 (u:Int),.int .i64 (m:Int),.bool last] (.bool (bkB t o j u m last)):=by
 have hg:=J3 hu;have Aw:(iz (nd t u).kids).length=(nd t u).kids.length:=Jg;have BK:=(JeS ht hu).kidn;rw[bk_drop];generalize hq:bkQ t o j u last=q;refine Ja c71_ok rfl rfl λN=>?_
 simp -implicitDefEqProofs only[c71,go_sem,Tr.cv,Tr.row,Jb,hg,Nd.cv];refine anO ?_;refine Jd (id:=0) (z:=2) (els:=[t.row]) rfl rfl ?_;simp -implicitDefEqProofs only[go_sem,JY,Ky,frz,Qc,Tr.row];refine JE (I:=λi:Nat=>((Ga (nd t u).kids.length).drop m).any q=((Ga (nd t u).kids.length).drop i).any q) (inv:=λi=>gp [(1,.int .i64 (j:Int)),(2,.bool last),(0,.rptr t.row),(5,.rslc 1 (iz (nd t u).kids) none),(0,.int .i64 (i:Int))] 30) (hp:=λ_=>[.dead]) (μ:=λi=>(nd t u).kids.length-i) m rfl ?_ rfl ?_
 ·simp[forget,gp,Tr.row]
 ·intro i Aa;by_cases Ab:i<(nd t u).kids.length
  ·have d1:=dtT i (nd t u).kids.length;have Ar:=JH Ab;obtain⟨k1,k2,_⟩:=Jz g hu Ab;have MB:(nd t u).kids.getD i 0=(JG t u i:Int):=by
    have hm:(nd t u).kids.getD i 0∈(nd t u).kids:=by rw[Gm,Gp Ab];exact Gw Ab
    have:=(g.kid hu hm).1;unfold JG;omega
   rw[MB]at Ar;have hB:=Y2 g ht (j:=j) (i:=JG t u i) (by omega);have CZ:q i=((last || decide (i+1<(nd t u).kids.length)) && Jbx o j (JG t u i)):=by rw[<-hq];rfl
   rw[Qr Ab,Gx,CZ]at Aa;simp -implicitDefEqProofs only[go_sem,Aw,d1];refine JW Jp (by decide) ?_
   cases last with
   |true=>
    rw[Gy,Gj]at Aa;simp -implicitDefEqProofs only[go_sem,Tr.row,Gg,Gt,Aw,Ar];refine anO ?_;refine Kb (gok rfl) hB ?_
    cases hb:Jbx o j (JG t u i) with
    |true=>
     rw[hb,Gy]at Aa;simp -implicitDefEqProofs only[go_sem,Aa]
    |false=>
     rw[hb,Gr]at Aa;simp -implicitDefEqProofs only[go_sem];refine⟨Jh,i+1,Aa,by omega,?_⟩;simp[forget]
   |false=>
    rw[Gr]at Aa;by_cases hl:i+1<(nd t u).kids.length
    ·have e1:decide ((i:Int)<((nd t u).kids.length:Int)-1)=true:=decide_eq_true (by omega);rw[decide_eq_true hl,Gj]at Aa;simp -implicitDefEqProofs only[go_sem,Tr.row,Gg,Gt,Aw,Ar,e1];refine⟨Jh,by omega,?_⟩;refine Kb (gok rfl) hB ?_
     cases hb:Jbx o j (JG t u i) with
     |true=>
      rw[hb,Gy]at Aa;simp -implicitDefEqProofs only[go_sem,Aa]
     |false=>
      rw[hb,Gr]at Aa;simp -implicitDefEqProofs only[go_sem];refine⟨Jh,i+1,Aa,by omega,?_⟩;simp[forget]
    ·have e1:decide ((i:Int)<((nd t u).kids.length:Int)-1)=false:=decide_eq_false (by omega);rw[decide_eq_false hl,Gn,Gr]at Aa;simp -implicitDefEqProofs only[go_sem,Aw,e1];refine⟨Jh,Jh,i+1,Aa,by omega,?_⟩;simp[forget,Tr.row]
  ·have d1:=dfF i (nd t u).kids.length;rw[show (Ga (nd t u).kids.length).drop i=[] from Gs (by simp;omega),GD]at Aa;simp -implicitDefEqProofs only[go_sem,Aw,d1,Aa]
theorem refInSight {d j:Nat}(hd:d<t.nodes.length)(hj:j<t.nodes.length):Fn Gc 52 [t.cv,.int .i64 (d:Int),.int .i64 (j:Int)] (.bool (inB t o d j)):=by
 have hg:=J3 hd;have hP:=JbI g ht hd;unfold inB;refine Ja c52_ok rfl rfl λN=>?_
 simp -implicitDefEqProofs only[c52,go_sem,Tr.cv,Tr.row];refine Jd (id:=0) (z:=2) (els:=[t.row]) rfl rfl ?_;simp -implicitDefEqProofs only[go_sem,JY,Ky,frz,Qc,Tr.row];refine JV hP ?_;simp -implicitDefEqProofs only[go_sem,Jb,hg,Nd.cv,kbE];refine anO ?_;by_cases BG:(nd t d).k=65
 ·simp -implicitDefEqProofs only[BG,go_sem,if_true]
 have b65:((nd t d).k == 65)=false:=beq_eq_false_iff_ne.2 BG;rw[if_neg BG];by_cases CO:(nd t d).k=64
 ·obtain⟨u,MP,Ex,UK,Ph⟩:=QV g hd BG;have Ad:=Ha Ph;have CK:=Jz g Ex (i:=(nd t u).kids.length-1) (by omega);simp -implicitDefEqProofs only[CO,go_sem,MP,if_true,Gl];refine JW Jp (by decide) ?_;simp -implicitDefEqProofs only[go_sem];refine Kb (.inl rfl) (JcW g ht Ex Ad) ?_;simp -implicitDefEqProofs only[go_sem];refine Kb (.inl rfl) (Y2 g ht (show Ji t u<t.nodes.length by have:=CK.2.1;unfold JG at this;unfold Ji;omega)) ?_;simp -implicitDefEqProofs only[go_sem]
 have b64:((nd t d).k == 64)=false:=beq_eq_false_iff_ne.2 CO;rw[if_neg CO];by_cases Cy:(nd t d).k=43
 ·obtain⟨u,MP,Ex,UK,Ph⟩:=QV g hd BG;have Ic:(nd t u).k=28:=(Yu (JcY g Ex Ph)).2.1 (by rw[Cy];rfl);obtain⟨a,b,ha,Sd,Bt,_⟩:=XZ g Ex Ic;have AX:(nd t u).n=(a:Int):=ha;have BK:=(JeS ht Ex).kidn;have aD:b<(nd t u).kids.length:=Bt;have OT:=J3 Ex;simp -implicitDefEqProofs only[Cy,go_sem,MP,if_true,Gl,AX];refine JW Jp (by decide) ?_;simp -implicitDefEqProofs only[go_sem,Jb,OT,Nd.cv,AX];refine anO ?_;refine Kb (.inl rfl) (Jdo g ht Ex (by omega) true) ?_;simp -implicitDefEqProofs only[go_sem]
 have b43:((nd t d).k == 43)=false:=beq_eq_false_iff_ne.2 Cy;rw[if_neg Cy];by_cases BV:(nd t d).k=47
 ·have Ad:(nd t d).kids.length=3:=(Jcb g hd BV).1;have CK:=Jz g hd (i:=(nd t d).kids.length-1) (by omega);simp -implicitDefEqProofs only[BV,go_sem,if_true];refine JW Jp (by decide) ?_;simp -implicitDefEqProofs only[go_sem];refine Kb (.inl rfl) (JcW g ht hd (by omega)) ?_;simp -implicitDefEqProofs only[go_sem];refine Kb (.inl rfl) (Y2 g ht (show Ji t d<t.nodes.length by have:=CK.2.1;unfold JG at this;unfold Ji;omega)) ?_;simp -implicitDefEqProofs only[go_sem]
 have b47:((nd t d).k == 47)=false:=beq_eq_false_iff_ne.2 BV;rw[if_neg BV];by_cases Ck:(nd t d).k=42
 ·obtain⟨u,MP,Ex,UK,Ph⟩:=QV g hd BG;have Ic:(nd t u).k=41:=(Yu (JcY g Ex Ph)).2.2.1 (by rw[Ck];rfl);obtain⟨v,MO,Ew,ji,dX⟩:=QV g Ex (by omega);have Cj:(nd t v).k=40\/(nd t v).k=28:=(Yu (JcY g Ew dX)).2.2.2.1 (by rw[Ic];rfl);have bP:=J3 Ew;have cZ:=JbI g ht Ex;rw[MO]at cZ;simp -implicitDefEqProofs only[Ck,go_sem,MP,MO,if_true,Gl];refine JV cZ ?_;simp -implicitDefEqProofs only[go_sem,Jb,bP,Nd.cv,kbE];refine anO ?_;by_cases Ec:(nd t v).k=40
  ·simp -implicitDefEqProofs only[Ec,go_sem,if_true];refine JV (Y2 g ht Ew) ?_;simp -implicitDefEqProofs only[go_sem]
  ·have b40:((nd t v).k == 40)=false:=beq_eq_false_iff_ne.2 Ec;obtain⟨a,b,ha,Sd,Bt,_⟩:=XZ g Ew (Cj.resolve_left Ec);have AX:(nd t v).n=(a:Int):=ha;have BK:=(JeS ht Ew).kidn;have aD:b<(nd t v).kids.length:=Bt;simp -implicitDefEqProofs only[b40,go_sem,if_neg Ec];refine JW Jp (by decide) ?_;simp -implicitDefEqProofs only[go_sem,Jb,bP,Nd.cv,AX];refine⟨by omega,Jh,?_⟩;have dJ:=Jdo g ht (j:=j) Ew (show a+1<=100 by omega) false;rw[Int.natCast_add,show ((1:Nat):Int)=1 from rfl]at dJ;refine Kb (.inl rfl) dJ ?_;simp -implicitDefEqProofs only[go_sem]
 have b42:((nd t d).k == 42)=false:=beq_eq_false_iff_ne.2 Ck;rw[if_neg Ck];simp -implicitDefEqProofs only[b65,b64,b43,b47,b42,go_sem]
end
end
theorem twN_eq {t:Tr}{i:Nat}:twN t i=if (nd t i).k≠44/\KI (nd t i).k=false then false else(Ga i).any (twQ t i):=rfl
theorem nTwice {t:Tr}{i:Nat}(Aj:t.nodes.length<=100000)(hi:i<t.nodes.length):Fn Gc 88 [.rptr (tRw t),.int .i64 (i:Int)] (.bool (twN t i)):=by
 have hg:=J3 hi;refine Ja c88_ok rfl rfl λN=>?_
 rw[twN_eq];simp only[c88,go_sem];refine Jd (id:=0) (z:=1) (els:=[[.rptr (tRw t)]]) rfl rfl ?_;simp only[go_sem,JY,Ky,frz,Qc,Gf];refine Jd (id:=1) (z:=1) (els:=[[.int .i64 (i:Int)]]) rfl rfl ?_;simp only[go_sem,JY,Ky,frz,Qc,Gf];refine Jad [false,false,false,false,false,false,false,false,true,true] Jp (by decide +kernel) ?_;simp only[go_sem];refine vh_all (.rptr (tRw t)) (λ_=>rfl) trivial ?_;by_cases BO:(nd t i).k=44
 ·rw[if_neg (λh=>h.1 BO)];simp only[go_sem,tRw,Jb,hg,Nd.cv,kbN,BO];refine anO ?_;refine Jd (id:=2) (z:=5) (els:=[(nd t i).cv]) (by simp only[Nd.cv,BO];rfl) rfl ?_;simp only[go_sem,JY,Ky,frz,Qc,Gf];refine JE (I:=λk:Nat=>k<=i/\(Ga i).any (twQ t i)=((Ga i).drop k).any (twQ t i)) (inv:=λk=>gp [(6,.fn 116 [] [.rptr [.rptr (tRw t)],.rptr (nd t i).cv,.rptr [.int .i64 (i:Int)]]),(19,.int .i64 (i:Int)),(0,.int .i64 (k:Int))] 6) (hp:=λ_=>[.dead,.dead,.dead]) (μ:=λk=>i-k) 0 ⟨by omega,rfl⟩ ?_ rfl ?_
  ·simp[forget,gp,tRw]
  ·rintro k ⟨hk,Aa⟩;by_cases Ab:k<i
   ·have d1:=dtT k i;rw[Qr Ab,Gx]at Aa;simp only[go_sem,d1];refine vr_fv (.inl rfl) rfl c116_ok (Jck pNames _) (nTwice1 hi (by omega)) ?_
    cases hb:twQ t i k with
    |true=>
     rw[hb,Gy]at Aa;simp only[go_sem,Aa]
    |false=>
     rw[hb,Gr]at Aa;simp only[go_sem];refine⟨Jh,k+1,⟨by omega,Aa⟩,by omega,?_⟩;simp[forget]
   ·have d1:=dfF k i;rw[show (Ga i).drop k=[] from Gs (by simp;omega),GD]at Aa;simp only[go_sem,d1,Aa]
 ·have b44:((nd t i).k == 44)=false:=beq_eq_false_iff_ne.2 BO;simp only[go_sem,tRw,Jb,hg,Nd.cv,kbN,b44,Gi];refine anO ?_;refine Jd (id:=2) (z:=5) (els:=[(nd t i).cv]) rfl rfl ?_;simp only[go_sem,JY,Ky,frz,Qc,Gf];refine Kh (gok rfl) (nIsDecl t hi) ?_
  cases hd:KI (nd t i).k with
  |false=>
   simp only[go_sem];rw[if_pos BO]
  |true=>
   rw[if_neg (show ¬((nd t i).k≠44/\true=false) from λh=>by cases h.2)];simp only[go_sem];refine JE (I:=λk:Nat=>k<=i/\(Ga i).any (twQ t i)=((Ga i).drop k).any (twQ t i)) (inv:=λk=>gp [(6,.fn 116 [] [.rptr [.rptr (tRw t)],.rptr (nd t i).cv,.rptr [.int .i64 (i:Int)]]),(19,.int .i64 (i:Int)),(0,.int .i64 (k:Int))] 6) (hp:=λ_=>[.dead,.dead,.dead]) (μ:=λk=>i-k) 0 ⟨by omega,rfl⟩ ?_ rfl ?_
   ·simp[forget,gp,tRw]
   ·rintro k ⟨hk,Aa⟩;by_cases Ab:k<i
    ·have d1:=dtT k i;rw[Qr Ab,Gx]at Aa;simp only[go_sem,d1];refine vr_fv (.inl rfl) rfl c116_ok (Jck pNames _) (nTwice1 hi (by omega)) ?_
     cases hb:twQ t i k with
     |true=>
      rw[hb,Gy]at Aa;simp only[go_sem,Aa]
     |false=>
      rw[hb,Gr]at Aa;simp only[go_sem];refine⟨Jh,k+1,⟨by omega,Aa⟩,by omega,?_⟩;simp[forget]
    ·have d1:=dfF k i;rw[show (Ga i).drop k=[] from Gs (by simp;omega),GD]at Aa;simp only[go_sem,d1,Aa]
section
theorem Jfe {t:Tr}{j:Nat}(h:j<t.nodes.length):(K6 t).drop j=(j:Int)::(K6 t).drop (j+1):=by
 have hl:(K6 t).length=t.nodes.length:=by simp[K6]
 rw[GM (by omega)];simp[K6]
theorem JhA {t:Tr}{j:Nat}(h:t.nodes.length<=j):(K6 t).drop j=[]:=Gs (by simp[K6];omega)
section
variable {t:Tr}{o:List Int}(g:GoodT t o)(ht:t.Fit)
include g ht
theorem refMeans3 {i:Nat}(hi:i<t.nodes.length)(hk:(nd t i).k=3):Fn Gc 28 [t.cv,.int .i64 (i:Int)] (.int .i64 (JfO t o i)):=by
 have Aj:=g.many;have hg:=J3 hi;unfold JfO;refine Ja c28_ok rfl rfl λN=>?_
 simp -implicitDefEqProofs only[c28,go_sem,Tr.cv,Tr.row,Jb,hg,Nd.cv];refine anO ?_;refine Jd (id:=0) (z:=2) (els:=[t.row]) rfl rfl ?_;simp only[go_sem,JY,Ky,frz,Qc];refine Jd (id:=1) (z:=5) (els:=[(nd t i).cv]) rfl rfl ?_;simp only[go_sem,JY,Ky,frz,Qc,Gf];generalize hq:(λd:Int=>(nd t d.toNat).text == (nd t i).text && (KI (nd t d.toNat).k && (!((nd t d.toNat).k == 65) && inB t o d.toNat i)))=q;refine Jv (I:=λj:Nat=>j<=t.nodes.length/\(K6 t).find? q=((K6 t).drop j).find? q) (inv:=λj=>gp [(1,.int .i64 (i:Int)),(0,.rptr t.row),(2,.rptr (nd t i).cv),(0,.int .i64 (j:Int))] 64) (hp:=λ_=>[.dead,.dead]) (μ:=λj=>t.nodes.length-j) 0 [0,1] ⟨by omega,by rw[Gf]⟩ rfl ?_ rfl ?_
 ·simp[forget,JB,ren,gp,Tr.row]
 ·rintro j ⟨hj,Aa⟩;by_cases Ab:j<t.nodes.length
  ·have d1:=dtT j t.nodes.length;have BD:=J3 Ab;have BS:q (j:Int)=((nd t j).text == (nd t i).text && (KI (nd t j).k && (!((nd t j).k == 65) && inB t o j i))):=by rw[<-hq];simp only[Gl]
   rw[Jfe Ab,GH]at Aa
   cases Ct:((nd t j).text == (nd t i).text) with
   |false=>
    rw[BS,Ct,Gn]at Aa;simp -implicitDefEqProofs only[go_sem,Tr.row,Jb,d1,BD,Nd.cv,Ct,Gi];refine⟨by omega,Jh,j+1,[0,1],⟨by omega,by rw[Aa]⟩,by omega,rfl,rfl,?_⟩;simp[forget,JB,ren,Jn]
   |true=>
    rw[BS,Ct,Gj]at Aa;simp -implicitDefEqProofs only[go_sem,Tr.row,Jb,d1,BD,Nd.cv,Ct,Gh];refine anO ?_;refine Kh (gok rfl) (JaU _) ?_
    cases hd:KI (nd t j).k with
    |false=>
     rw[hd,Gn]at Aa;simp -implicitDefEqProofs only[go_sem,Gi];refine⟨Jh,j+1,[0,1],⟨by omega,by rw[Aa]⟩,by omega,rfl,rfl,?_⟩;simp[forget,JB,ren,Jn]
    |true=>
     rw[hd,Gj]at Aa
     cases BG:((nd t j).k == 65) with
     |true=>
      rw[BG,Gh,Gn]at Aa;simp -implicitDefEqProofs only[go_sem,kbE,kbN,hk,BG,Gh];refine⟨Jh,j+1,[0,1],⟨by omega,by rw[Aa]⟩,by omega,rfl,rfl,?_⟩;simp[forget,JB,ren,Jn]
     |false=>
      rw[BG,Gi,Gj]at Aa;simp -implicitDefEqProofs only[go_sem,kbE,kbN,hk,BG,Gi,Gh];refine Kh (gok rfl) (refInSight g ht Ab hi) ?_
      cases AQ:inB t o j i with
      |true=>
       rw[AQ]at Aa;simp -implicitDefEqProofs only[go_sem,Aa]
      |false=>
       rw[AQ]at Aa;simp -implicitDefEqProofs only[go_sem];refine⟨Jh,j+1,[0,1],⟨by omega,by rw[Aa]⟩,by omega,rfl,rfl,?_⟩;simp[forget,JB,ren,Jn]
  ·have d1:=dfF j t.nodes.length;rw[JhA (by omega),GI]at Aa;simp -implicitDefEqProofs only[go_sem,Tr.row,Jb,d1,Aa]
omit ht in
theorem refMeans26 {i:Nat}(hi:i<t.nodes.length)(hk:(nd t i).k=26):Fn Gc 28 [t.cv,.int .i64 (i:Int)] (.int .i64 (JbJ t i)):=by
 have Aj:=g.many;have hg:=J3 hi;unfold JbJ;refine Ja c28_ok rfl rfl λN=>?_
 simp -implicitDefEqProofs only[c28,go_sem,Tr.cv,Tr.row,Jb,hg,Nd.cv];refine anO ?_;refine Jd (id:=0) (z:=2) (els:=[t.row]) rfl rfl ?_;simp only[go_sem,JY,Ky,frz,Qc];refine Jd (id:=1) (z:=5) (els:=[(nd t i).cv]) rfl rfl ?_;simp only[go_sem,JY,Ky,frz,Qc,Gf];generalize hq:(λd:Int=>(nd t d.toNat).text == (nd t i).text && (KI (nd t d.toNat).k && (nd t d.toNat).k == 65))=q;refine Jv (I:=λj:Nat=>j<=t.nodes.length/\(K6 t).find? q=((K6 t).drop j).find? q) (inv:=λj=>gp [(1,.int .i64 (i:Int)),(0,.rptr t.row),(2,.rptr (nd t i).cv),(0,.int .i64 (j:Int))] 64) (hp:=λ_=>[.dead,.dead]) (μ:=λj=>t.nodes.length-j) 0 [0,1] ⟨by omega,by rw[Gf]⟩ rfl ?_ rfl ?_
 ·simp[forget,JB,ren,gp,Tr.row]
 ·rintro j ⟨hj,Aa⟩;by_cases Ab:j<t.nodes.length
  ·have d1:=dtT j t.nodes.length;have BD:=J3 Ab;have BS:q (j:Int)=((nd t j).text == (nd t i).text && (KI (nd t j).k && (nd t j).k == 65)):=by rw[<-hq];simp only[Gl]
   rw[Jfe Ab,GH]at Aa
   cases Ct:((nd t j).text == (nd t i).text) with
   |false=>
    rw[BS,Ct,Gn]at Aa;simp -implicitDefEqProofs only[go_sem,Tr.row,Jb,d1,BD,Nd.cv,Ct,Gi];refine⟨by omega,Jh,j+1,[0,1],⟨by omega,by rw[Aa]⟩,by omega,rfl,rfl,?_⟩;simp[forget,JB,ren,Jn]
   |true=>
    rw[BS,Ct,Gj]at Aa;simp -implicitDefEqProofs only[go_sem,Tr.row,Jb,d1,BD,Nd.cv,Ct,Gh];refine anO ?_;refine Kh (gok rfl) (JaU _) ?_
    cases hd:KI (nd t j).k with
    |false=>
     rw[hd,Gn]at Aa;simp -implicitDefEqProofs only[go_sem,Gi];refine⟨Jh,j+1,[0,1],⟨by omega,by rw[Aa]⟩,by omega,rfl,rfl,?_⟩;simp[forget,JB,ren,Jn]
    |true=>
     rw[hd,Gj]at Aa
     cases BG:((nd t j).k == 65) with
     |true=>
      rw[BG]at Aa;simp -implicitDefEqProofs only[go_sem,kbE,hk,BG,Gh,Aa]
     |false=>
      rw[BG]at Aa;simp -implicitDefEqProofs only[go_sem,kbE,hk,BG,Gh];refine⟨Jh,j+1,[0,1],⟨by omega,by rw[Aa]⟩,by omega,rfl,rfl,?_⟩;simp[forget,JB,ren,Jn]
  ·have d1:=dfF j t.nodes.length;rw[JhA (by omega),GI]at Aa;simp -implicitDefEqProofs only[go_sem,Tr.row,Jb,d1,Aa]
theorem refMeans44 {i:Nat}(hi:i<t.nodes.length)(hk:(nd t i).k=44):Fn Gc 28 [t.cv,.int .i64 (i:Int)] (.int .i64 (Jcm t i)):=by
 have Aj:=g.many;have hg:=J3 hi;unfold Jcm;refine Ja c28_ok rfl rfl λN=>?_
 simp -implicitDefEqProofs only[c28,go_sem,Tr.cv,Tr.row,Jb,hg,Nd.cv];refine anO ?_;refine Jd (id:=0) (z:=2) (els:=[t.row]) rfl rfl ?_;simp only[go_sem,JY,Ky,frz,Qc];refine Jd (id:=1) (z:=5) (els:=[(nd t i).cv]) rfl rfl ?_;simp only[go_sem,JY,Ky,frz,Qc,Gf];generalize hq:(λd:Int=>(nd t d.toNat).text == (nd t i).text && (KI (nd t d.toNat).k && ((nd t d.toNat).k == 43 && Kk t d.toNat == Kk t i)))=q;refine Jv (I:=λj:Nat=>j<=t.nodes.length/\(K6 t).find? q=((K6 t).drop j).find? q) (inv:=λj=>gp [(1,.int .i64 (i:Int)),(0,.rptr t.row),(2,.rptr (nd t i).cv),(0,.int .i64 (j:Int))] 64) (hp:=λ_=>[.dead,.dead]) (μ:=λj=>t.nodes.length-j) 0 [0,1] ⟨by omega,by rw[Gf]⟩ rfl ?_ rfl ?_
 ·simp[forget,JB,ren,gp,Tr.row]
 ·rintro j ⟨hj,Aa⟩;by_cases Ab:j<t.nodes.length
  ·have d1:=dtT j t.nodes.length;have BD:=J3 Ab;have BS:q (j:Int)=((nd t j).text == (nd t i).text && (KI (nd t j).k && ((nd t j).k == 43 && Kk t j == Kk t i))):=by rw[<-hq];simp only[Gl]
   rw[Jfe Ab,GH]at Aa
   cases Ct:((nd t j).text == (nd t i).text) with
   |false=>
    rw[BS,Ct,Gn]at Aa;simp -implicitDefEqProofs only[go_sem,Tr.row,Jb,d1,BD,Nd.cv,Ct,Gi];refine⟨by omega,Jh,j+1,[0,1],⟨by omega,by rw[Aa]⟩,by omega,rfl,rfl,?_⟩;simp[forget,JB,ren,Jn]
   |true=>
    rw[BS,Ct,Gj]at Aa;simp -implicitDefEqProofs only[go_sem,Tr.row,Jb,d1,BD,Nd.cv,Ct,Gh];refine anO ?_;refine Kh (gok rfl) (JaU _) ?_
    cases hd:KI (nd t j).k with
    |false=>
     rw[hd,Gn]at Aa;simp -implicitDefEqProofs only[go_sem,Gi];refine⟨Jh,j+1,[0,1],⟨by omega,by rw[Aa]⟩,by omega,rfl,rfl,?_⟩;simp[forget,JB,ren,Jn]
    |true=>
     rw[hd,Gj]at Aa;simp -implicitDefEqProofs only[go_sem,kbE,hk,Gh];refine Jd (id:=2) (z:=5) (els:=[(nd t j).cv]) rfl rfl ?_;simp only[go_sem,JY,Ky,frz,Qc,Gf,Nd.cv];refine JW Jp (by decide) ?_
     cases Cy:((nd t j).k == 43) with
     |false=>
      rw[Cy,Gn]at Aa;simp -implicitDefEqProofs only[go_sem,kbE,Cy];refine⟨Jh,j+1,[0,1],⟨by omega,by rw[Aa]⟩,by omega,rfl,rfl,?_⟩;simp[forget,JB,ren]
     |true=>
      rw[Cy,Gj]at Aa;simp -implicitDefEqProofs only[go_sem,kbE,Cy];refine Kb (gok rfl) (JbI g ht Ab) ?_;simp -implicitDefEqProofs only[go_sem];refine Kb (gok rfl) (JbI g ht hi) ?_
      cases Dg:(Kk t j == Kk t i) with
      |true=>
       rw[Dg]at Aa;simp -implicitDefEqProofs only[go_sem,Dg,Aa]
      |false=>
       rw[Dg]at Aa;simp -implicitDefEqProofs only[go_sem,Dg];refine⟨Jh,j+1,[0,1],⟨by omega,by rw[Aa]⟩,by omega,rfl,rfl,?_⟩;simp[forget,JB,ren]
  ·have d1:=dfF j t.nodes.length;rw[JhA (by omega),GI]at Aa;simp -implicitDefEqProofs only[go_sem,Tr.row,Jb,d1,Aa]
theorem refMeans {i:Nat}(hi:i<t.nodes.length)(hs:Kr t i=true):Fn Gc 28 [t.cv,.int .i64 (i:Int)] (.int .i64 (JN t o i)):=by
 unfold JN;unfold Kr at hs;simp only[Bool.or_eq_true,beq_iff_eq]at hs;by_cases h3:(nd t i).k=3
 ·rw[if_pos h3];exact refMeans3 g ht hi h3
 ·rw[if_neg h3];by_cases Cz:(nd t i).k=26
  ·rw[if_pos Cz];exact refMeans26 g hi Cz
  ·rw[if_neg Cz,iP7];exact refMeans44 g ht hi (by omega)
def twRq (t:Tr)(o:List Int)(i k:Nat):Bool:=(nd t k).text == (nd t i).text && (if (nd t i).k=65 then(nd t k).k == 65 else if (nd t i).k=44 then(nd t k).k == 44 && Kk t k == Kk t i else KI (nd t k).k && (!((nd t k).k == 65) && Ye t o k == Ye t o i))
omit g ht in
theorem twR_eq {i:Nat}:twR t o i=if (nd t i).k≠44/\KI (nd t i).k=false then false else(Ga i).any (twRq t o i):=rfl
theorem refTwice {i:Nat}(hi:i<t.nodes.length):Fn Gc 29 [t.cv,.int .i64 (i:Int)] (.bool (twR t o i)):=by
 have Aj:=g.many;have hg:=J3 hi;rw[twR_eq];refine Ja c29_ok rfl rfl λN=>?_
 simp -implicitDefEqProofs only[c29,go_sem,Tr.cv,Tr.row,Jb,hg,Nd.cv];refine anO ?_;refine Jd (id:=0) (z:=2) (els:=[t.row]) rfl rfl ?_;simp only[go_sem,JY,Ky,frz,Qc];refine Jd (id:=1) (z:=5) (els:=[(nd t i).cv]) rfl rfl ?_;simp only[go_sem,JY,Ky,frz,Qc,Gf,Nd.cv];refine JV (JaU _) ?_;by_cases BO:(nd t i).k=44
 ·have hd:KI (nd t i).k=false:=by rw[BO];rfl
  have b44:((nd t i).k == 44)=true:=beq_iff_eq.2 BO;have b65:((nd t i).k == 65)=false:=beq_eq_false_iff_ne.2 (by omega);rw[if_neg (show ¬((nd t i).k≠44/\KI (nd t i).k=false) from λh=>h.1 BO),hd];simp -implicitDefEqProofs only[go_sem,kbN,b44,Gi,Gh];generalize hq:twRq t o i=q;refine Jv (I:=λj:Nat=>j<=i/\(Ga i).any q=((Ga i).drop j).any q) (inv:=λj=>gp [(1,.int .i64 (i:Int)),(0,.rptr t.row),(2,.rptr (nd t i).cv),(0,.int .i64 (j:Int))] 71) (hp:=λ_=>[.dead,.dead]) (μ:=λj=>i-j) 0 [0,1] ⟨by omega,by rw[Gf]⟩ rfl ?_ rfl ?_
  ·simp[forget,JB,ren,gp,Tr.row,Nd.cv]
  ·rintro j ⟨hj,Aa⟩;by_cases Ab:j<i
   ·have M3:j<t.nodes.length:=by omega
    have d1:=dtT j i;have BD:=J3 M3;have BS:q j=twRq t o i j:=by rw[hq]
    unfold twRq at BS;rw[Qr Ab,Gx]at Aa
    cases Ct:((nd t j).text == (nd t i).text) with
    |false=>
     rw[BS,Ct,Gn,Gr]at Aa;simp -implicitDefEqProofs only[go_sem,Tr.row,Jb,d1,BD,Nd.cv,Ct,Gi];refine⟨by omega,Jh,j+1,[0,1],⟨by omega,Aa⟩,by omega,rfl,rfl,?_⟩;simp[forget,JB,ren,Jn]
    |true=>
     rw[Ct,Gj]at BS;simp -implicitDefEqProofs only[go_sem,Tr.row,Jb,d1,BD,Nd.cv,Ct,Gh,kbE,b65,b44];refine anO ?_;rw[iN7,if_pos BO]at BS;refine Jd (id:=2) (z:=5) (els:=[(nd t j).cv]) rfl rfl ?_;simp only[go_sem,JY,Ky,frz,Qc,Gf,Nd.cv];refine JW Jp (by decide) ?_
     cases h:((nd t j).k == 44) with
     |false=>
      rw[BS,h,Gn,Gr]at Aa;simp -implicitDefEqProofs only[go_sem,kbE,h];refine⟨Jh,j+1,[0,1],⟨by omega,Aa⟩,by omega,rfl,rfl,?_⟩;simp[forget,JB,ren]
     |true=>
      rw[h,Gj]at BS;simp -implicitDefEqProofs only[go_sem,kbE,h];refine Kb (gok rfl) (JbI g ht M3) ?_;simp -implicitDefEqProofs only[go_sem];refine Kb (gok rfl) (JbI g ht hi) ?_
      cases Dg:(Kk t j == Kk t i) with
      |true=>
       rw[BS,Dg,Gy]at Aa;simp -implicitDefEqProofs only[go_sem,Dg,Aa]
      |false=>
       rw[BS,Dg,Gr]at Aa;simp -implicitDefEqProofs only[go_sem,Dg];refine⟨Jh,j+1,[0,1],⟨by omega,Aa⟩,by omega,rfl,rfl,?_⟩;simp[forget,JB,ren]
   ·have d1:=dfF j i;rw[show (Ga i).drop j=[] from Gs (by simp;omega),GD]at Aa;simp -implicitDefEqProofs only[go_sem,d1,Aa]
 ·have b44:((nd t i).k == 44)=false:=beq_eq_false_iff_ne.2 BO
  cases hd:KI (nd t i).k with
  |false=>
   rw[if_pos ⟨BO,rfl⟩];simp -implicitDefEqProofs only[go_sem,kbN,b44,Gi]
  |true=>
   rw[if_neg (show ¬((nd t i).k≠44/\true=false) from λh=>by cases h.2)];simp -implicitDefEqProofs only[go_sem,Gh];by_cases BG:(nd t i).k=65
   ·have b65:((nd t i).k == 65)=true:=beq_iff_eq.2 BG;generalize hq:twRq t o i=q;refine Jv (I:=λj:Nat=>j<=i/\(Ga i).any q=((Ga i).drop j).any q) (inv:=λj=>gp [(1,.int .i64 (i:Int)),(0,.rptr t.row),(2,.rptr (nd t i).cv),(0,.int .i64 (j:Int))] 71) (hp:=λ_=>[.dead,.dead]) (μ:=λj=>i-j) 0 [0,1] ⟨by omega,by rw[Gf]⟩ rfl ?_ rfl ?_
    ·simp[forget,JB,ren,gp,Tr.row,Nd.cv]
    ·rintro j ⟨hj,Aa⟩;by_cases Ab:j<i
     ·have M3:j<t.nodes.length:=by omega
      have d1:=dtT j i;have BD:=J3 M3;have BS:q j=twRq t o i j:=by rw[hq]
      unfold twRq at BS;rw[Qr Ab,Gx]at Aa
      cases Ct:((nd t j).text == (nd t i).text) with
      |false=>
       rw[BS,Ct,Gn,Gr]at Aa;simp -implicitDefEqProofs only[go_sem,Tr.row,Jb,d1,BD,Nd.cv,Ct,Gi];refine⟨by omega,Jh,j+1,[0,1],⟨by omega,Aa⟩,by omega,rfl,rfl,?_⟩;simp[forget,JB,ren,Jn]
      |true=>
       rw[Ct,Gj]at BS;simp -implicitDefEqProofs only[go_sem,Tr.row,Jb,d1,BD,Nd.cv,Ct,Gh,kbE,b65];refine anO ?_;rw[if_pos BG]at BS
       cases h:((nd t j).k == 65) with
       |true=>
        rw[BS,h,Gy]at Aa;simp -implicitDefEqProofs only[go_sem,Aa]
       |false=>
        rw[BS,h,Gr]at Aa;simp -implicitDefEqProofs only[go_sem];refine⟨Jh,j+1,[0,1],⟨by omega,Aa⟩,by omega,rfl,rfl,?_⟩;simp[forget,JB,ren,Jn]
     ·have d1:=dfF j i;rw[show (Ga i).drop j=[] from Gs (by simp;omega),GD]at Aa;simp -implicitDefEqProofs only[go_sem,d1,Aa]
   ·have b65:((nd t i).k == 65)=false:=beq_eq_false_iff_ne.2 BG;generalize hq:twRq t o i=q;refine Jv (I:=λj:Nat=>j<=i/\(Ga i).any q=((Ga i).drop j).any q) (inv:=λj=>gp [(1,.int .i64 (i:Int)),(0,.rptr t.row),(2,.rptr (nd t i).cv),(0,.int .i64 (j:Int))] 71) (hp:=λ_=>[.dead,.dead]) (μ:=λj=>i-j) 0 [0,1] ⟨by omega,by rw[Gf]⟩ rfl ?_ rfl ?_
    ·simp[forget,JB,ren,gp,Tr.row,Nd.cv]
    ·rintro j ⟨hj,Aa⟩;by_cases Ab:j<i
     ·have M3:j<t.nodes.length:=by omega
      have d1:=dtT j i;have BD:=J3 M3;have BS:q j=twRq t o i j:=by rw[hq]
      unfold twRq at BS;rw[Qr Ab,Gx]at Aa
      cases Ct:((nd t j).text == (nd t i).text) with
      |false=>
       rw[BS,Ct,Gn,Gr]at Aa;simp -implicitDefEqProofs only[go_sem,Tr.row,Jb,d1,BD,Nd.cv,Ct,Gi];refine⟨by omega,Jh,j+1,[0,1],⟨by omega,Aa⟩,by omega,rfl,rfl,?_⟩;simp[forget,JB,ren,Jn]
      |true=>
       rw[Ct,Gj]at BS;simp -implicitDefEqProofs only[go_sem,Tr.row,Jb,d1,BD,Nd.cv,Ct,Gh,kbE,b65,b44];refine anO ?_;rw[if_neg BG,if_neg BO]at BS;refine Jd (id:=2) (z:=5) (els:=[(nd t j).cv]) rfl rfl ?_;simp only[go_sem,JY,Ky,frz,Qc,Gf,Nd.cv];refine JW Jp (by decide) ?_;simp -implicitDefEqProofs only[go_sem];refine Kb (.inl rfl) (JaU _) ?_
       cases av:KI (nd t j).k with
       |false=>
        rw[BS,av,Gn,Gr]at Aa;simp -implicitDefEqProofs only[go_sem];refine⟨Jh,j+1,[0,1],⟨by omega,Aa⟩,by omega,rfl,rfl,?_⟩;simp[forget,JB,ren]
       |true=>
        rw[av,Gj]at BS
        cases h:((nd t j).k == 65) with
        |true=>
         rw[BS,h,Gh,Gn,Gr]at Aa;simp -implicitDefEqProofs only[go_sem,kbN,h,Gh];refine⟨Jh,j+1,[0,1],⟨by omega,Aa⟩,by omega,rfl,rfl,?_⟩;simp[forget,JB,ren]
        |false=>
         rw[h,Gi,Gj]at BS;simp -implicitDefEqProofs only[go_sem,kbN,h,Gi];refine Kb (gok rfl) (refItemOf g ht M3) ?_;simp -implicitDefEqProofs only[go_sem];refine Kb (gok rfl) (refItemOf g ht hi) ?_
         cases Dg:(Ye t o j == Ye t o i) with
         |true=>
          rw[BS,Dg,Gy]at Aa;simp -implicitDefEqProofs only[go_sem,Dg,Aa]
         |false=>
          rw[BS,Dg,Gr]at Aa;simp -implicitDefEqProofs only[go_sem,Dg];refine⟨Jh,j+1,[0,1],⟨by omega,Aa⟩,by omega,rfl,rfl,?_⟩;simp[forget,JB,ren]
     ·have d1:=dfF j i;rw[show (Ga i).drop j=[] from Gs (by simp;omega),GD]at Aa;simp -implicitDefEqProofs only[go_sem,d1,Aa]
end
end
section
section
variable {P:Program}{E:Env}{H:List CObj}
def RowC (z:Nat)(els:List (List CV))(v:CV)(H':List CObj):Prop:=RowR z els v H'\/∃id es,v=.slc id 0 els.length none/\H'[id]? = some (.arr z es)/\es.take els.length=els/\els≠[]
theorem fnRow_cut {f:Nat}{args:List CV}{z:Nat}{els:List (List CV)}(h:CallsC P Env.none f args [] (RowC z els))(ha:Jm args=true)(hc:Jq els=true):JdC P f args z els:=
 JeL (h.trunc (id:=0) (z:=0) (j:=0) (els:=[]) (v:=.un) λv H' hv=>by
  rcases hv with hv|⟨id,es,rfl,h2,h3,h4⟩
  ·exact .inl hv
  ·exact .inr ⟨id,z,es,els.length,h2,.row (id:=id) (YP h4).symm (by rw[Yp h4,h3,List.getElem?_set_self (List.getElem?_eq_some_iff.1 h2).1])⟩) ha hc
end
structure OfOk (t:Tr)(of:List Int):Prop where
 len:of.length=t.nodes.length
 rng:∀i,i<of.length->-1<=of.getD i 0/\of.getD i 0<t.nodes.length
theorem OfOk.dft {t:Tr}{of:List Int}(h:OfOk t of){i:Nat}(hi:i<of.length):of.getD i (-1)=of.getD i 0:=by
 simp[Gm,Gp hi]
def rRw (t:Tr)(of:List Int):List CV:=[.rptr (tRw t),.rslc 1 (iz of) none]
section
variable {t:Tr}{o:List Int}(g:GoodT t o)(ht:t.Fit)
include g ht
theorem nNeeds {of:List Int}(ho:OfOk t of){s:Nat}(hs:s<t.nodes.length)(hk:(nd t s).k=41):JdC Gc 119 [.agg (rRw t of),.int .i64 (s:Int)] 1 (iz (XD t o of s)):=by
 have Aj:=g.many;have Bb:(iz of).length=t.nodes.length:=by rw[Jg,ho.len]
 rw[<-need_done g];refine fnRow_cut (Kc c119_ok λN=>?_) rfl (Jf _);simp -implicitDefEqProofs only[c119,go_sem,rRw,Bb];refine Jd (id:=0) (z:=2) (els:=[rRw t of]) rfl rfl ?_;simp only[go_sem,JY,Ky,frz,Qc,Gf];refine Yn ?_;simp only[go_sem,G7,GA];refine Jv (I:=λi:Nat=>i<=t.nodes.length) (inv:=λi=>gp [(1,.int .i64 (s:Int)),(0,.rptr (rRw t of)),(1,Qg 1 (iz (XE t o of s (Ga i)))),(4,.rslc 1 (iz of) none),(0,.int .i64 (t.nodes.length:Int)),(0,.int .i64 (i:Int))] 70) (hp:=λi=>[.dead,Q7 1 (iz (XE t o of s (Ga i)))]) (μ:=λi=>t.nodes.length-i) 0 [0,1] (by omega) rfl ?_ rfl ?_
 ·simp[forget,JB,ren,gp,rRw,Qg,iz,XE]
 ·intro i hi;by_cases Ab:i<t.nodes.length
  ·have d1:=dtT i t.nodes.length;have Ar:=JH (l:=of) (i:=i) (by rw[ho.len];exact Ab);have UT:=ho.rng i (by rw[ho.len];exact Ab);have Al:XE t o of s (Ga (i+1))=XE t o of s (Ga i)++XE t o of s [i]:=by rw[Hf,needC_app]
   have Ay:=Jex (t:=t) (o:=o) (of:=of) (s:=s) (Ga i);rw[He]at Ay;have au:=ho.dft (i:=i) (by rw[ho.len];exact Ab);have h1:XE t o of s [i]=if (decide (0<=of.getD i 0) && ((nd t (of.getD i 0).toNat).k == 42 && ((nd t i).k == 3 && (Jbx o i s && (Kk t (Kk t (of.getD i 0).toNat).toNat == Kk t s && !buL t (upL t (Ji t s) t.nodes.length i) false)))))=true then [Kk t (of.getD i 0).toNat] else []:=by
    rw[XE,au];rfl
   generalize XE t o of s (Ga i)=acc at Al Ay|-;generalize of.getD i 0=m at Ar UT h1;rcases Lc m 0 with Rx|Rx
   ·obtain rfl:m = -1:=by omega
    have e1:((-1:Int) == -1)=true:=by decide
    have AZ:XE t o of s [i]=[]:=by rw[h1,if_neg (by simp)]
    simp -implicitDefEqProofs only[go_sem,d1,Bb,Ar,e1];refine anO ?_;refine⟨Jh,i+1,[0,1],by omega,by omega,rfl,?_,?_⟩
    ·rw[Al,AZ,Gq];simp only[Kq,Gb,Gd,go_sem,Qk (Jc (Jf acc)),Jk]
    ·rw[Al,AZ,Gq];simp[forget,JB,ren,Jn,Qx,rRw]
   obtain⟨m,rfl⟩:∃m':Nat,m=m':=⟨m.toNat,by omega⟩;have FU:m<t.nodes.length:=by omega
   have e1:((m:Int) == -1)=false:=beq_eq_false_iff_ne.2 (by omega);rw[decide_eq_true Rx,Gj,Gl]at h1;simp -implicitDefEqProofs only[go_sem,d1,Bb,Ar,e1,rRw];refine anO ?_;refine Kh (gok rfl) (nKind t FU) ?_
   cases IJ:(nd t m).k == 42 with
   |false=>
    have AZ:XE t o of s [i]=[]:=by rw[h1,IJ,if_neg (by simp)]
    simp -implicitDefEqProofs only[go_sem,kbN,IJ,Gi];refine⟨Jh,i+1,[0,1],by omega,by omega,rfl,?_,?_⟩
    ·rw[Al,AZ,Gq];simp only[Kq,Gb,Gd,go_sem,Qk (Jc (Jf acc)),Jk]
    ·rw[Al,AZ,Gq];simp[forget,JB,ren,Jn,Qx]
   |true=>
    rw[IJ,Gj]at h1;simp -implicitDefEqProofs only[go_sem,kbN,IJ,Gh];refine Kh (gok rfl) (nKind t Ab) ?_
    cases EB:(nd t i).k == 3 with
    |false=>
     have AZ:XE t o of s [i]=[]:=by rw[h1,EB,if_neg (by simp)]
     simp -implicitDefEqProofs only[go_sem,kbN,EB,Gi];refine⟨Jh,i+1,[0,1],by omega,by omega,rfl,?_,?_⟩
     ·rw[Al,AZ,Gq];simp only[Kq,Gb,Gd,go_sem,Qk (Jc (Jf acc)),Jk]
     ·rw[Al,AZ,Gq];simp[forget,JB,ren,Jn,Qx]
    |true=>
     rw[EB,Gj]at h1;simp -implicitDefEqProofs only[go_sem,kbN,EB,Gh];refine Kh (gok rfl) (nBelow g Ab hs) ?_
     cases hb:Jbx o i s with
     |false=>
      have AZ:XE t o of s [i]=[]:=by rw[h1,hb,if_neg (by simp)]
      simp -implicitDefEqProofs only[go_sem,Gi];refine⟨Jh,i+1,[0,1],by omega,by omega,rfl,?_,?_⟩
      ·rw[Al,AZ,Gq];simp only[Kq,Gb,Gd,go_sem,Qk (Jc (Jf acc)),Jk]
      ·rw[Al,AZ,Gq];simp[forget,JB,ren,Jn,Qx]
     |true=>
      rw[hb,Gj]at h1;have Ck:(nd t m).k=42:=beq_iff_eq.1 IJ;have h3:(nd t i).k=3:=beq_iff_eq.1 EB;obtain⟨v,MO,Ew,_,_⟩:=QV g FU (by omega);have hL:=nLate g ht hs hk ((JdH g hs hk (by omega)).1 (Qp.1 hb));rw[MO,Gl]at h1;simp -implicitDefEqProofs only[go_sem,Gh,tRw,Qw,upz FU,MO];refine anO ?_;refine JW Jp (by decide) ?_
      cases Dg:(Kk t v == Kk t s) with
      |false=>
       have AZ:XE t o of s [i]=[]:=by rw[h1,Dg,if_neg (by simp)]
       simp -implicitDefEqProofs only[go_sem,Qw,upz Ew,upz hs,Dg];refine⟨by omega,by omega,?_⟩;refine⟨Jh,i+1,[0,1],by omega,by omega,rfl,?_,?_⟩
       ·rw[Al,AZ,Gq];simp only[Kq,Gb,Gd,go_sem,Qk (Jc (Jf acc)),Jk]
       ·rw[Al,AZ,Gq];simp[forget,JB,ren,Jn,Qx]
      |true=>
       rw[Dg,Gj]at h1;simp -implicitDefEqProofs only[go_sem,Qw,upz Ew,upz hs,Dg];refine⟨by omega,by omega,?_⟩;refine Kb (gok rfl) hL ?_
       cases hl:buL t (upL t (Ji t s) t.nodes.length i) false with
       |true=>
        have AZ:XE t o of s [i]=[]:=by rw[h1,hl,if_neg (by simp)]
        simp -implicitDefEqProofs only[go_sem,Gh];refine⟨Jh,i+1,[0,1],by omega,by omega,rfl,?_,?_⟩
        ·rw[Al,AZ,Gq];simp only[Kq,Gb,Gd,go_sem,Qk (Jc (Jf acc)),Jk]
        ·rw[Al,AZ,Gq];simp[forget,JB,ren,Jn,Qx]
       |false=>
        have Bo:XE t o of s [i]=[(v:Int)]:=by rw[h1,hl,if_pos (by simp)]
        simp -implicitDefEqProofs only[go_sem,Gi,Jg,Jy];refine⟨⟨by omega,by omega⟩,Jh,i+1,[0,3],by omega,by omega,rfl,?_,?_⟩
        ·rw[Al,Bo,Qe,KA];simp only[Kq,Gb,Gd,go_sem,Jo,Jk];simp[Jc (Jf acc),JB,ren]
        ·rw[Al,Bo,Qe,Kz];simp[forget,JB,ren,Jn,Jg]
  ·have d1:=dfF i t.nodes.length;obtain rfl:i=t.nodes.length:=by omega
   have Ay:=Jex (t:=t) (o:=o) (of:=of) (s:=s) (Ga t.nodes.length);rw[He]at Ay;generalize XE t o of s (Ga t.nodes.length)=acc at Ay|-
   cases acc with
   |nil=>
    simp -implicitDefEqProofs only[go_sem,d1,Xw,XV];refine JV sortNil ?_;simp -implicitDefEqProofs only[go_sem];refine JV compactNil ?_;simp -implicitDefEqProofs only[go_sem];rw[show Lib.compact (([]:List Int).mergeSort λx y=>decide (x<=y))=[] by rw[Hy];rfl];exact .inl .nil
   |cons x xs=>
    simp -implicitDefEqProofs only[go_sem,d1,Kn,Yo,JaS,Jg];refine Km (.inl rfl) (sortRow (l:=x::xs) (by simp) (by omega) rfl) λv H' ⟨h1,h2⟩=>?_
    subst h1 h2;simp -implicitDefEqProofs only[go_sem];have DU:((x::xs).mergeSort λx y=>decide (x<=y)).length=xs.length+1:=by rw[Hd];rfl
    generalize ((x::xs).mergeSort λx y=>decide (x<=y))=S at DU|-;have cz:S≠[]:=by rintro rfl;simp at DU
    rw[<-DU];refine Km (.inl rfl) (compactRow (l:=S) cz (by simp only[Gg]at Ay;omega) rfl) λv H' ⟨h1,h2⟩=>?_
    subst h1 h2;simp -implicitDefEqProofs only[go_sem];have Um:Lib.compact S≠[]:=by
     obtain⟨y,hy⟩:=List.exists_mem_of_ne_nil _ cz;exact List.ne_nil_of_mem (Je1.2 hy)
    refine .inr ⟨1,_,by rw[Jg],rfl,?_,by simpa [iz]using Um⟩;rw[KS,List.take_left' rfl]
end
end
section
def nz (l:List Nat):List Int:=l.map λx:Nat=>(x:Int)
theorem nz_len {l:List Nat}:(nz l).length=l.length:=by simp[nz]
theorem nz_cons {x:Nat}{l:List Nat}:nz (x::l)=(x:Int)::nz l:=rfl
theorem nz_get {l:List Nat}{i:Nat}(h:i<l.length):(nz l).getD i 0=(l.getD i 0:Nat):=by
 simp[nz,Gm,Gp h]
theorem nzz_get {l:List Nat}{i:Nat}(h:i<l.length):(iz (nz l)).getD i []=[.int .i64 (l.getD i 0:Nat)]:=by rw[JH (by rw[nz_len];exact h),nz_get h]
theorem Xm {l:List Nat}:(iz (nz l)).length=l.length:=by rw[Jg,nz_len]
section
variable {t:Tr}{o:List Int}(g:GoodT t o)(ht:t.Fit)
include g ht
theorem refWay {top a0:Nat}(Bu:top<t.nodes.length)(DY:blw o a0 top):Fn Gc 99 [t.cv,.int .i64 (top:Int),.int .i64 (a0:Int)] (.rslc 1 (iz (nz (upL t top t.nodes.length a0).reverse)) none):=by
 have Aj:=g.many;have SK:=up_len g (f:=t.nodes.length) Bu DY (by omega);have Al:=way_start (t:=t) (top:=top) (f:=t.nodes.length) (a:=a0);generalize hR:(upL t top t.nodes.length a0).reverse=R at Al|-;have Us:R.length<=t.nodes.length:=by rw[<-hR,Hw];omega
 refine Y7 ?_ rfl rfl;refine Kc c99_ok λN=>?_
 simp -implicitDefEqProofs only[c99,go_sem,Tr.cv,Tr.row];refine Jd (id:=0) (z:=2) (els:=[t.row]) rfl rfl ?_;simp only[go_sem,JY,Ky,frz,Qc,Gb,Gd];refine Jv (σ:=Nat×Nat×List Nat×Option Nat) (I:=λs=>blw o s.2.1 top/\t.nodes.length<=s.2.1+s.1/\R=(upL t top s.1 s.2.1).tail.reverse++s.2.2.1/\s.2.2.1≠[]) (inv:=λs=>gp [(1,.int .i64 (top:Int)),(0,.int .i64 (s.2.1:Int)),(0,.rptr t.row),(3,.slc 1 0 s.2.2.1.length s.2.2.2)] 13) (hp:=λs=>[.dead,.arr 1 (iz (nz s.2.2.1))]) (μ:=λs=>t.nodes.length-s.2.1) (t.nodes.length,a0,[a0],some 1) [0,1] ⟨DY,by simp only;omega,Al,by simp⟩ rfl ?_ ?_ ?_
 ·simp[forget,JB,ren,Jn,gp,Tr.row]
 ·simp[Kq,JB,ren,XM,iz,nz]
 ·rintro⟨f,a,w,cap⟩ ⟨hb,hf,hw,Ai⟩
  dsimp only at hb hf hw Ai
  have ha:a<t.nodes.length:=by have:=hb.1;omega
  by_cases he:a=top
  ·subst he;rw[way_end,List.reverse_nil,GA]at hw;have e1:((a:Int) != (a:Int))=false:=by simp
   simp -implicitDefEqProofs only[go_sem,e1];refine .step 1 1 (iz (nz w)) rfl (Jf _) (.done ?_);have hx:G8 w.length (iz (nz w))=iz (nz w):=Gu (by rw[Xm];omega);simp only[frz,if_true,GN,Xm,GQ,Gf,hx];rw[hw];exact wk.refl _
  ·have e1:((a:Int) != (top:Int))=true:=bne_iff_ne.2 (by omega);obtain⟨m,f',h1,h2,h3,h4,h5,h6⟩:=way_step g Bu hb hf he;rw[h6]at hw;have dQ:w.length+1<=R.length:=by rw[hw,Gv,Gg];omega
   have hP:=JbI g ht ha;rw[h1]at hP;obtain⟨y,ys,rfl⟩:=List.exists_cons_of_ne_nil Ai;simp only[Gg]at dQ;have CW:G8 (ys.length+1) (([CV.int .i64 (y:Int)])::iz (nz ys))=[CV.int .i64 (y:Int)]::iz (nz ys):=Gu (by simp[Xm]);simp -implicitDefEqProofs only[go_sem,e1,Tr.row];refine JV hP ?_;simp -implicitDefEqProofs only[go_sem,nz_cons,Kn,Gg,CW,Xm,Jy,Gf];refine⟨⟨by omega,by omega,by omega⟩,(f',m,m::y::ys,none),[0,3],⟨h4,h5,hw,by simp⟩,by simp only;omega,rfl,?_,?_⟩
   ·have Ay:=Jc (ρ:=[0,3]) (Jf (nz ys));simp[Kq,JB,ren,XM,nz_cons,Kn,Ay]
   ·simp[forget,JB,ren,Jn];omega
theorem refLate {a0 s:Nat}(hs:s<t.nodes.length)(hk:(nd t s).k=41)(DY:blw o a0 (Ji t s)):Fn Gc 72 [t.cv,.int .i64 (a0:Int),.int .i64 (s:Int)] (.bool (tdL t (upL t (Ji t s) t.nodes.length a0).reverse false)):=by
 have Aj:=g.many;have PZ:=set_kid g hs hk;have Dn:Ji t s<t.nodes.length:=by have:=(JR g hs PZ.1).2;omega
 have SK:=up_len g (f:=t.nodes.length) Dn DY (by omega);have hW:=refWay g ht Dn DY;have Ml:=up_rng g t.nodes.length a0 (Ji t s) Dn DY;have Fp:=up_kids g t.nodes.length a0 (Ji t s) Dn DY;have bC:∀i,i+1<(upL t (Ji t s) t.nodes.length a0).reverse.length->((((upL t (Ji t s) t.nodes.length a0).reverse.getD (i+1) 0:Nat):Int)∈(nd t ((upL t (Ji t s) t.nodes.length a0).reverse.getD i 0)).kids/\(upL t (Ji t s) t.nodes.length a0).reverse.getD i 0<t.nodes.length):=λi hi=>pairs_rev Fp hi
 have MS:∀x∈(upL t (Ji t s) t.nodes.length a0).reverse,x<t.nodes.length:=λx hx=>Ml x (List.mem_reverse.1 hx)
 have Us:(upL t (Ji t s) t.nodes.length a0).reverse.length<=t.nodes.length:=by rw[Hw];omega
 generalize (upL t (Ji t s) t.nodes.length a0).reverse=R at hW bC MS Us|-;refine Ja c72_ok rfl rfl λN=>?_
 simp -implicitDefEqProofs only[c72,go_sem,Tr.cv,Tr.row];refine Jd (id:=0) (z:=2) (els:=[t.row]) rfl rfl ?_;simp only[go_sem,JY,Ky,frz,Qc,Gb,Gd];refine JW Jp (by decide) ?_;simp -implicitDefEqProofs only[go_sem,Tr.row];refine Kb (.inl rfl) (JcW g ht hs PZ.2) ?_;simp -implicitDefEqProofs only[go_sem];refine Kb (.inl rfl) hW ?_;simp -implicitDefEqProofs only[go_sem];generalize hD:tdL t R false=D;refine Jv (I:=λi:Nat=>i<=R.length/\D=tdL t (R.drop i) false) (inv:=λi=>gp [(3,.rptr t.row),(3,.rslc 1 (iz (nz R)) none),(0,.int .i64 (i:Int))] 54) (hp:=λ_=>[.dead]) (μ:=λi=>R.length-i) 0 [0] ⟨by omega,by rw[Gf,hD]⟩ rfl ?_ rfl ?_
 ·simp[forget,JB,ren,gp,Tr.row]
 ·rintro i ⟨hi,Aa⟩;by_cases Ab:i+1<R.length
  ·have d1:((i:Int)+1<(R.length:Int))=True:=Kl;rw[tdL_drop Ab]at Aa;obtain⟨hc,hu⟩:=bC i Ab;have F3:=nzz_get (l:=R) (i:=i) (by omega);have M9:=nzz_get Ab;have Um:R.getD (i+1) 0<t.nodes.length:=MS _ (by rw[Gm,Gp Ab];exact Gw Ab);generalize R.getD i 0=u at Aa hc hu F3;generalize R.getD (i+1) 0=c at Aa hc M9 Um;have OT:=J3 hu;have EU:=J3 Um;have M0:=Ha hc;have I6:((i:Int)+1).toNat=i+1:=by omega
   simp -implicitDefEqProofs only[go_sem,Xm,d1];refine⟨Jh,?_⟩;refine Jad [false,false,false,false,false,false,false,false,true,true] Jp (by decide +kernel) ?_;by_cases h4:(nd t u).k=4
   ·have IV:JhD t u c=some true:=by unfold JhD;rw[if_pos h4]
    rw[IV]at Aa;simp -implicitDefEqProofs only[go_sem,Tr.row,Jb,Xm,F3,OT,Nd.cv,kbE,h4];exact⟨by omega,by omega,by rw[Aa]⟩
   have b4:((nd t u).k == 4)=false:=beq_eq_false_iff_ne.2 h4;by_cases aY:(nd t u).k=46
   ·have IV:JhD t u c=some (c == Ji t u):=by unfold JhD;rw[if_neg h4,if_pos (.inl aY)]
    have b46:((nd t u).k == 46)=true:=beq_iff_eq.2 aY;rw[IV]at Aa;simp -implicitDefEqProofs only[go_sem,Tr.row,Jb,Xm,F3,OT,Nd.cv,kbE,b4,b46];refine⟨by omega,by omega,?_⟩;refine JW Jp (by decide) ?_;simp -implicitDefEqProofs only[go_sem,Xm,I6,F3,M9];refine⟨Jh,by omega,by omega,?_⟩;refine Kb (.inl rfl) (JcW g ht hu M0) ?_;have en:=Jdy (Ji t u) c;simp -implicitDefEqProofs only[go_sem,en,Aa]
   have b46:((nd t u).k == 46)=false:=beq_eq_false_iff_ne.2 aY;by_cases BV:(nd t u).k=47
   ·have IV:JhD t u c=some (c == Ji t u):=by unfold JhD;rw[if_neg h4,if_pos (.inr BV)]
    have b47:((nd t u).k == 47)=true:=beq_iff_eq.2 BV;rw[IV]at Aa;simp -implicitDefEqProofs only[go_sem,Tr.row,Jb,Xm,F3,OT,Nd.cv,kbE,b4,b46,b47];refine⟨by omega,by omega,?_⟩;refine JW Jp (by decide) ?_;simp -implicitDefEqProofs only[go_sem,Xm,I6,F3,M9];refine⟨Jh,by omega,by omega,?_⟩;refine Kb (.inl rfl) (JcW g ht hu M0) ?_;have en:=Jdy (Ji t u) c;simp -implicitDefEqProofs only[go_sem,en,Aa]
   have b47:((nd t u).k == 47)=false:=beq_eq_false_iff_ne.2 BV;by_cases DZ:(nd t u).k=28
   ·have b28:((nd t u).k == 28)=true:=beq_iff_eq.2 DZ;simp -implicitDefEqProofs only[go_sem,Tr.row,Jb,Xm,F3,OT,Nd.cv,kbE,b4,b46,b47,b28];refine⟨by omega,by omega,?_⟩;refine JW Jp (by decide) ?_;by_cases Cy:(nd t c).k=43
    ·have IV:JhD t u c=none:=by unfold JhD;rw[if_neg h4,iN7,if_pos DZ,if_pos Cy]
     have b43:((nd t c).k == 43)=true:=beq_iff_eq.2 Cy;rw[IV]at Aa;simp -implicitDefEqProofs only[go_sem,Xm,I6,M9,Jb,EU,Nd.cv,kbN,b43,Gh];refine⟨Jh,by omega,by omega,Jh,i+1,[0],⟨by omega,Aa⟩,by omega,rfl,rfl,?_⟩;simp[forget,JB,ren,Jn]
    ·have IV:JhD t u c=some false:=by unfold JhD;rw[if_neg h4,iN7,if_pos DZ,if_neg Cy]
     have b43:((nd t c).k == 43)=false:=beq_eq_false_iff_ne.2 Cy;rw[IV]at Aa;simp -implicitDefEqProofs only[go_sem,Xm,I6,M9,Jb,EU,Nd.cv,kbN,b43,Gi];exact⟨Jh,by omega,by omega,by rw[Aa]⟩
   have b28:((nd t u).k == 28)=false:=beq_eq_false_iff_ne.2 DZ;have IV:JhD t u c=none:=by unfold JhD;rw[if_neg h4,iN7,if_neg DZ]
   rw[IV]at Aa;simp -implicitDefEqProofs only[go_sem,Tr.row,Jb,Xm,F3,OT,Nd.cv,kbE,b4,b46,b47,b28];refine⟨by omega,by omega,Jh,i+1,[0],⟨by omega,Aa⟩,by omega,rfl,rfl,?_⟩;simp[forget,JB,ren,Jn]
  ·have d1:((i:Int)+1<(R.length:Int))=False:=Ki;rw[tdL_end (by omega)]at Aa;simp -implicitDefEqProofs only[go_sem,Xm,d1,Aa];exact Jh
end
end
section
theorem indexO {E:Env}{H:List CObj}{id:Nat}{l:List Int}{x:Int}(hl:l.length<=1000000)(hH:H[id]? = some (.arr 1 (iz l))):CallsC Gc E 118 [.slc id 0 l.length none,.int .i64 x] H λv H'=>v=.int .i64 (Xk (λy=>x == y) l 0)/\H'=H:=by
 have Af:(iz l).length=l.length:=Jg;refine Kc c118_ok λN=>?_
 simp only[c118,go_sem];refine JE (I:=λi:Nat=>i<=l.length/\Xk (λy=>x == y) l 0=Xk (λy=>x == y) (l.drop i) i) (inv:=λi=>gp [(0,.slc id 0 l.length none),(0,.int .i64 x),(5,.int .i64 (l.length:Int)),(0,.int .i64 (i:Int))] 10) (hp:=λ_=>H) (μ:=λi=>l.length-i) 0 ⟨by omega,rfl⟩ ?_ rfl ?_
 ·simp[forget,gp]
 ·rintro i ⟨hi,Aa⟩;by_cases Ab:i<l.length
  ·have d1:=dtT i l.length;have Ar:=JH Ab;have Cb:l[i]? = some (l.getD i 0):=by rw[Gm,Gp Ab];rfl
   rw[QX Cb]at Aa;simp only[go_sem,d1,hH,Af,Ar];generalize l.getD i 0=y at Aa Ar|-;refine⟨by omega,by omega,?_⟩
   cases he:(x == y) with
   |true=>
    rw[he,if_pos rfl]at Aa;simp only[go_sem,Aa]
   |false=>
    rw[he]at Aa;simp only[go_sem];refine⟨Jh,i+1,⟨by omega,by simpa using Aa⟩,by omega,?_⟩;simp[forget]
  ·have d1:=dfF i l.length;rw[Gs (by omega)]at Aa;simp only[go_sem,d1,Aa,Xk]
theorem containsO {E:Env}{H:List CObj}{id:Nat}{l:List Int}{x:Int}(hl:l.length<=100000)(hH:H[id]? = some (Q7 1 (iz l))):CallsC Gc E 90 [Qg id (iz l),.int .i64 x] H λv H'=>v=.bool (l.contains x)/\H'=H:=by
 cases l with
 |nil=>exact(containsI [] x (by simp)).args (args':=[.nils,.int .i64 x]) ⟨wk.nils,wk.refl _,trivial⟩ E H
 |cons y l=>
  rw[Kn,JaS,<-Kn]at hH;have hc:=indexO (E:=E) (x:=x) (l:=y::l) (by omega) hH;rw[show Qg id (iz (y::l))=.slc id 0 (y::l).length none by rw[Kn,Yo,Jg];rfl];generalize y::l=L at *;refine Kc c90_ok λN=>?_
  simp only[c90,go_sem];refine Km (.inl rfl) hc λv H' ⟨h1,h2⟩=>?_
  subst h1 h2;have e:decide (0<=Xk (λy=>x == y) L 0)=L.contains x:=by rw[Jav,Ht]
  simp only[go_sem,e]
theorem Jg1 {l:List Int}{n:Nat}:(iz l).drop n=iz (l.drop n):=by simp[iz]
def todoV (els:List Int)(off:Nat):CV:=match els with
 |[]=>.nils
 |_::_=>.slc 2 off (els.length-off) none
theorem Jfu {els:List Int}:todoV els 0=Qg 2 (iz els):=by cases els <;> simp[todoV,iz,Qg]
theorem JgB {els:List Int}{off:Nat}(h:els≠[]):todoV els off=.slc 2 off (els.length-off) none:=by cases els <;> simp_all [todoV]
theorem Jco:∀{l out:List Int},YC l out<=l.length
 |[],_=>GQ _
 |y::l,out=>by
  have:=Jco (l:=l) (out:=out);simp only[YC,Gg]
  split <;> omega
theorem needN_ok {t:Tr}{o of:List Int}:∀x∈K6 t,(∀y∈XD t o of x.toNat,y∈K6 t)/\(XD t o of x.toNat).length<=(K6 t).length:=
 λx _=>⟨λy hy=>(GX.1 hy).1,Gz _ _⟩
section
variable {t:Tr}{o:List Int}(g:GoodT t o)(ht:t.Fit)
include g ht
theorem nAll {of:List Int}(ho:OfOk t of){s:Nat}(hs:s<t.nodes.length)(hk:(nd t s).k=41):JdC Gc 91 [.agg (rRw t of),.int .i64 (s:Int)] 1 (iz (bfs (λx=>XD t o of x.toNat) (K6 t) (XD t o of s) [])):=by
 have Aj:=g.many;have Am:(K6 t).length=t.nodes.length:=by simp[K6]
 refine JeL (Kc c91_ok λN=>?_) rfl (Jf _);simp only[c91,go_sem,rRw];refine Jd (id:=0) (z:=2) (els:=[rRw t of]) rfl rfl ?_;simp only[go_sem,JY,Ky,frz,Qc,Gf];refine Yn ?_;simp only[go_sem,G7,GA];refine Jfs (.inl rfl) (nNeeds g ht ho hs hk) ?_;simp only[go_sem];have BB:∀s':Nat,∀x∈XD t o of s',0<=x/\x<t.nodes.length/\(nd t x.toNat).k=41:=λs' x hx=>JdP g hx
 generalize hN:(λx:Int=>XD t o of x.toNat)=Nf;have E9:∀x∈K6 t,(∀y∈Nf x,y∈K6 t)/\(Nf x).length<=(K6 t).length:=by rw[<-hN];exact needN_ok
 have Ir:∀x,∀y∈Nf x,0<=y/\y<t.nodes.length/\(nd t y.toNat).k=41:=λx y hy=>by rw[<-hN]at hy;exact BB _ y hy
 have h0:=BB s;have II:(XD t o of s).length<=t.nodes.length:=by rw[<-Am];exact Gz _ _
 generalize XD t o of s=T0 at h0 II|-;generalize hR:bfs Nf (K6 t) T0 []=R;have Al:YC (K6 t) []*((K6 t).length+1)<=700*701:=Lf (GK Jco (by omega)) (by omega);refine Jv (σ:=List Int×Nat×List Int) (I:=λs'=>s'.2.1<=s'.1.length/\(∀x∈s'.1,0<=x/\x<t.nodes.length/\(nd t x.toNat).k=41)/\bfs Nf (K6 t) (s'.1.drop s'.2.1) s'.2.2=R/\muB (K6 t) (s'.1.drop s'.2.1) s'.2.2<=1000000/\s'.2.2.length+YC (K6 t) s'.2.2<=700)
  (inv:=λs'=>gp [(2,.rptr (rRw t of)),(1,Qg 1 (iz s'.2.2)),(0,todoV s'.1 s'.2.1)] 26) (hp:=λs'=>[.dead,Q7 1 (iz s'.2.2),Q7 1 (iz s'.1)]) (μ:=λs'=>muB (K6 t) (s'.1.drop s'.2.1) s'.2.2) (T0,0,[]) [0,1,2] ⟨by simp,h0,by simpa using hR,by simp only[Gf,muB];omega,by have:=Jco (l:=K6 t) (out:=[]);simp only[Gt];omega⟩ rfl ?_ ?_ ?_
 ·simp[forget,JB,ren,Jn,gp,rRw,Jfu,Qx,XV,Xw]
 ·simp only[Kq,Gb,Gd,go_sem,Qk (Jc (Jf T0)),Jk,Xw,Jah]
 ·rintro⟨els,off,out⟩ ⟨IC,hP,hB,Mt,AV⟩
  dsimp only at IC hP hB Mt AV
  by_cases Ai:els=[]
  ·subst Ai;rw[List.drop_nil,bfs_nil]at hB;have d1:((0:Int) > 0)=False:=Ki;have d2:((0:Int)<0)=False:=Ki;simp only[go_sem,todoV,d1];rw[<-hB];exact .row (id:=1) rfl rfl
  ·have UV:Q7 1 (iz els)=.arr 1 (iz els):=Yp (by simpa [iz]using Ai);have Em:(iz els).length=els.length:=Jg;rw[UV,JgB Ai];by_cases Ab:off<els.length
   ·have d1:((0:Int)<((els.length-off:Nat):Int))=True:=Kl;have d2:(((els.length-off:Nat):Int) > 0)=True:=Kl;have Ar:=JH Ab;have F5:els.drop off=els.getD off 0::els.drop (off+1):=by
     rw[GM Ab,Gm,Gp Ab];rfl
    have AC:els.getD off 0∈els:=by rw[Gm,Gp Ab];exact Gw Ab
    have Sl:=hP _ AC;have Ak:∀y∈els.drop off,y∈K6 t:=λy hy=>by
     have:=hP y (G5 hy);exact KE.2 ⟨this.1,this.2.1⟩
    rw[F5]at hB Ak Mt|-;have OH:=Mt;simp only[muB,Gg]at OH;generalize hx:els.getD off 0=x at Ar Sl hB Ak Mt|-;have bM:(((els.length-off:Nat):Int)).toNat-(1:Int).toNat=els.length-(off+1):=by omega
    simp only[go_sem,d1,Em,Ar,Hl];refine⟨by omega,⟨by omega,GJ _⟩,?_⟩;have PE:x∈K6 t:=Ak x (by simp);have Bb:out.length<=700:=by omega
    refine Km (.inl rfl) (containsO (id:=1) (l:=out) (x:=x) (by omega) rfl) λv H' ⟨h1,h2⟩=>?_
    subst h1 h2
    cases hc:out.contains x with
    |true=>
     rw[bfs_old E9 Ak hc]at hB;simp only[go_sem,Gh];refine⟨(els,off+1,out),[0,1,2],⟨by simp only;omega,hP,hB,by simp only[muB];omega,AV⟩,by simp only[muB,Gg];omega,rfl,?_,?_⟩
     ·simp only[Kq,Gb,Gd,go_sem,Qk (Jc (Jf out)),Jo,Jc (Jf els),Jk,UV]
     ·simp[forget,JB,ren,Jn,Qx,rRw,JgB Ai];omega
    |false=>
     rw[bfs_new E9 Ak hc]at hB;have CJ:=Y6 PE hc;have ZA:=Ld ((K6 t).length+1) (show YC (K6 t) (out++[x])+1<=YC (K6 t) out from CJ);rw[Ho,Hm]at ZA;have Dp:=(E9 x PE).2;obtain⟨xn,rfl⟩:∃x':Nat,x=x':=⟨x.toNat,by omega⟩;have F8:=Sl.2.2;rw[Gl]at F8;have Sm:XD t o of xn=Nf (xn:Int):=by rw[<-hN];simp only[Gl]
     have PQ:=Ir (xn:Int);have Sn:=(nNeeds g ht ho (show xn<t.nodes.length by omega) F8).fn rfl (Jf _);rw[Sm]at Sn;simp only[go_sem,Gi,Jg,Jy,rRw];refine⟨⟨by omega,by omega⟩,?_⟩;refine JV Sn ?_;generalize Nf (xn:Int)=M at Dp PQ hB|-;have OW:off+1+(els.length-off-1)=els.length:=by omega
     have OV:(off+1+(els.length-off-1)=els.length)=True:=eq_true OW;have hd:=HZ (i:=off+1) (l:=els)
     cases M with
     |nil=>
      simp only[go_sem,Xw];rw[Gq]at hB;refine⟨(els,off+1,out++[(xn:Int)]),[0,4,2],⟨by simp only;omega,hP,hB,by simp only[muB];omega,by simp only[Gv,Gg,Gt];omega⟩,by simp only[muB,Gg];omega,rfl,?_,?_⟩
      ·rw[UV,Qe,KA];simp only[Kq,Gb,Gd,go_sem,Jo,Jc (Jf els),Jk];simp[Jc (Jf out),JB,ren]
      ·rw[JgB Ai,Qe,Kz];simp[forget,JB,ren,Jn,Jg];omega
     |cons y ys=>
      simp only[go_sem,Kn,Em,OV,Jg,Jy];simp only[Gg]at Dp;refine⟨⟨by omega,by omega⟩,(els.drop (off+1)++y::ys,0,out++[(xn:Int)]),[0,4,5],⟨by simp,λz hz=>?_,by simpa using hB,by simp only[Gf,muB,Gv,Gg];omega,by simp only[Gv,Gg,Gt];omega⟩,by simp only[Gf,muB,Gv,Gg];omega,rfl,?_,?_⟩
      ·rcases Hg.1 hz with h|h
       ·exact hP z (G5 h)
       ·exact PQ z h
      ·rw[Qe,KA,KS,Kn,KA,<-Jg1];simp only[Kq,Gb,Gd,go_sem,Jo,Jk];rw[Jg1];simp[Jc (Jf out),Jc (Jf (els.drop (off+1))),Jc (Jf ys),JB,ren]
      ·rw[Jfu,Qe,Kz,KS,Kn,Kz];simp[forget,JB,ren,Jn,Jg];omega
   ·obtain rfl:off=els.length:=by omega
    rw[H6,bfs_nil]at hB;have d1:((0:Int)<((els.length-els.length:Nat):Int))=False:=Ki;have d2:(((els.length-els.length:Nat):Int) > 0)=False:=Ki;simp only[go_sem,d1];rw[<-hB];exact .row (id:=1) rfl rfl
end
end
section
def q2Ok (l:List IOper)(es:List (List Nat))(bs bs2:List Bool)(i j:Nat)(p q:List Nat):Bool:=
 (!(i == j) && decide (i<es.length) && decide (j<es.length)) && (Jdp l.length p q &&
 ((l.length == bs.length && (Jbd l.length (Jb6 es j i) (clo (Jb6 es j i)) && Ql l (clo (Jb6 es j i)) (bs.map Q4))) &&
 ((prl p l).length == bs2.length && (Jbd (prl p l).length (pre p q (Jb6 es i j)) (clo (pre p q (Jb6 es i j))) && Ql (prl p l) (clo (pre p q (Jb6 es i j))) (bs2.map Q4)))))
theorem vr_dregQ {P:Program}{E:Env}{n0:Nat}{N:Fr}{Q:Exit->List CV->List CObj->Prop}{H:List CObj}{T:List CV}{k:List KItem}{l:List IOper}{es:List (List Nat)}(i j:Nat)(p q:List Nat)(bs bs2:List Bool)(T':List CV)(H':List CObj)(hm:P.follows .mixedOrders=true)(AP:q2Ok l es bs bs2 i j p q=true)
  (h1:vdk P E (leads P E n0 N Q T' H') l bs T H) (h2:vdk P E (leads P E n0 N Q T' H') (prl p l) bs2 T H) (AL:Ko P E n0 N Q k T' H'):Ok P E n0 N Q (.code (.dreg l es)::k) T H:=by
 unfold q2Ok at AP;obtain⟨g0,r1⟩:=G9.1 AP;obtain⟨g1,r2⟩:=G9.1 r1;obtain⟨g2,g3⟩:=G9.1 r2;exact Jgl hm (JcA i j g0 (X8 bs T' H' g2 (JA _ _ _ AL) h1) (Jcz p q g1 (X8 bs2 T' H' g3 (JA _ _ _ AL) h2)))
theorem iz_set {l:List Int}{i:Nat}{v:Int}:(iz l).set i [.int .i64 v]=iz (l.set i v):=by simp[iz,La]
def oT (t:Tr):List CV:=[.rslc 5 (ndz t.nodes) none,.rslc 1 (iz t.items) none,.slc 1 0 t.nodes.length none,.slc 2 0 t.nodes.length (some t.nodes.length)]
section
variable {t:Tr}{o:List Int}(g:GoodT t o)(ht:t.Fit)
include g ht
theorem nOpen:Fn Gc 86 [t.cv] (.tup [.rptr (tRw t),.int .i64 0]):=by
 have Aj:=g.many;have ZO:=g.items;have hc:chk t=0:=(JdY t).2 ⟨o,g⟩;have e:(chk t != 0)=false:=by simp[hc]
 refine Y7 ?_ rfl rfl;refine Kc c86_ok λN=>?_
 simp -implicitDefEqProofs only[c86,go_sem,Tr.cv,Tr.row];refine Jd (id:=0) (z:=2) (els:=[t.row]) rfl rfl ?_;simp only[go_sem,JY,Ky,frz,Qc,Tr.row];refine JV (parseCheck t ht) ?_;simp -implicitDefEqProofs only[go_sem,e];have hz:GY t.nodes.length [CV.int .i64 0]=iz (X3 t 0):=by rw[itemTo_zero];simp[iz]
 have hR:=repeatO (-1) t.nodes.length (by omega);rw[<-upTo_zero g]at hR;have U4:=Jc (ρ:=[0,2,1,3]) (Jf (X3 t 0));have fO:=Jc (ρ:=[0,2,1,3]) (Jf (upTo t 0));refine vr_dregQ 5 9 [0,1,2,3,4,6,7,8,9,5,10,11,12] [0,1,2,3,4,9,5,6,7,8,10,11,12] [false,false,false,false,false,true,false,false,false,true,false,true,false] [false,false,false,false,false,false,false,false,true,true,false,true,false] (gp [(1,.rptr t.row),(3,.ptr 3 0 0)] 71) [.dead,.arr 1 (iz (upTo t 0)),.arr 1 (iz (X3 t 0)),.arr 4 [oT t]] Jp (by decide +kernel) ?_ ?_ ?_
 ·simp -implicitDefEqProofs only[go_sem,Tr.row];refine⟨_,_,hs_row (iz [-1]) rfl rfl rfl rfl,?_⟩;simp -implicitDefEqProofs only[go_sem,Jb];refine⟨_,_,Jg5 (.inl rfl) (hR _ _),?_⟩;simp -implicitDefEqProofs only[go_sem,Jb,hz];exact⟨⟨by omega,GJ _,by omega,by omega⟩,Jl (by simp[forget])⟩
 ·simp -implicitDefEqProofs only[prl,Xb,Gg,Gt,Gb,Gd,List.getD_cons_zero,List.getD_cons_succ,go_sem,Tr.row];refine⟨_,_,hs_row (iz [-1]) rfl rfl rfl rfl,?_⟩;simp -implicitDefEqProofs only[go_sem,Jb,hz];refine⟨⟨by omega,GJ _,by omega,by omega⟩,?_⟩;refine⟨_,_,Jg5 (.inl rfl) (hR _ _),?_⟩;simp -implicitDefEqProofs only[go_sem];refine leads_to [0,2,1,3] rfl (by simp[forget,JB,ren,Jn]) ?_;simp only[Kq,Gb,Gd,go_sem,Jo,Jk,U4,fO];simp[JB,ren,Jn,oT]
 ·simp only[gp,GY];simp -implicitDefEqProofs only[go_sem,Tr.row,Jb];refine Jv (I:=λi:Nat=>i<=t.nodes.length) (inv:=λi=>gp [(1,.rptr t.row),(3,.ptr 3 0 0),(24,.rslc 5 (ndz t.nodes) none),(0,.int .i64 (t.nodes.length:Int)),(0,.int .i64 (i:Int))] 44) (hp:=λi=>[.dead,.arr 1 (iz (upTo t i)),.arr 1 (iz (X3 t 0)),.arr 4 [oT t]]) (μ:=λi=>t.nodes.length-i) 0 [0,1,2,3] (by omega) rfl ?_ ?_ ?_
  ·simp[forget,JB,ren,Jn,gp,Tr.row]
  ·simp only[Kq,Gb,Gd,go_sem,Jo,Jk,Jc (Jf _)];simp[JB,ren,Jn,oT]
  ·intro i hi;by_cases Ab:i<t.nodes.length
   ·have d1:=dtT i t.nodes.length;have hg:=J3 Ab;have Aw:(iz (nd t i).kids).length=(nd t i).kids.length:=Jg;have BK:=(JeS ht Ab).kidn;have dY:=upTo_succ g Ab;simp -implicitDefEqProofs only[go_sem,d1,Jb,hg,Nd.cv,Aw];refine anO ?_;refine Jd (id:=4) (z:=5) (els:=[(nd t i).cv]) rfl rfl ?_;simp only[go_sem,JY,Ky,frz,Qc,oT,Gf,JO (Jf _),Gb,Gd];refine JE (I:=λk:Nat=>k<=(nd t i).kids.length) (inv:=λk=>gp [(1,.rptr t.row),(3,.ptr 3 0 0),(0,.int .i64 (i:Int)),(23,.rslc 5 (ndz t.nodes) none),(0,.int .i64 (t.nodes.length:Int)),(0,.int .i64 (i:Int)),(5,.rslc 1 (iz (nd t i).kids) none),(0,.int .i64 ((nd t i).kids.length:Int)),(0,.int .i64 (k:Int))] 36) (hp:=λk=>[.dead,.arr 1 (iz (Xt i (upTo t i) ((nd t i).kids.take k))),.arr 1 (iz (X3 t 0)),.arr 4 [oT t],.dead]) (μ:=λk=>(nd t i).kids.length-k) 0 (by omega) ?_ rfl ?_
    ·simp[forget,gp,Tr.row]
    ·intro k hk;by_cases CK:k<(nd t i).kids.length
     ·have d2:=dtT k (nd t i).kids.length;have CE:=JH CK;have AC:(nd t i).kids.getD k 0∈(nd t i).kids:=by rw[Gm,Gp CK];exact Gw CK
      have hr:=g.kid Ab AC;have Cg:Xt (i:Int) (upTo t i) ((nd t i).kids.take (k+1))=(Xt (i:Int) (upTo t i) ((nd t i).kids.take k)).set ((nd t i).kids.getD k 0).toNat i:=by
       rw[GZ CK,JbP,Gm,Gp CK];rfl
      have DU:(Xt (i:Int) (upTo t i) ((nd t i).kids.take k)).length=t.nodes.length:=by rw[Jbl,YG]
      generalize (nd t i).kids.getD k 0=c at CE hr Cg;obtain⟨c,rfl⟩:∃c':Nat,c=c':=⟨c.toNat,by omega⟩;rw[Gl]at Cg;generalize Xt (i:Int) (upTo t i) ((nd t i).kids.take k)=r at Cg DU|-;have Re:(iz r).length=t.nodes.length:=by rw[Jg,DU]
      have Ei:=JH (l:=r) (i:=c) (by omega);simp -implicitDefEqProofs only[go_sem,d2,Aw,CE,oT,Re,Ei,Gg,Gt,GR,Gf,iz_set];refine⟨by omega,by omega,by omega,Jh,k+1,by omega,by omega,?_,?_⟩
      ·rw[Cg]
      ·simp[forget,Tr.row]
     ·have d2:=dfF k (nd t i).kids.length;rw[Gu (by omega),<-dY];simp -implicitDefEqProofs only[go_sem,d2];refine⟨Jh,i+1,[0,1,2,3],by omega,by omega,rfl,?_,?_⟩
      ·simp only[Kq,Gb,Gd,go_sem,Jo,Jk,Jc (Jf _)];simp[JB,ren,Jn,oT]
      ·simp[forget,JB,ren,Jn,Tr.row]
   ·have d1:=dfF i t.nodes.length;obtain rfl:i=t.nodes.length:=by omega
    rw[upTo_all g];simp -implicitDefEqProofs only[go_sem,d1,Tr.row,Jb];refine Jv (I:=λi:Nat=>i<=t.nodes.length/\(i=0\/i<=t.nodes.length)/\Qb t i<=t.items.length) (inv:=λi=>gp [(1,.rptr t.row),(3,.ptr 3 0 0),(4,.int .i64 (Qb t i:Int)),(44,.int .i64 (t.nodes.length:Int)),(0,.int .i64 (i:Int))] 20) (hp:=λi=>[.dead,.arr 1 (iz (upT t)),.arr 1 (iz (X3 t i)),.arr 4 [oT t]]) (μ:=λi=>t.nodes.length-i) 0 [0,1,2,3] ⟨by omega,.inl rfl,by rw[JfT g];omega⟩ rfl ?_ ?_ ?_
    ·simp[forget,JB,ren,Jn,gp,Tr.row,JfT g]
    ·simp only[Kq,Gb,Gd,go_sem,Jo,Jk,Jc (Jf _)];simp[JB,ren,Jn,oT]
    ·rintro i ⟨hi,_,AQ⟩;by_cases Ab:i<t.nodes.length
     ·have d1:=dtT i t.nodes.length;obtain⟨L,h1,h2,h3,h4,h5⟩:=itemN_step g Ab;have Ou:=itemTo_succ Ab;have Re:(iz (X3 t i)).length=t.nodes.length:=by rw[Jg,JfS (by omega)]
      have Ei:=JH (l:=X3 t i) (i:=i) (by rw[JfS (by omega)];exact Ab);have Ar:=JH (l:=t.items) h1;rw[h2]at Ar;have Af:(iz t.items).length=t.items.length:=Jg;by_cases he:i=L
      ·have e1:((i:Int) == (L:Int))=true:=by simp[he]
       rw[if_pos he]at h5;simp -implicitDefEqProofs only[go_sem,d1,Tr.row,oT,Re,Ei,Af,Ar,e1,Gg,Gt,GR,Gf,iz_set];refine⟨by omega,by omega,by omega,Jh,Jh,i+1,[0,1,2,3],⟨by omega,.inr (by omega),by omega⟩,by omega,rfl,?_,?_⟩
       ·rw[<-Ou];simp only[Kq,Gb,Gd,go_sem,Jo,Jk,Jc (Jf _)];simp[JB,ren,Jn]
       ·rw[h5];simp[forget,JB,ren,Jn]
      ·have e1:((i:Int) == (L:Int))=false:=beq_eq_false_iff_ne.2 (by omega);rw[if_neg he]at h5;simp -implicitDefEqProofs only[go_sem,d1,Tr.row,oT,Re,Ei,Af,Ar,e1,Gg,Gt,GR,Gf,iz_set];refine⟨by omega,by omega,by omega,Jh,i+1,[0,1,2,3],⟨by omega,.inr (by omega),by omega⟩,by omega,rfl,?_,?_⟩
       ·rw[<-Ou];simp only[Kq,Gb,Gd,go_sem,Jo,Jk,Jc (Jf _)];simp[JB,ren,Jn]
       ·rw[h5];simp[forget,JB,ren,Jn]
     ·have d1:=dfF i t.nodes.length;obtain rfl:i=t.nodes.length:=by omega
      rw[itemTo_all];simp -implicitDefEqProofs only[go_sem,d1];refine .step 1 1 (iz (upT t)) rfl (Jf _) (.step 2 1 (iz (JdA t)) ?_ (Jf _) (.step 3 4 [tRw t] ?_ rfl (.done ?_)))
      ·simp only[Ky,Qc,JY,frz,oT,Gb,Gd,GV,GU,List.getElem?_cons_succ,List.getElem?_cons_zero,JO (Jf _)]
      ·have q1:(iz (upT t)).take t.nodes.length=iz (upT t):=Gu (by rw[Jg,Jd4];omega);have q2:(iz (JdA t)).take t.nodes.length=iz (JdA t):=Gu (by rw[Jg,Jcs];omega);simp[Ky,Qc,JY,frz,oT,tRw,Jg,Jd4,Jcs,q1,q2]
      ·simp[frz,JY];exact wk.refl _
end
end
section
theorem Jhh {n:Nat}{l:List Int}{q:Int->Bool}(h:∀x∈l,0<=x/\x<n) : -1<=(match l.find? q with|some d=>d|none=>-1)/\(match l.find? q with|some d=>d|none=>-1)<(n:Int):=by
 cases hf:l.find? q with
 |none=>simp;omega
 |some d=>
  have:=h d (List.mem_of_find?_eq_some hf);simp only;omega
theorem JgW {t:Tr}{o:List Int}{i:Nat} : -1<=JN t o i/\JN t o i<t.nodes.length:=by
 unfold JN JfO JbJ Jcm;have h:∀x∈K6 t,0<=x/\x<(t.nodes.length:Int):=λx hx=>KE.1 hx
 split
 ·exact Jhh h
 ·split
  ·exact Jhh h
  ·split
   ·exact Jhh h
   ·omega
theorem Q9 {t:Tr}{o:List Int}:(ofL t o).length=t.nodes.length:=by simp[ofL]
theorem Jev {t:Tr}{o:List Int}{i:Nat}(h:i<t.nodes.length):(ofL t o).getD i 0=JN t o i:=by
 simp[ofL,Gm,h]
theorem ofL_take {t:Tr}{o:List Int}{i:Nat}(h:i<t.nodes.length):(ofL t o).take (i+1)=(ofL t o).take i++[JN t o i]:=by
 rw[GZ (by rw[Q9];exact h)];simp[ofL]
theorem ofL_ok {t:Tr}{o:List Int}:OfOk t (ofL t o):=⟨Q9,λi hi=>by rw[Q9]at hi;rw[Jev hi];exact JgW⟩
def resV (t:Tr)(o:List Int):CV:=match JaG t o 6 10 (Ga t.nodes.length) with
 |some r=>.tup [.agg [.rptr (tRw t),.rslc 1 (iz ((ofL t o).take r.1)) none],.int .i64 (r.1:Int),.int .i64 r.2]
 |none=>match (Ga t.nodes.length).find? (stN t o) with
  |some i=>.tup [.agg (rRw t (ofL t o)),.int .i64 (i:Int),.int .i64 9]
  |none=>.tup [.agg (rRw t (ofL t o)),.int .i64 0,.int .i64 0]
theorem resV_closed {t:Tr}{o:List Int}:(resV t o).closed=true:=by
 unfold resV
 split
 ·rfl
 ·split <;> rfl
theorem frzs_row {H:List CObj}{id:Nat}{l:List Int}{x:CV}{ys:List CV}(hx:x.closed=true)(hy:Jm ys=true)(h:H[id]? = some (Q7 1 (iz l))):Frzs (.tup (.agg [x,.rslc 1 (iz l) none]::ys)) (.tup (.agg [x,Qg id (iz l)]::ys)) H:=by
 cases l with
 |nil=>exact .done (YW ⟨Jdd ⟨wk.refl _,wk.nils,trivial⟩,wks.refl _⟩)
 |cons a l=>
  refine .step id 1 (iz (a::l)) h (Jf _) (.done ?_);have e:frz id 1 (iz (a::l)) (Qg id (iz (a::l)))=.rslc 1 (iz (a::l)) none:=by
   rw[Kn,Yo];simp[frz]
  simp only[frz,JY,e,XP x hx,QB ys hy];exact wk.refl _
theorem bfs_len {N:Int->List Int}{l:List Int}(hN:∀x∈l,∀y∈N x,y∈l):∀(f:Nat) (todo out:List Int),(∀x∈todo,x∈l)->(bfsF N f todo out).length<=out.length+YC l out
 |0,_,out,_=>Le _ _
 |f+1,[],out,_=>Le _ _
 |f+1,x::todo,out,h=>by
  rw[bfsF]
  cases hc:out.contains x with
  |true=>rw[if_pos rfl];exact bfs_len hN f todo out λy hy=>h y (by simp[hy])
  |false=>
   rw[if_neg (by simp)];have hx:=h x (by simp);have h1:=bfs_len hN f (todo++N x) (out++[x]) λy hy=>by
    rcases Hg.1 hy with h2|h2
    ·exact h y (by simp[h2])
    ·exact hN x hx y h2
   have h2:=Y6 hx hc;simp only[Gv,Gg,Gt]at h1;omega
section
variable {t:Tr}{o:List Int}(g:GoodT t o)(ht:t.Fit)
include g ht
theorem nResolve0:Fn Gc 61 [t.cv] (resV t o):=by
 have Aj:=g.many;refine Y7 ?_ rfl resV_closed;refine Kc c61_ok λN=>?_
 simp -implicitDefEqProofs only[c61,go_sem,Tr.cv,Tr.row];refine Jd (id:=0) (z:=2) (els:=[t.row]) rfl rfl ?_;simp only[go_sem,JY,Ky,frz,Qc,Tr.row];refine JV (nOpen g ht) ?_;simp -implicitDefEqProofs only[go_sem,tRw,Jb];refine Yn ?_;simp only[go_sem,G7,GA];refine Jv (I:=λi:Nat=>i<=t.nodes.length/\JaG t o 6 10 (Ga t.nodes.length)=JaG t o 6 10 ((Ga t.nodes.length).drop i)) (inv:=λi=>gp [(2,.ptr 1 0 0),(2,.rptr (tRw t)),(20,.int .i64 (t.nodes.length:Int)),(0,.int .i64 (i:Int))] 53) (hp:=λi=>[.dead,.arr 2 [[.rptr (tRw t),Qg 2 (iz ((ofL t o).take i))]],Q7 1 (iz ((ofL t o).take i))]) (μ:=λi=>t.nodes.length-i) 0 [0,1,2] ⟨by omega,by rw[Gf]⟩ rfl ?_ ?_ ?_
 ·simp[forget,JB,ren,Jn,gp,tRw]
 ·simp[Kq,JB,ren,XM,Qg,Q7,iz,tRw]
 ·rintro i ⟨hi,Aa⟩;have Cf:((ofL t o).take i).length=i:=by rw[G6,Q9];omega
  by_cases Ab:i<t.nodes.length
  ·have d1:=dtT i t.nodes.length;have FN:=ofL_take (o:=o) Ab;rw[Qr Ab,JaG]at Aa;have CY:∀a:Int,JaG t o 6 10 (Ga t.nodes.length)=some (i,a)->resV t o=.tup [.agg [.rptr (tRw t),.rslc 1 (iz ((ofL t o).take i)) none],.int .i64 (i:Int),.int .i64 a]:=λa h=>by unfold resV;rw[h]
   generalize (ofL t o).take i=acc at Cf FN CY|-;simp -implicitDefEqProofs only[go_sem,d1];refine JV (nMeaning g ht Ab) ?_;simp -implicitDefEqProofs only[go_sem];refine JV (nTwice (by omega) Ab) ?_
   cases Ey:twN t i with
   |true=>
    rw[Ey,if_pos rfl]at Aa;rw[CY 6 Aa];simp -implicitDefEqProofs only[go_sem];exact frzs_row rfl rfl rfl
   |false=>
    rw[Ey]at Aa
    cases FJ:Kr t i with
    |false=>
     rw[if_neg (by simp),if_neg (by rw[FJ];simp)]at Aa;simp -implicitDefEqProofs only[go_sem,Jg,Jy];refine⟨⟨by omega,by omega⟩,Jh,i+1,[0,1,4],⟨by omega,Aa⟩,by omega,rfl,?_,?_⟩
     ·rw[FN,Qe,KA,Kz];simp only[Kq,Gb,Gd,go_sem,Jo,Jk];simp[Jc (Jf acc),JB,ren,Jn,Jg]
     ·simp[forget,JB,ren,Jn]
    |true=>
     cases Ub:(JN t o i == -1) with
     |true=>
      rw[if_neg (by simp),if_pos (by rw[FJ,Ub];rfl)]at Aa;rw[CY 10 Aa];simp -implicitDefEqProofs only[go_sem,Ub];exact frzs_row rfl rfl rfl
     |false=>
      rw[if_neg (by simp),if_neg (by rw[FJ,Ub];simp)]at Aa;simp -implicitDefEqProofs only[go_sem,Ub,Jg,Jy];refine⟨⟨by omega,by omega⟩,Jh,i+1,[0,1,4],⟨by omega,Aa⟩,by omega,rfl,?_,?_⟩
      ·rw[FN,Qe,KA,Kz];simp only[Kq,Gb,Gd,go_sem,Jo,Jk];simp[Jc (Jf acc),JB,ren,Jn,Jg]
      ·simp[forget,JB,ren,Jn]
  ·have d1:=dfF i t.nodes.length;obtain rfl:i=t.nodes.length:=by omega
   rw[show (Ga t.nodes.length).drop t.nodes.length=[] from Gs (by simp),JaG]at Aa;have CY:resV t o=match (Ga t.nodes.length).find? (stN t o) with|some i=>.tup [.agg (rRw t (ofL t o)),.int .i64 (i:Int),.int .i64 9]|none=>.tup [.agg (rRw t (ofL t o)),.int .i64 0,.int .i64 0]:=by unfold resV;rw[Aa]
   rw[CY,Gu (by rw[Q9];omega)];by_cases h0:t.nodes.length=0
   ·have FP:ofL t o=[]:=List.length_eq_zero_iff.1 (by rw[Q9];exact h0);have d2:((0:Int)<(t.nodes.length:Int))=False:=Ki;have Rf:Ga t.nodes.length=[]:=by rw[h0];rfl
    rw[FP,Xw,XV,Jah,Rf,GI];simp -implicitDefEqProofs only[go_sem,d1,tRw,Jb];refine JE (σ:=Unit) (I:=λ_=>True) (inv:=λ_=>gp [(2,.ptr 1 0 0),(2,.rptr (tRw t)),(56,.int .i64 (t.nodes.length:Int)),(0,.int .i64 0)] 17) (hp:=λ_=>[.dead,.arr 2 [[.rptr (tRw t),.nils]],.dead]) (μ:=λ_=>0) () trivial ?_ rfl ?_
    ·simp[forget,gp,tRw]
    ·intro _ _;simp -implicitDefEqProofs only[go_sem,d2];exact .done (YW ⟨Jdd ⟨wk.refl _,wk.nils,trivial⟩,wks.refl _⟩)
   ·have Ro:iz (ofL t o)≠[]:=by
     intro e;have:=congrArg Lb e;rw[Jg,Q9]at this;exact h0 (by simpa using this)
    have Bp:=Q9 (t:=t) (o:=o);rw[YP Ro,Yp Ro,Jg,Bp];simp -implicitDefEqProofs only[go_sem,d1,tRw,Jb];refine Jd (id:=2) (z:=1) (els:=iz (ofL t o)) rfl (Jf _) ?_;have EW:G8 t.nodes.length (iz (ofL t o))=iz (ofL t o):=Gu (by rw[Jg,Bp];omega);simp only[go_sem,JY,Ky,frz,Qc,Gb,Gd,Gf,GN,if_true,Jg,Bp,GQ,EW,GV,GU];refine Jv (I:=λi:Nat=>i<=t.nodes.length/\(Ga t.nodes.length).find? (stN t o)=((Ga t.nodes.length).drop i).find? (stN t o)) (inv:=λi=>gp [(2,.ptr 1 0 0),(2,.rptr (tRw t)),(56,.int .i64 (t.nodes.length:Int)),(0,.int .i64 (i:Int))] 17) (hp:=λ_=>[.dead,.arr 2 [rRw t (ofL t o)],.dead]) (μ:=λi=>t.nodes.length-i) 0 [0,1,2] ⟨by omega,by rw[Gf]⟩ rfl ?_ ?_ ?_
    ·simp[forget,JB,ren,Jn,gp,tRw]
    ·simp[Kq,JB,ren,XM,rRw,tRw]
    ·rintro i ⟨hi,Aa⟩;by_cases Ab:i<t.nodes.length
     ·have d1:=dtT i t.nodes.length;rw[Qr Ab,GH]at Aa;simp -implicitDefEqProofs only[go_sem,d1];refine JV (nKind t Ab) ?_
      cases hk:((nd t i).k == 41) with
      |false=>
       have Al:stN t o i=false:=by unfold stN;rw[hk];rfl
       rw[Al]at Aa;simp -implicitDefEqProofs only[go_sem,kbE,hk];refine⟨Jh,i+1,[0,1,2],⟨by omega,Aa⟩,by omega,rfl,?_,?_⟩
       ·simp[Kq,JB,ren,XM,rRw]
       ·simp[forget,JB,ren,Jn]
      |true=>
       have Al:stN t o i=(bfs (λx=>XD t o (ofL t o) x.toNat) (K6 t) (XD t o (ofL t o) i) []).contains (i:Int):=by unfold stN;rw[hk,Gj]
       have hA:=(nAll g ht (ofL_ok (o:=o)) Ab (beq_iff_eq.1 hk)).fn rfl (Jf _);have Bt:(bfs (λx=>XD t o (ofL t o) x.toNat) (K6 t) (XD t o (ofL t o) i) []).length<=100000:=by
        have h1:=bfs_len (N:=λx=>XD t o (ofL t o) x.toNat) (l:=K6 t) (λx hx=>(needN_ok x hx).1) (muB (K6 t) (XD t o (ofL t o) i) []+1) (XD t o (ofL t o) i) [] (λx hx=>(GX.1 hx).1);have h2:=Jco (l:=K6 t) (out:=[]);have h3:(K6 t).length=t.nodes.length:=by simp[K6]
        simp only[Gt]at h1;show (bfsF _ _ _ _).length<=_;omega
       generalize bfs (λx=>XD t o (ofL t o) x.toNat) (K6 t) (XD t o (ofL t o) i) []=B at Al hA Bt;simp -implicitDefEqProofs only[go_sem,kbE,hk,rRw];refine Kh (gok rfl) hA ?_;simp -implicitDefEqProofs only[go_sem];refine Kh (gok rfl) (containsI B (i:Int) Bt) ?_
       cases hc:B.contains (i:Int) with
       |false=>
        rw[Al,hc]at Aa;simp -implicitDefEqProofs only[go_sem];refine⟨Jh,i+1,[0,1,2],⟨by omega,Aa⟩,by omega,rfl,?_,?_⟩
        ·simp[Kq,JB,ren,XM]
        ·simp[forget,JB,ren,Jn]
       |true=>
        rw[Al,hc]at Aa;rw[Aa];simp -implicitDefEqProofs only[go_sem];exact .done (wk.refl _)
     ·have d1:=dfF i t.nodes.length;rw[show (Ga t.nodes.length).drop i=[] from Gs (by simp;omega),GI]at Aa;rw[Aa];simp -implicitDefEqProofs only[go_sem,d1,rRw];exact .done (wk.refl _)
theorem nResolve:Fn Gc 39 [t.cv] (if (XL t o).2=0 then .tup [.agg [.rslc 1 (iz (ofL t o)) none],.int .i64 0,.int .i64 0] else .tup [.agg [.nils],.int .i64 ((XL t o).1:Int),.int .i64 (XL t o).2]):=by
 have hV:=nResolve0 g ht;refine Ja c39_ok rfl (by split <;> rfl) λN=>?_
 simp -implicitDefEqProofs only[c39,go_sem,Tr.cv,Tr.row];refine JV hV ?_;unfold XL resV
 cases hs:JaG t o 6 10 (Ga t.nodes.length) with
 |some r=>
  have hr:∀l:List Nat,JaG t o 6 10 l=some r->r.2=6\/r.2=10:=by
   intro l
   induction l with
   |nil=>intro h;cases h
   |cons x l ih=>
    intro h;rw[JaG]at h
    split at h
    ·cases h;exact .inl rfl
    ·split at h
     ·cases h;exact .inr rfl
     ·exact ih h
  have h2:=hr _ hs;have e1:(r.2 != 0)=true:=bne_iff_ne.2 (by omega);simp only;rw[iN7];simp -implicitDefEqProofs only[go_sem,e1]
 |none=>
  simp only
  cases hf:(Ga t.nodes.length).find? (stN t o) with
  |some i=>
   simp only;rw[if_neg (by decide)];simp -implicitDefEqProofs only[go_sem,rRw]
  |none=>
   simp only[if_true];simp -implicitDefEqProofs only[go_sem,rRw]
end
end
section
section
variable {t:Tr}{o:List Int}(g:GoodT t o)(ht:t.Fit)
include g ht
end
end
section
section
variable {E:Env}{H:List CObj}
theorem vr_pc {P:Program}{n0:Nat}{N:Fr}{Q:Exit->List CV->List CObj->Prop}{T:List CV}{k:List KItem}{d:Option Nat}{g:Option (Nat×Bool)}{f:Nat}{xa:List IArg}{l:List IOper}{v:CV}(hg:GOk T g)(Ah:Pure P E f (xa.map (Ka T)) H v)(h:Ko P E n0 N Q (.ops l::k) (put T d v) H):Ok P E n0 N Q (.ops (⟨d,.call f xa,g⟩::l)::k) T H:=
 Km hg Ah λv' H' ⟨h1,h2⟩=>by rw[h1,h2];exact h
theorem indexFP {f:Nat}{l1 l2:List CV}{F:IFunc}(l:List Int)(q:Int->Bool)(hF:Je Gc f=some F)
  (hq:∀p∈l,Pure Gc E f (l1++[.int .i64 p]++l2) H (.bool (q p))) (Ad:l.length<=1000000):Pure Gc E 142 [.rslc 1 (iz l) none,.fn f l1 l2] H (.int .i64 (Xk q l 0)):=by
 have Af:(iz l).length=l.length:=Jg;refine Kc c142_ok λN=>?_
 simp only[c142,go_sem,Af];refine JE (I:=λi:Nat=>i<=l.length/\Xk q l 0=Xk q (l.drop i) i) (inv:=λi=>gp [(0,.rslc 1 (iz l) none),(0,.fn f l1 l2),(5,.int .i64 l.length),(0,.int .i64 i)] 10) (hp:=λ_=>H) (μ:=λi=>l.length-i) 0 ⟨by omega,rfl⟩ ?_ rfl ?_
 ·simp[forget,gp]
 ·rintro i ⟨hi,Aa⟩;by_cases Ab:i<l.length
  ·have d1:=dtT i l.length;have Ar:=JH Ab;have Cb:l[i]? = some (l.getD i 0):=by rw[Gm,Gp Ab];rfl
   have hm:l.getD i 0∈l:=Hu Cb;rw[QX Cb]at Aa;simp only[go_sem,Af,d1,Ar];refine anO ?_;refine vr_pcallv (.inl rfl) rfl hF (Jck pNames _) (hq _ hm) ?_
   cases hb:q (l.getD i 0) with
   |true=>
    rw[hb,if_pos rfl]at Aa;simp only[go_sem,Aa]
   |false=>
    rw[hb]at Aa;simp only[go_sem];refine⟨Jh,i+1,⟨by omega,by simpa using Aa⟩,by omega,?_⟩;simp[forget]
  ·have d1:=dfF i l.length;rw[Gs (by omega)]at Aa;simp only[go_sem,d1,Aa,Xk]
theorem containsFP {f:Nat}{l1 l2:List CV}{F:IFunc}(l:List Int)(q:Int->Bool)(hF:Je Gc f=some F)
  (hq:∀p∈l,Pure Gc E f (l1++[.int .i64 p]++l2) H (.bool (q p))) (Ad:l.length<=1000000):Pure Gc E 152 [.rslc 1 (iz l) none,.fn f l1 l2] H (.bool (l.any q)):=by
 refine Kc c152_ok λN=>?_
 simp only[c152,go_sem];refine vr_pc (.inl rfl) (indexFP l q hF hq Ad) ?_;simp only[go_sem,Jav]
end
section
variable {t:Tr}{o:List Int}(g:GoodT t o)(ht:t.Fit)
include g ht
end
end
section
def bb (l:List Bool):List (List CV):=l.map λb=>[.bool b]
theorem bb_len {l:List Bool}:(bb l).length=l.length:=by simp[bb]
theorem bb_get {l:List Bool}{i:Nat}(h:i<l.length):(bb l).getD i []=[.bool (l.getD i false)]:=by
 simp[bb,Gm,Gp h]
theorem Xf:∀(l:List Bool),Jq (bb l)=true
 |[]=>rfl
 |x::l=>by simp[bb,Jq,Jm,CV.closed];exact Xf l
theorem bb_set {l:List Bool}{i:Nat}{b:Bool}:(bb l).set i [.bool b]=bb (l.set i b):=by simp[bb,La]
theorem bb_rep {n:Nat}:GY n [CV.bool false]=bb (GY n false):=by simp[bb]
def Jdv (l:List Bool)(i:Nat):List Int:=((Ga i).filter λj=>l.getD j false).map λj:Nat=>(j:Int)
theorem setTo_succ {l:List Bool}{i:Nat}:Jdv l (i+1)=Jdv l i++if l.getD i false=true then [(i:Int)] else []:=by
 unfold Jdv;rw[Hf,Hz,H7,H5,H9]
 split <;> rfl
theorem setTo_len {l:List Bool}{i:Nat}:(Jdv l i).length<=i:=by
 unfold Jdv;rw[H8];exact GK (Gz _ _) (by simp)
theorem refSet (l:List Bool)(hl:l.length<=100000):Jfg Gc 56 [.rslc 1 (bb l) none] 1 (iz (setL l)):=by
 have Bt:(bb l).length=l.length:=bb_len;refine JeM (Kc c56_ok λN=>?_) rfl (Jf _);simp -implicitDefEqProofs only[c56,go_sem];refine Jv (I:=λi:Nat=>i<=l.length) (inv:=λi=>gp [(0,.rslc 1 (bb l) none),(2,.slc 0 0 (iz (Jdv l i)).length (Jhy (iz (Jdv l i)))),(0,.int .i64 (i:Int))] 16) (hp:=λi=>[.arr 1 (iz (Jdv l i))]) (μ:=λi=>l.length-i) 0 [0] (by omega) rfl ?_ ?_ ?_
 ·simp[forget,JB,ren,Jn,gp,Jdv,iz,Jhy]
 ·simp[Kq,XM,Jdv,iz]
 ·intro i hi;by_cases Ab:i<l.length
  ·have d1:=dtT i l.length;have Ar:=bb_get Ab;have Al:=setTo_succ (l:=l) (i:=i);have DU:=setTo_len (l:=l) (i:=i);have Ay:=Jc (ρ:=[0]) (Jf (Jdv l i));have ay:=Jc (ρ:=[2]) (Jf (Jdv l i))
   cases hb:l.getD i false with
   |false=>
    rw[hb,if_neg (by simp),Gq]at Al;rw[hb]at Ar;simp -implicitDefEqProofs only[go_sem,Bt,d1,Ar];refine⟨by omega,Jh,i+1,[0],by omega,by omega,rfl,?_,?_⟩
    ·rw[Al];simp only[Kq,Gb,Gd,go_sem,Jo,Ay]
    ·rw[Al];simp[forget,JB,ren,Jn]
   |true=>
    rw[hb,if_pos rfl]at Al;rw[hb]at Ar;simp -implicitDefEqProofs only[go_sem,Bt,d1,Ar,Jy,Jg];refine⟨by omega,⟨by omega,by omega⟩,Jh,i+1,[2],by omega,by omega,rfl,?_,?_⟩
    ·rw[Al,Qe];simp only[Kq,Gb,Gd,go_sem,Jo];simp[ay,JB,ren]
    ·rw[Al,Qe,Jbv];simp[forget,JB,ren,Jn]
  ·have d1:=dfF i l.length;obtain rfl:i=l.length:=by omega
   simp -implicitDefEqProofs only[go_sem,Bt,d1];exact⟨0,rfl,rfl⟩
theorem refHas3 (l:List Int)(x:Int)(hl:l.length<=100000):Fn Gc 30 [.rslc 1 (iz l) none,.int .i64 x] (.bool (l.contains x)):=by
 have Af:(iz l).length=l.length:=Jg;refine Ja c30_ok rfl rfl λN=>?_
 simp -implicitDefEqProofs only[c30,go_sem];refine JE (I:=λi:Nat=>i<=l.length/\l.contains x=(l.drop i).contains x) (inv:=λi=>gp [(0,.rslc 1 (iz l) none),(0,.int .i64 x),(3,.int .i64 (i:Int))] 12) (hp:=λ_=>[]) (μ:=λi=>l.length-i) 0 ⟨by omega,rfl⟩ ?_ rfl ?_
 ·simp[forget,gp]
 ·rintro i ⟨hi,Aa⟩;by_cases Ab:i<l.length
  ·have d1:=dtT i l.length;have Ar:=JH Ab;rw[GM Ab,HV,show l[i]=l.getD i 0 by rw[Gm,Gp Ab];rfl]at Aa;generalize l.getD i 0=y at Aa Ar;have hc:(x == y)=(y == x):=by rw[Hq,beq_iff_eq,beq_iff_eq];exact⟨Eq.symm,Eq.symm⟩
   rw[hc]at Aa
   cases he:(y == x) with
   |true=>
    rw[he,Gy]at Aa;simp -implicitDefEqProofs only[go_sem,Af,d1,Ar,he,Aa];omega
   |false=>
    rw[he,Gr]at Aa;simp -implicitDefEqProofs only[go_sem,Af,d1,Ar,he];refine⟨by omega,Jh,i+1,⟨by omega,Aa⟩,by omega,?_⟩;simp[forget]
  ·have d1:=dfF i l.length;rw[show l.drop i=[] from Gs (by omega),HY]at Aa;simp -implicitDefEqProofs only[go_sem,Af,d1,Aa]
section
variable {t:Tr}{o:List Int}(g:GoodT t o)(ht:t.Fit)
include g ht
theorem refNeeds {of:List Int}(ho:OfOk t of){s:Nat}(hs:s<t.nodes.length)(hk:(nd t s).k=41):Jfg Gc 55 [t.cv,.rslc 1 (iz of) none,.int .i64 (s:Int)] 1 (iz (YB t o of s)):=by
 have Aj:=g.many;have Bb:(iz of).length=t.nodes.length:=by rw[Jg,ho.len]
 have PZ:=set_kid g hs hk;have Dn:Ji t s<t.nodes.length:=by have:=(JR g hs PZ.1).2;omega
 rw[needR_eq];refine JeM (Kc c55_ok λN=>?_) rfl (Jf _);simp -implicitDefEqProofs only[c55,go_sem,Tr.cv,Tr.row];refine Jd (id:=0) (z:=2) (els:=[t.row]) rfl rfl ?_;simp only[go_sem,JY,Ky,frz,Qc,Gb,Gd];refine Jad [false,false,false,true,false,false,false,false,false] Jp (by decide +kernel) ?_;simp -implicitDefEqProofs only[go_sem,Tr.row,Jb];refine⟨⟨by omega,GJ _,by omega,by omega⟩,?_⟩;refine vh_f (JbI g ht hs) ?_;simp -implicitDefEqProofs only[go_sem];rw[bb_rep,<-Jdu];have OZ:∀(i:Nat) (p:Nat->Bool),(Ga (i+1)).any p=((Ga i).any p || p i):=λi p=>by
  rw[Hf,List.any_append,Gx,GD,GL]
 refine Jv (I:=λi:Nat=>i<=t.nodes.length) (inv:=λi=>gp [(1,.rslc 1 (iz of) none),(0,.int .i64 (s:Int)),(0,.rptr t.row),(3,.slc 1 0 t.nodes.length (some t.nodes.length)),(0,.int .i64 (Kk t s)),(0,.int .i64 (i:Int))] 73) (hp:=λi=>[.dead,.arr 1 (bb (KL t.nodes.length λx=>(Ga i).any (JbC t o of s x)))]) (μ:=λi=>t.nodes.length-i) 0 [0,1] (by omega) rfl ?_ ?_ ?_
 ·simp[forget,JB,ren,Jn,gp,Tr.row]
 ·simp only[Kq,Gb,Gd,go_sem,Jo,Jk,Jc (Xf _)];rfl
 ·intro i hi;have Ay:=Jc (ρ:=[0,1]) (Xf (KL t.nodes.length λx=>(Ga i).any (JbC t o of s x)));by_cases Ab:i<t.nodes.length
  ·have d1:=dtT i t.nodes.length;have Ar:=JH (l:=of) (i:=i) (by rw[ho.len];exact Ab);have Z7:=J3 Ab;have UT:=ho.rng i (by rw[ho.len];exact Ab);have au:=ho.dft (i:=i) (by rw[ho.len];exact Ab);have hQ:∀x,JbC t o of s x i=((nd t i).k == 3 && (decide (0<=of.getD i 0) && (Jbx o i (Ji t s) && ((nd t (of.getD i 0).toNat).k == 42 && (Kk t (of.getD i 0).toNat == x && (Kk t x.toNat == Kk t s && !tdL t (upL t (Ji t s) t.nodes.length i).reverse false)))))):=λx=>by unfold JbC;rw[au]
   have BJ:(∀x,JbC t o of s x i=false)->(KL t.nodes.length λx=>(Ga (i+1)).any (JbC t o of s x))=KL t.nodes.length λx=>(Ga i).any (JbC t o of s x):=λh=>boolsN_congr λj hj=>by rw[OZ,h,GL]
   generalize of.getD i 0=m at Ar UT hQ;simp -implicitDefEqProofs only[go_sem,d1,Tr.row,Jb];refine JW Jp (by decide) ?_
   cases h3:((nd t i).k == 3) with
   |false=>
    have AZ:=BJ λx=>by rw[hQ,h3,Gn]
    simp -implicitDefEqProofs only[go_sem,Jb,Z7,Nd.cv,kbN,h3,Gi];refine⟨by omega,Jh,i+1,[0,1],by omega,by omega,rfl,?_,?_⟩
    ·rw[AZ];simp only[Kq,Gb,Gd,go_sem,Jo,Ay,Jk]
    ·simp[forget,JB,ren,Jn]
   |true=>
    rcases Lc m 0 with Rx|Rx
    ·have e1:decide (m<0)=true:=decide_eq_true Rx;have AZ:=BJ λx=>by rw[hQ,decide_eq_false (by omega),Gn,GG]
     simp -implicitDefEqProofs only[go_sem,Jb,Z7,Nd.cv,kbN,h3,Gh,Bb,Ar,e1];refine⟨by omega,by omega,Jh,i+1,[0,1],by omega,by omega,rfl,?_,?_⟩
     ·rw[AZ];simp only[Kq,Gb,Gd,go_sem,Jo,Ay,Jk]
     ·simp[forget,JB,ren,Jn]
    ·have e1:decide (m<0)=false:=decide_eq_false (by omega);obtain⟨m,rfl⟩:∃m':Nat,m=m':=⟨m.toNat,by omega⟩;have FU:m<t.nodes.length:=by omega
     have Uj:=J3 FU;simp -implicitDefEqProofs only[go_sem,Jb,Z7,Nd.cv,kbN,h3,Gh,Bb,Ar,e1];refine⟨by omega,by omega,?_⟩;refine Kb (gok rfl) (JcW g ht hs PZ.2) ?_;simp -implicitDefEqProofs only[go_sem];refine Kb (gok rfl) (Y2 g ht Dn) ?_
     cases hb:Jbx o i (Ji t s) with
     |false=>
      have AZ:=BJ λx=>by rw[hQ,hb,Gn,GG,GG]
      simp -implicitDefEqProofs only[go_sem,Gi];refine⟨Jh,i+1,[0,1],by omega,by omega,rfl,?_,?_⟩
      ·rw[AZ];simp only[Kq,Gb,Gd,go_sem,Jo,Ay,Jk]
      ·simp[forget,JB,ren,Jn]
     |true=>
      cases Ck:((nd t m).k == 42) with
      |false=>
       have AZ:=BJ λx=>by rw[hQ,Gl,Ck,Gn,GG,GG,GG]
       simp -implicitDefEqProofs only[go_sem,Gh,Jb,Bb,Ar,Uj,Nd.cv,kbN,Ck,Gi];refine⟨by omega,by omega,Jh,i+1,[0,1],by omega,by omega,rfl,?_,?_⟩
       ·rw[AZ];simp only[Kq,Gb,Gd,go_sem,Jo,Ay,Jk]
       ·simp[forget,JB,ren,Jn]
      |true=>
       have k42:(nd t m).k=42:=beq_iff_eq.1 Ck;obtain⟨v,MO,Ew,_,_⟩:=QV g FU (by omega);have df:=JbI g ht FU;rw[MO]at df;have Ut:∀x,JbC t o of s x i=(((v:Int) == x) && (Kk t x.toNat == Kk t s && !tdL t (upL t (Ji t s) t.nodes.length i).reverse false)):=λx=>by
        rw[hQ,h3,hb,Gl,Ck,MO,decide_eq_true (by omega)];rfl
       simp -implicitDefEqProofs only[go_sem,Gh,Jb,Bb,Ar,Uj,Nd.cv,kbN,Ck];refine⟨by omega,by omega,?_⟩;refine JW Jp (by decide) ?_;simp -implicitDefEqProofs only[go_sem,Bb,Ar];refine anO ?_;refine Kb (.inl rfl) df ?_;simp -implicitDefEqProofs only[go_sem];refine JV (JbI g ht Ew) ?_
       cases Dg:(Kk t v == Kk t s) with
       |false=>
        have AZ:=BJ λx=>by
         rw[Ut]
         cases hx:((v:Int) == x) with
         |false=>rfl
         |true=>
          have:=beq_iff_eq.1 hx;rw[<-this,Gl,Dg];rfl
        simp -implicitDefEqProofs only[go_sem,Dg];refine⟨Jh,i+1,[0,1],by omega,by omega,rfl,?_,?_⟩
        ·rw[AZ];simp only[Kq,Gb,Gd,go_sem,Jo,Ay,Jk]
        ·simp[forget,JB,ren,Jn]
       |true=>
        simp -implicitDefEqProofs only[go_sem,Dg];refine Kh (gok rfl) (refLate g ht hs hk (Qp.1 hb)) ?_
        cases hl:tdL t (upL t (Ji t s) t.nodes.length i).reverse false with
        |true=>
         have AZ:=BJ λx=>by rw[Ut,hl];simp
         simp -implicitDefEqProofs only[go_sem,Gh];refine⟨Jh,i+1,[0,1],by omega,by omega,rfl,?_,?_⟩
         ·rw[AZ];simp only[Kq,Gb,Gd,go_sem,Jo,Ay,Jk]
         ·simp[forget,JB,ren,Jn]
        |false=>
         have BB:(KL t.nodes.length λx=>(Ga i).any (JbC t o of s x)).set v true=KL t.nodes.length λx=>(Ga (i+1)).any (JbC t o of s x):=by
          refine Jga Ew (λj hj Ai=>?_) ?_
          ·rw[OZ,Ut,beq_eq_false_iff_ne.2 (show (v:Int)≠(j:Int) by omega),Gn,GL]
          ·rw[OZ,Ut,Gl,Dg,hl];simp
         have Bt:(bb (KL t.nodes.length λx=>(Ga i).any (JbC t o of s x))).length=t.nodes.length:=by rw[bb_len,QJ]
         have Mc:=bb_get (l:=KL t.nodes.length λx=>(Ga i).any (JbC t o of s x)) (i:=v) (by rw[QJ];exact Ew);simp -implicitDefEqProofs only[go_sem,Gi,Bt,Mc,Gg,Gt,GR,Gf,bb_set,BB];refine⟨by omega,by omega,Jh,i+1,[0,1],by omega,by omega,rfl,?_,?_⟩
         ·simp only[Kq,Gb,Gd,go_sem,Jo,Jc (Xf _),Jk]
         ·simp[forget,JB,ren,Jn]
  ·have d1:=dfF i t.nodes.length;obtain rfl:i=t.nodes.length:=by omega
   have Bt:(bb (KL t.nodes.length λx=>(Ga t.nodes.length).any (JbC t o of s x))).length=t.nodes.length:=by rw[bb_len,QJ]
   simp -implicitDefEqProofs only[go_sem,d1,Tr.row,Jb];refine Jd (id:=1) (z:=1) (els:=bb (KL t.nodes.length λx=>(Ga t.nodes.length).any (JbC t o of s x))) rfl (Xf _) ?_;have EW:=Gu (l:=bb (KL t.nodes.length λx=>(Ga t.nodes.length).any (JbC t o of s x))) (i:=t.nodes.length) (by rw[Bt];omega);simp only[go_sem,JY,Ky,frz,Qc,Gb,Gd,Gf,GN,if_true,Bt,GQ,EW,GV,GU];refine vr_rowW (.inl rfl) (refSet _ (by rw[QJ];omega)) ?_;simp -implicitDefEqProofs only[go_sem];exact⟨2,rfl,rfl⟩
end
end
section
theorem needR_ok {t:Tr}{o of:List Int}:∀x∈K6 t,(∀y∈YB t o of x.toNat,y∈K6 t)/\(YB t o of x.toNat).length<=(K6 t).length:=
 λx _=>⟨λy hy=>(GX.1 hy).1,Gz _ _⟩
def todoW (els:List Int)(off:Nat):CV:=.slc 2 off (els.length-off) (Jhy (iz els))
theorem Je7 {els:List Int}(h:els≠[]):Jhy (iz els)=none:=by cases els with
 |nil=>exact absurd rfl h
 |cons x l=>rfl
section
variable {t:Tr}{o:List Int}(g:GoodT t o)(ht:t.Fit)
include g ht
theorem refReached {of:List Int}(ho:OfOk t of){s:Nat}(hs:s<t.nodes.length)(hk:(nd t s).k=41):Jfg Gc 31 [t.cv,.rslc 1 (iz of) none,.int .i64 (s:Int)] 1 (iz ((K6 t).filter λx=>(bfs (λx=>YB t o of x.toNat) (K6 t) (YB t o of s) []).contains x)):=by
 have Aj:=g.many;have Am:(K6 t).length=t.nodes.length:=by simp[K6]
 refine JeM (Kc c31_ok λN=>?_) rfl (Jf _);simp -implicitDefEqProofs only[c31,go_sem,Tr.cv,Tr.row,Jb];refine⟨⟨by omega,GJ _,by omega,by omega⟩,?_⟩;refine Jd (id:=0) (z:=2) (els:=[t.row]) rfl rfl ?_;simp only[go_sem,JY,Ky,frz,Qc,Gb,Gd,List.map_replicate,Tr.row];refine vr_rowW (.inl rfl) (refNeeds g ht ho hs hk) ?_;simp -implicitDefEqProofs only[go_sem];have BB:∀s':Nat,s' < t.nodes.length->(nd t s').k=41->∀x∈YB t o of s',0<=x/\x<t.nodes.length/\(nd t x.toNat).k=41:=λs' h1 h2 x hx=>by
  rw[<-need_eq g h1 h2]at hx;exact JdP g hx
 generalize hN:(λx:Int=>YB t o of x.toNat)=Nf;have E9:∀x∈K6 t,(∀y∈Nf x,y∈K6 t)/\(Nf x).length<=(K6 t).length:=by rw[<-hN];exact needR_ok
 have Ir:∀x:Nat,x<t.nodes.length->(nd t x).k=41->∀y∈Nf x,0<=y/\y<t.nodes.length/\(nd t y.toNat).k=41:=λx h1 h2 y hy=>by
  rw[<-hN]at hy;simp only[Gl]at hy;exact BB x h1 h2 y hy
 have h0:=BB s hs hk;have II:(YB t o of s).length<=t.nodes.length:=by rw[<-Am];exact Gz _ _
 generalize YB t o of s=T0 at h0 II|-;generalize hR:bfs Nf (K6 t) T0 []=R;have Al:YC (K6 t) []*((K6 t).length+1)<=700*701:=Lf (GK Jco (by omega)) (by omega);have gX:(KL t.nodes.length λx=>([]:List Int).contains x)=GY t.nodes.length false:=by rw[<-Jdu];rfl
 rw[bb_rep,<-gX];refine Jv (σ:=List Int×Nat×List Int) (I:=λs'=>s'.2.1<=s'.1.length/\(∀x∈s'.1,0<=x/\x<t.nodes.length/\(nd t x.toNat).k=41)/\bfs Nf (K6 t) (s'.1.drop s'.2.1) s'.2.2=R/\muB (K6 t) (s'.1.drop s'.2.1) s'.2.2<=1000000)
  (inv:=λs'=>gp [(1,.rslc 1 (iz of) none),(1,.rptr t.row),(3,.slc 1 0 t.nodes.length (some t.nodes.length)),(0,todoW s'.1 s'.2.1)] 33) (hp:=λs'=>[.dead,.arr 1 (bb (KL t.nodes.length λx=>s'.2.2.contains x)),.arr 1 (iz s'.1)]) (μ:=λs'=>muB (K6 t) (s'.1.drop s'.2.1) s'.2.2) (T0,0,[]) [0,1,2] ⟨by simp,h0,by simpa using hR,by simp only[Gf,muB];omega⟩ rfl ?_ ?_ ?_
 ·simp[forget,JB,ren,Jn,gp,todoW,rowW,Tr.row,Jg]
 ·simp only[Kq,Gb,Gd,go_sem,Jo,Jc (Jf T0),Jc (Xf _),Jk]
 ·rintro⟨els,off,out⟩ ⟨IC,hP,hB,Mt⟩
  dsimp only at IC hP hB Mt
  have Em:(iz els).length=els.length:=Jg;by_cases Ab:off<els.length
  ·have Ai:els≠[]:=by rintro rfl;simp at Ab
   have d1:((0:Int)<((els.length-off:Nat):Int))=True:=Kl;have d2:(((els.length-off:Nat):Int) > 0)=True:=Kl;have Ar:=JH Ab;have F5:els.drop off=els.getD off 0::els.drop (off+1):=by
    rw[GM Ab,Gm,Gp Ab];rfl
   have AC:els.getD off 0∈els:=by rw[Gm,Gp Ab];exact Gw Ab
   have Sl:=hP _ AC;have Ak:∀y∈els.drop off,y∈K6 t:=λy hy=>by
    have:=hP y (G5 hy);exact KE.2 ⟨this.1,this.2.1⟩
   rw[F5]at hB Ak Mt|-;have OH:=Mt;simp only[muB,Gg]at OH;generalize hx:els.getD off 0=x at Ar Sl hB Ak Mt|-;obtain⟨xn,rfl⟩:∃x':Nat,x=x':=⟨x.toNat,by omega⟩;have PE:(xn:Int)∈K6 t:=Ak xn (by simp);have F8:=Sl.2.2;rw[Gl]at F8;have Ee:xn<t.nodes.length:=by omega
   have Bt:(bb (KL t.nodes.length λx=>out.contains x)).length=t.nodes.length:=by rw[bb_len,QJ]
   have Mc:=bb_get (l:=KL t.nodes.length λx=>out.contains x) (i:=xn) (by rw[QJ];exact Ee);rw[Jgb Ee]at Mc
   cases hc:out.contains (xn:Int) with
   |true=>
    rw[hc]at Mc;rw[bfs_old E9 Ak hc]at hB;simp -implicitDefEqProofs only[go_sem,todoW,Je7 Ai,d1,Em,Ar,Hl,Bt,Mc,Gh];refine⟨by omega,⟨by omega,GJ _⟩,by omega,by omega,(els,off+1,out),[0,1,2],⟨by simp only;omega,hP,hB,by simp only[muB];omega⟩,by simp only[muB,Gg];omega,rfl,?_,?_⟩
    ·simp only[Kq,Gb,Gd,go_sem,Jo,Jc (Jf els),Jc (Xf _),Jk]
    ·simp[forget,JB,ren,Jn,Je7 Ai];omega
   |false=>
    rw[hc]at Mc;rw[bfs_new E9 Ak hc]at hB;have CJ:=Y6 PE hc;have ZA:=Ld ((K6 t).length+1) (show YC (K6 t) (out++[(xn:Int)])+1<=YC (K6 t) out from CJ);rw[Ho,Hm]at ZA;have Dp:=(E9 xn PE).2;have Sm:YB t o of xn=Nf (xn:Int):=by rw[<-hN];simp only[Gl]
    have PQ:=Ir xn Ee F8;have Sn:=(refNeeds g ht ho Ee F8).fn rfl (Jf _);rw[Sm]at Sn;have P6:(KL t.nodes.length λx=>out.contains x).set xn true=KL t.nodes.length λx=>(out++[(xn:Int)]).contains x:=by
     refine Jga Ee (λj hj Ai=>?_) (by simp);have:((j:Int) == (xn:Int))=false:=beq_eq_false_iff_ne.2 (by omega);simp[];omega
    simp -implicitDefEqProofs only[go_sem,todoW,Je7 Ai,d1,Em,Ar,Hl,Bt,Mc,Gi,Gg,Gt,GR,Gf,bb_set,P6,Tr.row];refine⟨by omega,⟨by omega,GJ _⟩,by omega,by omega,by omega,by omega,?_⟩;refine JV Sn ?_;generalize Nf (xn:Int)=M at Dp PQ hB|-;have OW:off+1+(els.length-off-1)=els.length:=by omega
    have OV:(off+1+(els.length-off-1)=els.length)=True:=eq_true OW;have hd:=HZ (i:=off+1) (l:=els)
    cases M with
    |nil=>
     simp -implicitDefEqProofs only[go_sem,Xw];rw[Gq]at hB;refine⟨(els,off+1,out++[(xn:Int)]),[0,1,2],⟨by simp only;omega,hP,hB,by simp only[muB];omega⟩,by simp only[muB,Gg];omega,rfl,?_,?_⟩
     ·simp only[Kq,Gb,Gd,go_sem,Jo,Jc (Jf els),Jc (Xf _),Jk]
     ·simp[forget,JB,ren,Jn,Je7 Ai];omega
    |cons y ys=>
     simp -implicitDefEqProofs only[go_sem,Kn,Em,OV,Jg,Jy];simp only[Gg]at Dp;refine⟨⟨by omega,by omega⟩,(els.drop (off+1)++y::ys,0,out++[(xn:Int)]),[0,1,3],⟨by simp,λz hz=>?_,by simpa using hB,by simp only[Gf,muB,Gv,Gg];omega⟩,by simp only[Gf,muB,Gv,Gg];omega,rfl,?_,?_⟩
     ·rcases Hg.1 hz with h|h
      ·exact hP z (G5 h)
      ·exact PQ z h
     ·rw[KS,Kn,<-Jg1];simp only[Kq,Gb,Gd,go_sem,Jo,Jk,Jc (Xf _)];rw[Jg1];simp[Jc (Jf (els.drop (off+1))),Jc (Jf ys),JB,ren]
     ·rw[Je7 (show els.drop (off+1)++y::ys≠[] by simp)];simp[forget,JB,ren,Jn];omega
  ·obtain rfl:off=els.length:=by omega
   rw[H6,bfs_nil]at hB;have Bt:(bb (KL t.nodes.length λx=>out.contains x)).length=t.nodes.length:=by rw[bb_len,QJ]
   have d1:((0:Int)<((els.length-els.length:Nat):Int))=False:=Ki;have d2:(((els.length-els.length:Nat):Int) > 0)=False:=Ki;simp -implicitDefEqProofs only[go_sem,todoW,d1];refine Jd (id:=1) (z:=1) (els:=bb (KL t.nodes.length λx=>out.contains x)) rfl (Xf _) ?_;have EW:=Gu (l:=bb (KL t.nodes.length λx=>out.contains x)) (i:=t.nodes.length) (by rw[Bt];omega);simp only[go_sem,JY,Ky,frz,Qc,Gb,Gd,Gf,GN,if_true,Bt,GQ,EW,GV,GU,JO (Jf _)];refine vr_rowW (.inl rfl) (refSet _ (by rw[QJ];omega)) ?_;rw[<-hB,<-JfA (t:=t) (f:=λx=>out.contains x)];simp -implicitDefEqProofs only[go_sem];exact⟨3,rfl,rfl⟩
theorem JfE:Fn Gc 9 [t.cv] (if (resR t o).2=0 then .tup [.rslc 1 (iz (ofL t o)) none,.int .i64 0,.int .i64 0] else .tup [.rslc 1 [] none,.int .i64 ((resR t o).1:Int),.int .i64 (resR t o).2]):=by
 have Aj:=g.many;have az:chk t=0:=(JdY t).2 ⟨o,g⟩;have e0:(chk t != 0)=false:=by simp[az]
 refine Y7 ?_ rfl (by split <;> rfl);refine Kc c9_ok λN=>?_
 simp -implicitDefEqProofs only[c9,go_sem,Tr.cv,Tr.row];refine Jd (id:=0) (z:=2) (els:=[t.row]) rfl rfl ?_;simp only[go_sem,JY,Ky,frz,Qc,Gb,Gd,Tr.row];refine JV (refCheck t ht) ?_;simp -implicitDefEqProofs only[go_sem,e0];have AB:∀{k:Nat} {y:List CV} {H:List CObj},H[k]? = some (.arr 1 [])->Jm y=true->Frzs (.tup (.rslc 1 [] none::y)) (.tup (.slc k 0 0 (some 0)::y)) H:=λh hy=>.step _ 1 [] h rfl (.done (by
  simp only[frz,JY,if_true,QB _ hy];exact wk.refl _))
 have BC:∀(i:Nat) (a:Int),a≠0->resR t o=(i,a)->(if (resR t o).2=0 then CV.tup [.rslc 1 (iz (ofL t o)) none,.int .i64 0,.int .i64 0] else .tup [.rslc 1 [] none,.int .i64 ((resR t o).1:Int),.int .i64 (resR t o).2])=.tup [.rslc 1 [] none,.int .i64 (i:Int),.int .i64 a]:=λi a ha h=>by rw[h,if_neg ha]
 refine Jv (I:=λi:Nat=>i<=t.nodes.length/\JgG t o 6 10 (Ga t.nodes.length)=JgG t o 6 10 ((Ga t.nodes.length).drop i)) (inv:=λi=>gp [(1,.rptr t.row),(4,.slc 1 0 (iz ((ofL t o).take i)).length (Jhy (iz ((ofL t o).take i)))),(0,.int .i64 (i:Int))] 64) (hp:=λi=>[.dead,.arr 1 (iz ((ofL t o).take i))]) (μ:=λi=>t.nodes.length-i) 0 [0,1] ⟨by omega,by rw[Gf]⟩ rfl ?_ ?_ ?_
 ·simp[forget,JB,ren,Jn,gp,Tr.row,iz,Jhy]
 ·simp[Kq,XM,iz]
 ·rintro i ⟨hi,Aa⟩;have Cf:((ofL t o).take i).length=i:=by rw[G6,Q9];omega
  by_cases Ab:i<t.nodes.length
  ·have d1:=dtT i t.nodes.length;have Ar:=J3 Ab;have FN:=ofL_take (o:=o) Ab;rw[Qr Ab,JgG]at Aa;have CY:∀a:Int,JgG t o 6 10 (Ga t.nodes.length)=some (i,a)->resR t o=(i,a):=λa h=>by unfold resR;rw[h]
   have Ay:=Jc (ρ:=[0,3]) (Jf ((ofL t o).take i));generalize (ofL t o).take i=acc at Cf FN Ay|-;simp -implicitDefEqProofs only[go_sem,d1,Tr.row,Jb,Ar,Nd.cv];refine anO ?_;refine JV (JgP _) ?_;have FJ:((nd t i).k == 3 || (nd t i).k == 26 || (nd t i).k == 44)=Kr t i:=rfl;rw[FJ]
   cases hs:Kr t i with
   |true=>
    simp -implicitDefEqProofs only[go_sem];refine JV (refMeans g ht Ab hs) ?_;by_cases hm:JN t o i<0
    ·have e1:(JN t o i<0)=True:=eq_true hm;rw[hs,decide_eq_true hm,Gj,if_pos rfl]at Aa;rw[BC i 10 (by decide) (CY 10 Aa)];simp -implicitDefEqProofs only[go_sem,e1];exact AB (k:=2) rfl rfl
    ·have e1:(JN t o i<0)=False:=eq_false hm;rw[hs,decide_eq_false hm,GG,if_neg (by simp)]at Aa;simp -implicitDefEqProofs only[go_sem,e1];refine JV (refTwice g ht Ab) ?_
     cases Ey:twR t o i with
     |true=>
      rw[Ey,if_pos rfl]at Aa;rw[BC i 6 (by decide) (CY 6 Aa)];simp -implicitDefEqProofs only[go_sem];exact AB (k:=2) rfl rfl
     |false=>
      rw[Ey,if_neg (by simp)]at Aa;simp -implicitDefEqProofs only[go_sem,Jy,Jg];refine⟨⟨by omega,by omega⟩,Jh,i+1,[0,3],⟨by omega,Aa⟩,by omega,rfl,?_,?_⟩
      ·rw[FN,Qe];simp only[Kq,Gb,Gd,go_sem,Jo,Jk];simp[Ay,JB,ren]
      ·rw[FN,Qe,Jbv];simp[forget,JB,ren,Jn]
   |false=>
    have Ib:JN t o i = -1:=by
     unfold Kr at hs;simp only[Bool.or_eq_false_iff,beq_eq_false_iff_ne]at hs;unfold JN;rw[if_neg hs.1.1,if_neg hs.1.2,if_neg hs.2]
    rw[hs,Gn,if_neg (by simp)]at Aa;rw[Ib]at FN;simp -implicitDefEqProofs only[go_sem];refine JV (refTwice g ht Ab) ?_
    cases Ey:twR t o i with
    |true=>
     rw[Ey,if_pos rfl]at Aa;rw[BC i 6 (by decide) (CY 6 Aa)];simp -implicitDefEqProofs only[go_sem];exact AB (k:=2) rfl rfl
    |false=>
     rw[Ey,if_neg (by simp)]at Aa;simp -implicitDefEqProofs only[go_sem,Jy,Jg];refine⟨⟨by omega,by omega⟩,Jh,i+1,[0,3],⟨by omega,Aa⟩,by omega,rfl,?_,?_⟩
     ·rw[FN,Qe];simp only[Kq,Gb,Gd,go_sem,Jo,Jk];simp[Ay,JB,ren]
     ·rw[FN,Qe,Jbv];simp[forget,JB,ren,Jn]
  ·have d1:=dfF i t.nodes.length;obtain rfl:i=t.nodes.length:=by omega
   rw[show (Ga t.nodes.length).drop t.nodes.length=[] from Gs (by simp),JgG]at Aa;have CY:resR t o=match (Ga t.nodes.length).find? (stR t o) with|some i=>(i,9)|none=>(0,0):=by unfold resR;simp only[Aa];cases (Ga t.nodes.length).find? (stR t o) <;> rfl
   rw[Gu (by rw[Q9];omega)];simp -implicitDefEqProofs only[go_sem,d1,Tr.row,Jb];refine Jd (id:=1) (z:=1) (els:=iz (ofL t o)) rfl (Jf _) ?_;have Bp:=Q9 (t:=t) (o:=o);have EW:G8 t.nodes.length (iz (ofL t o))=iz (ofL t o):=Gu (by rw[Jg,Bp];omega);simp only[go_sem,JY,Ky,frz,Qc,Gb,Gd,Gf,GN,if_true,Jg,Bp,GQ,EW,GV,GU];refine Jv (I:=λi:Nat=>i<=t.nodes.length/\(Ga t.nodes.length).find? (stR t o)=((Ga t.nodes.length).drop i).find? (stR t o)) (inv:=λi=>gp [(1,.rptr t.row),(4,.rslc 1 (iz (ofL t o)) none),(2,.int .i64 (i:Int))] 62) (hp:=λ_=>[.dead,.dead]) (μ:=λi=>t.nodes.length-i) 0 [0,1] ⟨by omega,by rw[Gf]⟩ rfl ?_ rfl ?_
   ·simp[forget,JB,ren,gp,Tr.row]
   ·rintro i ⟨hi,Aa⟩;by_cases Ab:i<t.nodes.length
    ·have d1:=dtT i t.nodes.length;have Ar:=J3 Ab;rw[Qr Ab,GH]at Aa
     cases hk:((nd t i).k == 41) with
     |false=>
      have Al:stR t o i=false:=by unfold stR;rw[hk];rfl
      rw[Al]at Aa;simp -implicitDefEqProofs only[go_sem,d1,Tr.row,Jb,Ar,Nd.cv,kbE,hk];refine⟨by omega,Jh,i+1,[0,1],⟨by omega,Aa⟩,by omega,rfl,rfl,?_⟩;simp[forget,JB,ren]
     |true=>
      have Al:stR t o i=((K6 t).filter λx=>(bfs (λx=>YB t o (ofL t o) x.toNat) (K6 t) (YB t o (ofL t o) i) []).contains x).contains (i:Int):=by unfold stR;rw[hk,Gj]
      have hA:=(refReached g ht (ofL_ok (o:=o)) Ab (beq_iff_eq.1 hk)).fn rfl (Jf _);have Bt:((K6 t).filter λx=>(bfs (λx=>YB t o (ofL t o) x.toNat) (K6 t) (YB t o (ofL t o) i) []).contains x).length<=100000:=by
       refine GK (Gz _ _) ?_;simp only[K6,H8,He];omega
      generalize (K6 t).filter (λx=>(bfs (λx=>YB t o (ofL t o) x.toNat) (K6 t) (YB t o (ofL t o) i) []).contains x)=B at Al hA Bt;simp -implicitDefEqProofs only[go_sem,d1,Tr.row,Jb,Ar,Nd.cv,kbE,hk];refine anO ?_;refine Kh (gok rfl) hA ?_;simp -implicitDefEqProofs only[go_sem];refine Kh (gok rfl) (refHas3 B (i:Int) Bt) ?_
      cases hc:B.contains (i:Int) with
      |false=>
       rw[Al,hc]at Aa;simp -implicitDefEqProofs only[go_sem];refine⟨Jh,i+1,[0,1],⟨by omega,Aa⟩,by omega,rfl,rfl,?_⟩;simp[forget,JB,ren]
      |true=>
       rw[Al,hc]at Aa;rw[Aa]at CY;rw[BC i 9 (by decide) CY];simp -implicitDefEqProofs only[go_sem];exact AB (k:=2) rfl rfl
    ·have d1:=dfF i t.nodes.length;rw[show (Ga t.nodes.length).drop i=[] from Gs (by simp;omega),GI]at Aa;rw[Aa]at CY;rw[CY,if_pos rfl];simp -implicitDefEqProofs only[go_sem,d1,Tr.row,Jb];exact .done (wk.refl _)
end
theorem refResolveE (t:Tr)(ht:t.Fit)(h:chk t≠0):Fn Gc 9 [t.cv] (.tup [.rslc 1 [] none,.int .i64 0,.int .i64 (chk t)]):=by
 have e:(chk t != 0)=true:=by simpa using h
 refine Y7 ?_ rfl rfl;refine Kc c9_ok λN=>?_
 simp -implicitDefEqProofs only[c9,go_sem,Tr.cv,Tr.row];refine JV (refCheck t ht) ?_;simp -implicitDefEqProofs only[go_sem,e];refine .step 1 1 [] rfl rfl (.done ?_);simp only[frz,JY,if_true];exact wk.refl _
end
end Go.Cm
end
end
