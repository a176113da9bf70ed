/-
  A part of the proof. Conditions: none.
-/
import Derived.Test.YtdnnimemociklaaGreatDoorWP40
set_option linter.unusedSimpArgs false
set_option linter.unusedVariables false
open Bool renaming not_true->Gh,not_false->Gi,true_and->Gj,false_and->Gn,false_or->Gr,true_or->Gy,and_false->GG,or_false->GL,and_eq_true_iff->G9,eq_iff_iff->Hq,or_true->Hr
open List renaming getD_eq_getElem?_getD->Gm,drop_zero->Gf,map_cons->Gb,range->Ga,getElem?_eq_getElem->Gp,length_cons->Gg,map_nil->Gd,drop_eq_nil_of_le->Gs,append_nil->Gq,take_of_length_le->Gu,length_nil->Gt,length_append->Gv,length_filter_le->Gz,getElem_mem->Gw,drop_eq_getElem_cons->GM,any_cons->Gx,take_succ_eq_append_getElem->GZ,nil_append->GA,find?_cons->GH,find?_nil->GI,drop_succ_cons->GR,any_nil->GD,set_cons_zero->GU,set_cons_succ->GV,mem_of_mem_drop->G5,mem_filter->GX,replicate->GY,length_take->G6,cons_append->G7,length_pos_of_mem->Ha,length_mergeSort->Hd,length_range->He,range_succ->Hf,mem_append->Hg,contains_eq_any_beq->Ht,take->G8,mem_of_getElem?->Hu,length_reverse->Hw,mergeSort_nil->Hy,filter_append->Hz,contains_cons->HV,contains_nil->HY,length_drop->HZ,filter_cons->H5,drop_length->H6,map_append->H7,length_map->H8,filter_nil->H9,mem_range->La,map_set->Lb,length->Lc
open Go.Proofs.Tryz renaming prog->Gc
open Int renaming toNat_natCast->Gl,le_refl->GJ,lt_or_le->Ld
open Nat renaming le_trans->GK,zero_add->GN,le_refl->GQ,add_zero->Hl,mul_le_mul_right->Le,one_mul->Hm,add_mul->Ho,le_add_right->Lf,mul_le_mul->Lg
noncomputable section
section
set_option maxRecDepth 100000
set_option maxHeartbeats 4000000
open Go.Proofs
namespace Go.Cm
variable {a a0 f i k m n n0 u z:Nat}{t:Tr}{l o:Lu}{H H':Lt}{els:LM}{x:Int}{P:Program}{E:Env}{q:Int->Bool}{T l1 l2:Ls}{F:IFunc}{Q:Exit->Ls->Lt->Prop}
theorem kbE:((k:Int) == no_index (@OfNat.ofNat Int m _))=(k == m):=by rw[Hq,beq_iff_eq,beq_iff_eq];exact Int.ofNat_inj
theorem kbN:((k:Int) != no_index (@OfNat.ofNat Int m _)) = !(k == m):=by rw[bne,kbE]
def tRw (t:Tr):Ls:=[.rslc 5 (ndz t.nodes) none,.rslc 1 (iz t.items) none,.rslc 1 (iz (upT t)) none,.rslc 1 (iz (Jek t)) none]
theorem JfK(ht:t.Fit)(hi:i<t.nodes.length):(nd t i).Fit:=ht.nodes _ (by unfold nd;rw[Gm,Gp hi];exact Gw hi)
theorem J7(h:i<t.nodes.length):(ndz t.nodes).getD i []=(nd t i).cv:=QE h
theorem upz(h:i<t.nodes.length):(iz (upT t)).getD i []=[.int .i64 (Kg t i)]:=by rw[JL (by rw[JeR];exact h),upT_get h]
theorem itz(h:i<t.nodes.length):(iz (Jek t)).getD i []=[.int .i64 (Qn t i)]:=by rw[JL (by rw[Jdb];exact h),itemT_get h]
theorem QP:(iz (upT t)).length=t.nodes.length:=by rw[Jf,JeR]
theorem itz_len:(iz (Jek t)).length=t.nodes.length:=by rw[Jf,Jdb]
theorem nKind (t:Tr)(hi:i<t.nodes.length):Fn Gc 84 [.rptr (tRw t),.int .i64 (i:Int)] (.int .u8 ((nd t i).k:Int)):=by
 have hg:=J7 hi;refine Jc c84_ok rfl rfl λN=>?_
 simp only[c84,go_sem,tRw,Jb,hg,Nd.cv];omega
theorem nInside (t:Tr)(hi:i<t.nodes.length):Fn Gc 207 [.rptr (tRw t),.int .i64 (i:Int)] (.bool (!((nd t i).k == 43))):=by
 refine Jc c207_ok rfl rfl λN=>?_
 simp only[c207,go_sem];refine Kk (nKind t hi) ?_;simp only[go_sem,kbN]
def bz (l:Lx):LM:=l.map λi:Nat=>[.int .u8 (i:Int)]
theorem bz_len {l:Lx}:(bz l).length=l.length:=by simp[bz]
theorem bz_get {l:Lx}(h:i<l.length):(bz l).getD i []=[.int .u8 (l.getD i 0:Nat)]:=by simp[bz,Gm,Gp h]
theorem bz_closed:∀(l:Lx),Jq (bz l)=true
 |[]=>rfl
 |x::l=>by simp[bz,Jq,Jp,CV.closed];exact bz_closed l
theorem indexB (l:Lx)(x:Nat)(hl:l.length<=100000):Fn Gc 206 [.rslc 1 (bz l) none,.int .u8 (x:Int)] (.int .i64 (X8 (λy=>x == y) l 0)):=by
 have Aj:(bz l).length=l.length:=bz_len;have lu:=bz_closed l;refine Jc c206_ok rfl rfl λN=>?_
 simp only[c206,go_sem,Aj];refine JO (I:=λi:Nat=>i<=l.length/\X8 (λy=>x == y) l 0=X8 (λy=>x == y) (l.drop i) i) (inv:=λi=>gp [(0,.rslc 1 (bz l) none),(0,.int .u8 x),(5,.int .i64 (l.length:Int)),(0,.int .i64 (i:Int))] 10) (hp:=λ_=>[]) (μ:=λi=>l.length-i) 0 ⟨om,rfl⟩ ?_ rfl ?_
 ·simp[forget,gp]
 ·rintro i ⟨hi,Aa⟩;by_cases Ab:i<l.length
  ·have d1:=dtT i l.length;have AA:=bz_get Ab;have Cn:l[i]? = some (l.getD i 0):=by rw[Gm,Gp Ab];rfl
   rw[Xx Cn]at Aa;have en:=Jej (l.getD i 0) x;simp only[go_sem,Aj,d1,AA,en];generalize l.getD i 0=y at Aa|-;refine anO ?_
   cases he:(x == y) with
   |true=>rw[he,if_pos rfl]at Aa;simp only[go_sem,Aa]
   |false=>rw[he]at Aa;simp only[go_sem];refine⟨Ji,i+1,⟨om,by simpa using Aa⟩,om,?_⟩;simp[forget]
  ·have d1:=dfF i l.length;rw[Gs om]at Aa;simp only[go_sem,d1,Aa,X8]
theorem containsB (l:Lx)(x:Nat)(hl:l.length<=100000):Fn Gc 176 [.rslc 1 (bz l) none,.int .u8 (x:Int)] (.bool (l.contains x)):=by
 refine Jc c176_ok rfl rfl λN=>?_
 simp only[c176,go_sem];refine Kk (indexB l x hl) ?_;have e:decide (0<=X8 (λy=>x == y) l 0)=l.contains x:=by rw[JaZ,Ht]
 simp only[go_sem,e]
theorem nIsDecl (t:Tr)(hi:i<t.nodes.length):Fn Gc 134 [.rptr (tRw t),.int .i64 (i:Int)] (.bool (KV (nd t i).k)):=by
 have e:[65,64,42,43,47].contains (nd t i).k=KV (nd t i).k:=by simp only[HV,HY,GL,KV,Bool.or_assoc]
 refine Jc c134_ok rfl rfl λN=>?_
 simp only[c134,go_sem];refine Je (id:=0) (z:=1) (els:=bz [65,64,42,43,47]) rfl rfl ?_;simp only[go_sem,JV,Kv,frz,Qj,bz,Gb,Gd,Gg,Gt,Gf,List.take_succ_cons,List.take_zero];refine Kk (nKind t hi) ?_;simp only[go_sem];refine Kk (containsB [65,64,42,43,47] _ sM) ?_;simp only[go_sem,e]
section
variable(g:GoodT t o)
include g
theorem nBelow{j0:Nat}(UU:j0<t.nodes.length)(ha:a<t.nodes.length):Fn Gc 177 [.rptr (tRw t),.int .i64 (j0:Int),.int .i64 (a:Int)] (.bool (JbO o j0 a)):=by
 refine Jc c177_ok rfl rfl λN=>?_
 simp only[c177,go_sem];refine JO (σ:=Int) (I:=λv=>(v = -1/\JbO o j0 a=false)\/∃j:Nat,v=j/\j<t.nodes.length/\JbO o j0 a=JbO o j a) (inv:=λv=>gp [(0,.rptr (tRw t)),(0,.int .i64 v),(0,.int .i64 (a:Int))] 21) (hp:=λ_=>[]) (μ:=λv=>if v<0 then 0 else t.nodes.length-v.toNat+1) (j0:Int) (.inr ⟨j0,rfl,UU,rfl⟩) ?_ rfl ?_
 ·simp[forget,gp]
 ·rintro v (⟨rfl,hb⟩|⟨j,rfl,hj,hb⟩)
  ·have e1:(((-1:Int)) != -1)=false:=vk
   have e2:((-1:Int) == (a:Int))=false:=beq_eq_false_iff_ne.2 om;simp only[go_sem,e1,e2,hb]
  ·have e1:((j:Int) != -1)=true:=bne_iff_ne.2 om;by_cases he:j=a
   ·subst he;have e2:((j:Int) != (j:Int))=false:=sM
    have e3:((j:Int) == (j:Int))=true:=sM
    have e4:=KM.2 (Q6 g hj);simp only[go_sem,e1,e2,e3,hb,e4]
   ·have e2:((j:Int) != (a:Int))=true:=bne_iff_ne.2 om;have hp:=par_rng g hj;have hu:=blw_up g hj ha he;simp only[go_sem,e1,e2,tRw,QP,upz hj];refine⟨om,Kg t j,?_,?_,?_⟩
    ·rcases Q0 g hj with ⟨h,_⟩|⟨m,h,h1,h2,_⟩
     ·rw[h,if_pos vk]at hu;exact .inl ⟨h,by rw[hb,hu]⟩
     ·rw[h,iN7,Gl]at hu;exact .inr ⟨m,h,h2,by rw[hb,hu]⟩
    ·rcases Q0 g hj with ⟨h,_⟩|⟨m,h,h1,h2,_⟩
     ·show (if Kg t j<0 then 0 else _)<(if (j:Int)<0 then 0 else _);rw[h,if_pos vk,iN7];omega
     ·rw[h,iN7,iN7];omega
    ·simp[forget]
theorem lastz(hm:m<t.nodes.length)(Ad:0<(nd t m).kids.length):(iz (nd t m).kids).getD ((nd t m).kids.length-1) []=[.int .i64 (Jh t m:Int)]:=by
 rw[JL om];have h4:(nd t m).kids.getD ((nd t m).kids.length-1) 0∈(nd t m).kids:=by rw[Gm,Gp om];exact Gw _
 have h5:=(g.kid hm h4).1;have:((Jh t m:Nat):Int)=(nd t m).kids.getD ((nd t m).kids.length-1) 0:=by unfold Jh;omega
 rw[this]
theorem nLate (ht:t.Fit){s:Nat}(hs:s<t.nodes.length)(hk:(nd t s).k=41)(DF:blw o a0 (Jh t s)):Fn Gc 178 [.rptr (tRw t),.int .i64 (a0:Int),.int .i64 (s:Int)] (.bool (buL t (upL t (Jh t s) t.nodes.length a0) false)):=by
 have Bl:=(set_kid g hs hk).1;have CK:Jh t s<t.nodes.length:=by have:=(JC g hs Bl).2;omega
 generalize hR:buL t (upL t (Jh t s) t.nodes.length a0) false=R;refine Jc c178_ok rfl rfl λN=>?_
 simp only[c178,go_sem];refine JO (σ:=Nat×Bool) (I:=λs'=>blw o s'.1 (Jh t s)/\∃f,t.nodes.length<=s'.1+f/\R=buL t (upL t (Jh t s) f s'.1) s'.2) (inv:=λs'=>gp [(0,.rptr (tRw t)),(1,.int .i64 (s:Int)),(4,.bool s'.2),(0,.int .i64 (s'.1:Int))] 64) (hp:=λ_=>[]) (μ:=λs'=>t.nodes.length-s'.1) (a0,false) ⟨DF,t.nodes.length,om,hR.symm⟩ ?_ rfl ?_
 ·simp[forget,gp]
 ·rintro⟨a,late⟩ ⟨hb,f,hf,Aa⟩
  dsimp only at hb hf Aa
  have ha:a<t.nodes.length:=by have:=hb.1;omega
  rcases late_step g (late:=late) hs Bl hb hf with ⟨he,hp⟩|⟨Ag,m,f',hp,lh,Fx,hm,MI,Cf,bE,Az⟩
  ·have e1:((s:Int) != (s:Int))=false:=sM
   subst he;rw[late_end]at Aa;simp only[go_sem,tRw,QP,upz ha,hp,e1,Aa];omega
  ·have e1:((m:Int) != (s:Int))=true:=bne_iff_ne.2 om;have hg:=J7 hm;rw[Az]at Aa;have Ad:0<(nd t m).kids.length:=Ha Cf;have Aw:(iz (nd t m).kids).length=(nd t m).kids.length:=Jf;have A7:=lastz g hm Ad;have BL:(nd t m).kids.length<9223372036854775807:=by have:=(JfK ht hm).kidn;omega
   simp only[go_sem,tRw,QP,upz ha,hp,e1,Jb,hg,Nd.cv];refine⟨om,om,om,?_⟩;refine Kk (nKind t hm) ?_;have fin:∀late',late'=Jbk t m a late->(blw o m (Jh t s)/\∃f,t.nodes.length<=m+f/\R=buL t (upL t (Jh t s) f m) late'):=λlate' h=>⟨MI,f',bE,by rw[h];exact Aa⟩
   have en:=Jej (Jh t m) a;by_cases h4:(nd t m).k=4
   ·have Al:Jbk t m a late=true:=by unfold Jbk;rw[if_pos h4]
    simp only[go_sem,kbE,h4,QP,upz ha,hp];refine⟨om,(m,true),fin true Al.symm,by simp only;omega,?_⟩;simp[forget]
   ·have b4:((nd t m).k == 4)=false:=beq_eq_false_iff_ne.2 h4;by_cases h5:(nd t m).k=46\/(nd t m).k=47
    ·have Al:Jbk t m a late=(late || a == Jh t m):=by unfold Jbk;rw[if_neg h4,if_pos h5]
     have b5:((nd t m).k == 46)=true\/((nd t m).k == 46)=false/\((nd t m).k == 47)=true:=by rcases h5 with h|h <;> simp[h]
     rcases b5 with b5|⟨b5,b6⟩
     ·cases late with
      |true=>simp only[go_sem,kbE,b4,b5,QP,upz ha,hp];refine⟨om,(m,true),fin true (by rw[Al];rfl),by simp only;omega,?_⟩;simp[forget]
      |false=>simp only[go_sem,kbE,b4,b5,QP,upz ha,hp,Aw,A7,en];refine⟨Ji,om,om,(m,a == Jh t m),fin _ (by rw[Al];rfl),by simp only;omega,?_⟩;simp[forget]
     ·cases late with
      |true=>simp only[go_sem,kbE,b4,b5,b6,QP,upz ha,hp];refine⟨om,(m,true),fin true (by rw[Al];rfl),by simp only;omega,?_⟩;simp[forget]
      |false=>simp only[go_sem,kbE,b4,b5,b6,QP,upz ha,hp,Aw,A7,en];refine⟨Ji,om,om,(m,a == Jh t m),fin _ (by rw[Al];rfl),by simp only;omega,?_⟩;simp[forget]
    ·have b5:((nd t m).k == 46)=false:=beq_eq_false_iff_ne.2 λh=>h5 (.inl h)
     have b6:((nd t m).k == 47)=false:=beq_eq_false_iff_ne.2 λh=>h5 (.inr h)
     by_cases h7:(nd t m).k=28
     ·have b7:((nd t m).k == 28)=true:=by simp[h7]
      have Al:Jbk t m a late=(late && (nd t a).k == 43):=by unfold Jbk;rw[if_neg h4,if_neg h5,if_pos h7]
      cases late with
      |true=>simp only[go_sem,kbE,b4,b5,b6,b7];refine Kt (gok rfl) (nInside t ha) ?_;simp only[go_sem,QP,upz ha,hp,Bool.not_not];refine⟨om,(m,(nd t a).k == 43),fin _ (by rw[Al];rfl),by simp only;omega,?_⟩;simp[forget]
      |false=>simp only[go_sem,kbE,b4,b5,b6,b7,QP,upz ha,hp];refine⟨om,(m,false),fin _ (by rw[Al];rfl),by simp only;omega,?_⟩;simp[forget]
     ·have b7:((nd t m).k == 28)=false:=beq_eq_false_iff_ne.2 h7;have Al:Jbk t m a late=late:=by unfold Jbk;rw[if_neg h4,if_neg h5,if_neg h7]
      simp only[go_sem,kbE,b4,b5,b6,b7,QP,upz ha,hp];refine⟨om,(m,late),fin _ Al.symm,by simp only;omega,?_⟩;simp[forget]
end
theorem kidsK_take(h:i<(nd t u).kids.length):((nd t u).kids.take (i+1)).filter (λc=>Jo t.nodes c == k)=((nd t u).kids.take i).filter (λc=>Jo t.nodes c == k)++if Jo t.nodes ((nd t u).kids.getD i 0) == k then [(nd t u).kids.getD i 0] else []:=by rw[GZ h,Hz,Gm,Gp h,Option.getD_some,H5,H9]
theorem kids_len_le:(((nd t u).kids.take i).filter (λc=>Jo t.nodes c == k)).length<=(nd t u).kids.length:=GK (Gz _ _) (by rw[G6];omega)
theorem nKids (t:Tr)(ht:t.Fit)(hu:u<t.nodes.length)(hK:∀k∈(nd t u).kids,0<=k/\k<t.nodes.length)(k:Nat):Jeo Gc 132 [.rptr (tRw t),.int .i64 (u:Int),.int .u8 (k:Int)] 1 (iz (XF t u k)):=by
 have hg:=J7 hu;have BL:=(JfK ht hu).kidn;have Aw:(iz (nd t u).kids).length=(nd t u).kids.length:=Jf;refine JeF (J8 c132_ok λN=>?_) rfl (Jd _);simp only[c132,go_sem,tRw,Jb,hg,Nd.cv,Aw];refine anO ?_;refine XJ ?_;simp only[go_sem,GA];generalize hF:(λc=>Jo t.nodes c == k)=F;refine Js (I:=λi:Nat=>i<=(nd t u).kids.length) (inv:=λi=>gp [(0,.rptr (tRw t)),(1,.int .u8 (k:Int)),(3,JW 0 (iz (((nd t u).kids.take i).filter F))),(10,.rslc 1 (iz (nd t u).kids) none),(0,.int .i64 ((nd t u).kids.length:Int)),(0,.int .i64 (i:Int))] 14) (hp:=λi=>[KT 1 (iz (((nd t u).kids.take i).filter F))]) (μ:=λi=>(nd t u).kids.length-i) 0 [0] om rfl ?_ rfl ?_
 ·simp[forget,JB,ren,gp,tRw,iz,JW]
 ·intro i hi;by_cases Ab:i<(nd t u).kids.length
  ·have d1:=dtT i (nd t u).kids.length;have AA:=JL Ab;have Cr:=kidsK_take (k:=k) Ab;have Bd:=kids_len_le (t:=t) (u:=u) (k:=k) (i:=i);have Ap:(nd t u).kids.getD i 0∈(nd t u).kids:=by rw[Gm,Gp Ab];exact Gw Ab
   have hb:=hK _ Ap;rw[hF]at Cr Bd;generalize (nd t u).kids.getD i 0=c at Cr AA hb;obtain⟨c,rfl⟩:∃c':Nat,c=c':=⟨c.toNat,om⟩;generalize ((nd t u).kids.take i).filter F=acc at Cr Bd;simp only[go_sem,d1,Aw,AA];refine anO ?_;refine Kk (nKind t om) ?_;have en:=Jej k (nd t c).k;have ek:Jo t.nodes (c:Int)=(nd t c).k:=by unfold Jo nd;rw[Gl]
   rw[ek]at Cr
   cases hq:(nd t c).k == k with
   |false=>
    rw[hq]at Cr en;simp only[Bool.false_eq_true,if_false,Gq]at Cr;simp only[go_sem,en];refine⟨Ji,i+1,[0],om,om,rfl,?_,?_⟩
    ·rw[Cr];simp only[Ko,Gb,Gd,go_sem,JG (Ja (Jd acc))]
    ·rw[Cr];simp[forget,JB,ren,Jm,tRw,JS]
   |true=>
    rw[hq]at Cr en;simp only[if_true]at Cr;simp only[go_sem,en,Jf,Jw];refine⟨⟨om,om⟩,Ji,i+1,[2],om,om,rfl,?_,?_⟩
    ·rw[Cr,KR,Kn];simp only[Ko,Gb,Gd,go_sem,Jj];simp[Ja (Jd acc),JB,ren]
    ·rw[Cr,KR,Km];simp[forget,JB,ren,Jm,tRw,Jf]
  ·have d1:=dfF i (nd t u).kids.length;rw[Gu om];rw[show (nd t u).kids.filter F=XF t u k by rw[<-hF];rfl];simp only[go_sem,d1];exact⟨0,rfl,rfl⟩
theorem JfN{bytes id:Nat}:Qg z bytes H (JW id els) []=some (.tt,JW id els,H):=by cases els <;> rfl
attribute [go_sem] JfN
theorem XN:iz []=[]:=rfl
theorem Kz:iz (x::l)=[.int .i64 x]::iz l:=rfl
theorem Qe {a b:Lu}:iz (a++b)=iz a++iz b:=by simp[iz]
theorem JfJ {f:Int->Lu}{b:Nat}(h:∀x,(f x).length<=b):∀l:Lu,((l.map f).flatten).length<=l.length*b
 |[]=>sM
 |x::l=>by have h1:=h x;have h2:=JfJ h l;simp only[Gb,List.flatten_cons,Gv,Gg,Ho,Hm];omega
theorem kidsK_len:(XF t u k).length<=(nd t u).kids.length:=Gz _ _
theorem flat_take {f:Int->Lu}(h:i<l.length):((l.take (i+1)).map f).flatten=((l.take i).map f).flatten++f (l.getD i 0):=by rw[GZ h,H7,List.flatten_append,Gm,Gp h];simp
theorem kidsK_rng(g:GoodT t o)(hu:u<t.nodes.length){c:Int}(hc:c∈XF t u k):0<=c/\c<t.nodes.length:=by have:=g.kid hu (QB.1 hc).1;omega
theorem JaV(ht:t.Fit):(XF t x.toNat k).length<=30:=by
 rcases Nat.lt_or_ge x.toNat t.nodes.length with h|h
 ·exact GK kidsK_len (JfK ht h).kidn
 ·have:nd t x.toNat=default:=by unfold nd;rw[Gm,List.getElem?_eq_none h];rfl
  refine GK kidsK_len ?_;rw[this];exact Nat.zero_le _
theorem binds_le(ht:t.Fit):(JaH t u).length<=900:=by have h1:=JfJ (f:=λs:Int=>XF t s.toNat 42) (b:=30) (λx=>JaV ht) (XF t u 41);have h2:=JaV ht (x:=(u:Int)) (k:=41);rw[Gl]at h2;unfold JaH;omega
section
variable(g:GoodT t o)(ht:t.Fit)
include g ht
theorem nKidsG(hu:u<t.nodes.length)(k:Nat):Jeo Gc 132 [.rptr (tRw t),.int .i64 (u:Int),.int .u8 (k:Int)] 1 (iz (XF t u k)):=nKids t ht hu (λc hc=>by have:=g.kid hu hc;omega) k
theorem nKidsF(hu:u<t.nodes.length)(k:Nat):Fn Gc 132 [.rptr (tRw t),.int .i64 (u:Int),.int .u8 (k:Int)] (.rslc 1 (iz (XF t u k)) none):=(nKidsG g ht hu k).fn rfl (Jd _)
theorem nBinds(hu:u<t.nodes.length):Jeo Gc 203 [.rptr (tRw t),.int .i64 (u:Int)] 1 (iz (JaH t u)):=by
 have hL:=JaV ht (x:=(u:Int)) (k:=41);rw[Gl]at hL;refine JeF (J8 c203_ok λN=>?_) rfl (Jd _);simp only[c203,go_sem];refine Kk (nKidsF g ht hu 41) ?_;have Be:JaH t u=((XF t u 41).map λs=>XF t s.toNat 42).flatten:=rfl;rw[Be];have hr:∀c∈XF t u 41,0<=c/\c<t.nodes.length:=λc hc=>kidsK_rng g hu hc
 generalize XF t u 41=L at hL hr|-;have Aj:(iz L).length=L.length:=Jf;simp only[go_sem,Aj];refine XJ ?_;simp only[go_sem,GA];generalize hf:(λs:Int=>XF t s.toNat 42)=f;have FQ:∀x,(f x).length<=30:=λx=>by rw[<-hf];exact JaV ht
 refine Js (I:=λi:Nat=>i<=L.length) (inv:=λi=>gp [(0,.rptr (tRw t)),(3,JW 0 (iz ((L.take i).map f).flatten)),(4,.rslc 1 (iz L) none),(0,.int .i64 (L.length:Int)),(0,.int .i64 (i:Int))] 10) (hp:=λi=>[KT 1 (iz ((L.take i).map f).flatten)]) (μ:=λi=>L.length-i) 0 [0] om rfl ?_ rfl ?_
 ·simp[forget,JB,ren,gp,JW,iz]
 ·intro i hi;by_cases Ab:i<L.length
  ·have d1:=dtT i L.length;have AA:=JL Ab;have Ap:L.getD i 0∈L:=by rw[Gm,Gp Ab];exact Gw Ab
   have hb:=hr _ Ap;have EE:=flat_take (f:=f) Ab;have OE:f (L.getD i 0)=XF t (L.getD i 0).toNat 42:=by rw[<-hf]
   have SQ:=FQ (L.getD i 0);have Cj:=JfJ FQ (L.take i);rw[G6]at Cj;generalize ((L.take i).map f).flatten=acc at Cj EE|-;generalize f (L.getD i 0)=xs at OE SQ EE;generalize L.getD i 0=c at AA hb OE;obtain⟨c,rfl⟩:∃c':Nat,c=c':=⟨c.toNat,om⟩;rw[Gl]at OE;simp only[go_sem,d1,Aj,AA];refine anO ?_;refine Kk (nKidsF g ht om 42) ?_;rw[<-OE]
   cases xs with
   |nil=>
    rw[Gq]at EE;simp only[go_sem,XN];refine⟨Ji,i+1,[0],om,om,rfl,?_,?_⟩
    ·rw[EE];simp only[Ko,Gb,Gd,go_sem,JG (Ja (Jd acc))]
    ·rw[EE];simp[forget,JB,ren,Jm,JS]
   |cons x xs=>
    simp only[Gg]at SQ;simp only[go_sem,Kz,Jf,Jw];refine⟨⟨om,om⟩,Ji,i+1,[1],om,om,rfl,?_,?_⟩
    ·rw[EE,Qe,Kz,Kn];simp only[Ko,Gb,Gd,go_sem,Jj];simp[Ja (Jd acc),Ja (Jd xs),JB,ren]
    ·rw[EE,Qe,Kz,Km];simp[forget,JB,ren,Jm,Jf]
  ·have d1:=dfF i L.length;rw[Gu om];simp only[go_sem,d1];exact⟨0,rfl,rfl⟩
end
theorem CallsC.pad{args:Ls}{R R':CV->Lt->Prop}(h:CallsC P E f args H R)(hR:∀v H',R v H'->R' v H'\/R' v (H'++[.dead])):CallsC P E f args H R':=by
 intro m w vs hs hv;refine(h m w vs hs hv).mono ?_;rintro e w' ⟨r,m',v,H',h1,h2,h3,h4,h5⟩;rcases hR _ _ h5 with g|g
 ·exact⟨r,m',v,H',h1,h2,h3,h4,g⟩
 ·obtain⟨t1,t2,t3⟩:=h3.pad (n0:=H.length);exact⟨r,_,v,_,h1,h2.trans t3,t1,XB t2 (KN.refl _) _ _ h4,g⟩
def RowR (z:Nat)(els:LM)(v:CV)(H':Lt):Prop:=(∃id,v=JW id els/\H'[id]? = some (KT z els))\/(v=.nils/\els=[])\/∃id c,v=.slc id 0 els.length (some c)/\H'[id]? = some (.arr z els)/\els≠[]
theorem RowR.row{id:Nat}{v:CV}(h1:v=JW id els)(h2:H'[id]? = some (KT z els)):RowR z els v H':=.inl ⟨id,h1,h2⟩
theorem RowR.nil:RowR z [] .nils H':=.inr (.inl ⟨rfl,rfl⟩)
theorem RowR.lit{id c:Nat}{e:Ls}(h2:H'[id]? = some (.arr z (e::els))):RowR z (e::els) (.slc id 0 (els.length+1) (some c)) H':=.inr (.inr ⟨id,c,rfl,h2,sM⟩)
theorem JfG{args:Ls}(h:CallsC P Env.none f args [] (RowR z els))(ha:Jp args=true)(hc:Jq els=true):Jeo P f args z els:=
 JeF ((h.wk (R':=λv H'=>(∃id,v=JW id els/\H'[id]? = some (KT z els))\/(v=.nils/\els=[])) λv H' hv=>by
  rcases hv with hv|hv|⟨id,c,rfl,h2,h3⟩
  ·exact⟨v,wk.refl _,.inl hv⟩
  ·exact⟨v,wk.refl _,.inr hv⟩
  ·exact⟨_,wk_cap,.inl ⟨id,(Xb h3).symm,by rw[QX h3];exact h2⟩⟩).pad λv H' hv=>by
  rcases hv with hv|⟨rfl,rfl⟩
  ·exact .inl hv
  ·exact .inr ⟨H'.length,rfl,by simp;rfl⟩) ha hc
section
variable(g:GoodT t o)(ht:t.Fit)
include g ht
theorem nDeclares(hu:u<t.nodes.length)(ha:a<t.nodes.length):Jeo Gc 174 [.rptr (tRw t),.int .i64 (u:Int),.int .i64 (a:Int)] 1 (iz (Jcj t u a)):=by
 have hg:=J7 hu;have Aw:(iz (nd t u).kids).length=(nd t u).kids.length:=Jf;have bu:=dtT u t.nodes.length;refine JfG (J8 c174_ok λN=>?_) rfl (Jd _);unfold Jcj;by_cases D8:(nd t u).k=40
 ·rw[if_pos D8];simp only[c174,go_sem,tRw,Jb,hg,Nd.cv,kbE,D8];refine anO ?_;refine Jgp (.inl rfl) (nBinds g ht hu) ?_;simp only[go_sem];exact .row (id:=1) rfl rfl
 have b40:((nd t u).k == 40)=false:=beq_eq_false_iff_ne.2 D8;rw[if_neg D8];by_cases BI:(nd t u).k=65
 ·rw[if_pos BI];simp only[c174,go_sem,tRw,Jb,hg,Nd.cv,kbE,BI];refine anO ?_;refine Jgp (.inl rfl) (nKidsG g ht hu 64) ?_;simp only[go_sem];exact .row (id:=1) rfl rfl
 have b65:((nd t u).k == 65)=false:=beq_eq_false_iff_ne.2 BI;rw[if_neg BI];by_cases Bp:(nd t u).k=47
 ·rw[if_pos Bp];have Ad:(nd t u).kids.length=3:=(Jbm g hu Bp).1;have OD:=JL (l:=(nd t u).kids) (i:=2) om;by_cases he:(a:Int)=(nd t u).kids.getD 2 0
  ·have e1:((a:Int) == (nd t u).kids.getD 2 0)=true:=beq_iff_eq.2 he;rw[if_pos he];simp only[c174,go_sem,tRw,Jb,hg,Nd.cv,kbE,Bp,Aw,Ad,OD,e1];exact⟨om,om,.lit rfl⟩
  ·have e1:((a:Int) == (nd t u).kids.getD 2 0)=false:=beq_eq_false_iff_ne.2 he;rw[if_neg he];simp only[c174,go_sem,tRw,Jb,hg,Nd.cv,kbE,Bp,Aw,Ad,OD,e1];exact⟨om,om,.nil⟩
 have b47:((nd t u).k == 47)=false:=beq_eq_false_iff_ne.2 Bp;rw[if_neg Bp];by_cases DI:(nd t u).k=28
 ·rw[if_pos DI];simp only[c174,go_sem,tRw,Jb,hg,Nd.cv,kbE,DI];refine anO ?_;refine Kk (nKind t ha) ?_;by_cases Cq:(nd t a).k=43
  ·rw[if_pos Cq];simp only[go_sem,kbE,Cq];exact .nil
  have b43:((nd t a).k == 43)=false:=beq_eq_false_iff_ne.2 Cq;rw[if_neg Cq];by_cases AQ:(nd t a).k=41\/(nd t a).k=44
  ·rw[if_pos AQ];have hK:=JaV ht (x:=(u:Int)) (k:=43);rw[Gl]at hK;have hB:=binds_le ht (u:=u);have b41:((nd t a).k == 41)=true\/((nd t a).k == 41)=false/\((nd t a).k == 44)=true:=by rcases AQ with h|h <;> simp[h]
   rcases b41 with b41|⟨b41,b44⟩
   ·simp only[go_sem,kbE,b43,b41];refine Jgp (.inl rfl) (nKidsG g ht hu 43) ?_;simp only[go_sem];refine Kk ((nBinds g ht hu).fn rfl (Jd _)) ?_;generalize XF t u 43=L at hK|-;generalize JaH t u=M at hB|-
    cases M with
    |nil=>simp only[go_sem,XN,Gq];exact .row (id:=1) rfl rfl
    |cons x xs=>simp only[Gg]at hB;simp only[go_sem,Kz,Jf,Jw];refine⟨⟨om,om⟩,.row (id:=2) (by rw[Qe,Kz,Km,Jf,Jf]) (by rw[Qe,Kz,Kn];rfl)⟩
   ·simp only[go_sem,kbE,b43,b41,b44];refine Jgp (.inl rfl) (nKidsG g ht hu 43) ?_;simp only[go_sem];refine Kk ((nBinds g ht hu).fn rfl (Jd _)) ?_;generalize XF t u 43=L at hK|-;generalize JaH t u=M at hB|-
    cases M with
    |nil=>simp only[go_sem,XN,Gq];exact .row (id:=1) rfl rfl
    |cons x xs=>simp only[Gg]at hB;simp only[go_sem,Kz,Jf,Jw];refine⟨⟨om,om⟩,.row (id:=2) (by rw[Qe,Kz,Km,Jf,Jf]) (by rw[Qe,Kz,Kn];rfl)⟩
  ·have b41:((nd t a).k == 41)=false:=beq_eq_false_iff_ne.2 λh=>AQ (.inl h)
   have b44:((nd t a).k == 44)=false:=beq_eq_false_iff_ne.2 λh=>AQ (.inr h)
   rw[if_neg AQ];simp only[go_sem,kbE,b43,b41,b44];refine Jgp (.inl rfl) (nKidsG g ht hu 43) ?_;simp only[go_sem];exact .row (id:=1) rfl rfl
 have b28:((nd t u).k == 28)=false:=beq_eq_false_iff_ne.2 DI;rw[if_neg DI];simp only[c174,go_sem,tRw,Jb,hg,Nd.cv,kbE,b40,b65,b47,b28];exact⟨om,.nil⟩
omit g in
theorem decl_le:(Jcj t u a).length<=1000:=by
 have hB:=binds_le ht (u:=u);have hK:∀k,(XF t u k).length<=30:=λk=>by
  have:=JaV ht (x:=(u:Int)) (k:=k)
  rwa [Gl]at this
 have h1:=hK 64;have h2:=hK 43;unfold Jcj
 repeat' split
 all_goals first|omega|simp only[Gv,Gg,Gt];omega
omit ht in
theorem sight_sort {j:Nat}(hj:j<t.nodes.length):(Yt t t.nodes.length j).mergeSort (λx y=>decide (x<=y))=Qz t j:=by
 refine asc_eq (sort_strict (climb_nodup g _ _ hj)) (JeM.filter _) λx=>?_
 unfold Qz;rw[sort_mem,GX,List.contains_iff_mem]
 constructor
 ·intro h;have:=climb_who g _ _ _ hj h;exact⟨Kh.2 ⟨this.1,this.2.1⟩,h⟩
 ·exact λh=>h.2
theorem nSight {j:Nat}(hj:j<t.nodes.length):Fn Gc 131 [.rptr (tRw t),.int .i64 (j:Int)] (.rslc 1 (iz (Qz t j)) none):=by
 have Ah:=g.many;rw[<-sight_sort g hj];refine Jg7 (J8 c131_ok λN=>?_) rfl (Jd _);simp only[c131,go_sem];refine XJ ?_;simp only[go_sem,GA];generalize hC:Yt t t.nodes.length j=C;refine Js (σ:=Nat×Nat×Lu) (I:=λs=>s.2.1<t.nodes.length/\t.nodes.length<=s.2.1+s.1/\s.2.2++Yt t s.1 s.2.1=C/\s.2.2.length+1000*s.1<=1000*t.nodes.length) (inv:=λs=>gp [(0,.rptr (tRw t)),(3,JW 0 (iz s.2.2)),(0,.int .i64 (s.2.1:Int))] 31) (hp:=λs=>[KT 1 (iz s.2.2)]) (μ:=λs=>t.nodes.length-s.2.1) (t.nodes.length,j,[]) [0] ⟨hj,by simp only;omega,by simp[hC],sM⟩ rfl ?_ rfl ?_
 ·simp[forget,JB,ren,gp,JW,iz]
 ·rintro⟨f,a,acc⟩ ⟨ha,hf,Cj,Ad⟩
  dsimp only at ha hf Cj Ad
  obtain⟨f,rfl⟩:∃f',f=f' + 1:=⟨f-1,om⟩;rw[Yt]at Cj;rcases Q0 g ha with ⟨hp,_⟩|⟨m,hp,Fx,hm,_⟩
  ·have e1:((-1:Int) != -1)=false:=vk
   rw[hp,if_pos vk,Gq]at Cj;simp only[go_sem,tRw,QP,upz ha,hp,e1];refine anO ?_
   cases acc with
   |nil=>rw[<-Cj];simp only[go_sem,XN,XA];refine Kk sortNil ?_;simp only[go_sem,Hy,XN,XA,YB];exact⟨0,rfl⟩
   |cons x xs=>
    rw[<-Cj];simp only[Gg]at Ad;have Ag:(x::xs).mergeSort (λx y=>decide (x<=y))≠[]:=by intro e;have:=congrArg Lc e;rw[Hd]at this;simp at this
    have Ec:(iz ((x::xs).mergeSort λx y=>decide (x<=y)))≠[]:=by simpa [iz]using Ag
    simp only[go_sem,Kz,Yk,Jbq,Jf];refine Ky (.inl rfl) (sortRow (l:=x::xs) sM (by simp only[Gg];omega) rfl) λv H' ⟨h1,h2⟩=>?_
    subst h1 h2;simp only[go_sem];refine⟨0,by rw[Xb Ec,Jf,Hd];rfl,by rw[QX Ec];rfl⟩
  ·have e1:((m:Int) != -1)=true:=bne_iff_ne.2 om;rw[hp,iN7,Gl,<-List.append_assoc]at Cj;have Bh:=decl_le ht (u:=m) (a:=a);simp only[go_sem,tRw,QP,upz ha,hp,e1];refine⟨om,om,?_⟩;refine Kk ((nDeclares g ht hm ha).fn rfl (Jd _)) ?_;generalize Jcj t m a=xs at Cj Bh|-
   cases xs with
   |nil=>
    rw[Gq]at Cj;simp only[go_sem,QP,upz ha,hp,XN];refine⟨om,(f,m,acc),[0],⟨hm,by simp only;omega,Cj,by simp only;omega⟩,by simp only;omega,rfl,?_,?_⟩
    ·simp only[Ko,Gb,Gd,go_sem,JG (Ja (Jd acc))]
    ·simp[forget,JB,ren,Jm,JS]
   |cons x xs=>
    simp only[Gg]at Bh;simp only[go_sem,upz ha,hp,Kz,Jf,JeR,Jw];refine⟨⟨om,om⟩,om,(f,m,acc++x::xs),[1],⟨hm,by simp only;omega,Cj,by simp only[Gv,Gg];omega⟩,by simp only;omega,rfl,?_,?_⟩
    ·rw[Qe,Kz,Kn];simp only[Ko,Gb,Gd,go_sem,Jj];simp[Ja (Jd acc),Ja (Jd xs),JB,ren]
    ·rw[Qe,Kz,Km];simp[forget,JB,ren,Jm,Jf]
end
theorem fixA_find:∀(l:Lu) (i:Nat),(X8 q l i = -1/\l.find? q=none)\/∃j,j<l.length/\X8 q l i=((i+j:Nat):Int)/\l.find? q=some (l.getD j 0)
 |[],i=>.inl ⟨rfl,rfl⟩
 |x::l,i=>by
  rw[X8,GH]
  cases hq:q x with
  |true=>exact .inr ⟨0,sM,sM,sM⟩
  |false=>
   rcases fixA_find l (i+1) with ⟨h1,h2⟩|⟨j,h1,h2,h3⟩
   ·exact .inl ⟨by simpa using h1,h2⟩
   ·exact .inr ⟨j+1,by simpa using h1,by simp[h2];omega,by simpa using h3⟩
theorem indexFI(l:Lu)(q:Int->Bool)(cap:Option Nat)(hF:Jg Gc f=some F)(CR:Jp l1=true)(BU:Jp l2=true)
  (hq:∀p∈l,Fn Gc f (l1++[.int .i64 p]++l2) (.bool (q p))) (Ad:l.length<=1000000):Fn Gc 41 [.rslc 1 (iz l) cap,.fn f l1 l2] (.int .i64 (X8 q l 0)):=by
 have Aj:(iz l).length=l.length:=Jf;refine Jc c41_ok (by simp[Jp,CV.closed,CR,BU]) rfl λN=>?_
 simp only[c41,go_sem,Aj];refine JO (I:=λi:Nat=>i<=l.length/\X8 q l 0=X8 q (l.drop i) i) (inv:=λi=>gp [(0,.rslc 1 (iz l) cap),(0,.fn f l1 l2),(5,.int .i64 l.length),(0,.int .i64 i)] 10) (hp:=λ_=>[]) (μ:=λi=>l.length-i) 0 ⟨om,rfl⟩ ?_ rfl ?_
 ·simp[forget,gp]
 ·rintro i ⟨hi,Aa⟩;by_cases Ab:i<l.length
  ·have d1:=dtT i l.length;have AA:=JL Ab;have Cn:l[i]? = some (l.getD i 0):=by rw[Gm,Gp Ab];rfl
   have hm:l.getD i 0∈l:=Hu Cn;rw[Xx Cn]at Aa;simp only[go_sem,Aj,d1,AA];refine anO ?_;refine vr_fv (.inl rfl) rfl hF (Jc0 pNames _) (hq _ hm) ?_
   cases hb:q (l.getD i 0) with
   |true=>rw[hb,if_pos rfl]at Aa;simp only[go_sem,Aa]
   |false=>rw[hb]at Aa;simp only[go_sem];refine⟨Ji,i+1,⟨om,by simpa using Aa⟩,om,?_⟩;simp[forget]
  ·have d1:=dfF i l.length;rw[Gs om]at Aa;simp only[go_sem,d1,Aa,X8]
theorem nNamed1 (t:Tr)(s:Lv)(hi:i<t.nodes.length):Fn Gc 173 [.int .i64 (i:Int),.rptr [.rptr (tRw t)],.rptr [S s]] (.bool ((nd t i).text == s)):=by
 have hg:=J7 hi;refine Jc c173_ok rfl rfl λN=>?_
 simp only[c173,go_sem];refine J3 Jr vk ?_;simp only[go_sem,tRw,Jb,hg,Nd.cv];omega
theorem nNamed (t:Tr)(s:Lv)(l:Lu)(hl:∀d∈l,0<=d/\d<t.nodes.length)(Ad:l.length<=1000000):Fn Gc 130 [.rptr (tRw t),.rslc 1 (iz l) none,S s] (.int .i64 (Jac t l s)):=by
 have Aj:(iz l).length=l.length:=Jf;unfold Jac;generalize hq:(λd:Int=>(nd t d.toNat).text == s)=q;refine Jc c130_ok rfl rfl λN=>?_
 simp only[c130,go_sem];refine Je (id:=0) (z:=1) (els:=[[.rptr (tRw t)]]) rfl rfl ?_;simp only[go_sem,JV,Kv,frz,Qj,Gf];refine Je (id:=1) (z:=1) (els:=[[S s]]) rfl rfl ?_;simp only[go_sem,JV,Kv,frz,Qj,Gf];refine Kk (indexFI l q none c173_ok rfl rfl (λp hp=>?_) Ad) ?_
 ·have hb:=hl p hp;obtain⟨p,rfl⟩:∃p':Nat,p=p':=⟨p.toNat,om⟩;have h:=nNamed1 t s (i:=p) om;rw[<-hq];simpa only[GA,G7,Gl]using h
 ·rcases fixA_find (q:=q) l 0 with ⟨h1,h2⟩|⟨j,h1,h2,h3⟩
  ·have e1:((-1:Int)<0)=True:=KQ;simp only[go_sem,h1,h2,e1]
  ·rw[GN]at h2;have e1:((j:Int)<0)=False:=Kq;have BG:=JL h1;simp only[go_sem,h2,h3,e1,Aj,BG];omega
section
variable(g:GoodT t o)(ht:t.Fit)
include g ht
theorem nMeaning(hi:i<t.nodes.length):Fn Gc 82 [.rptr (tRw t),.int .i64 (i:Int)] (.tup [.int .i64 (JD t o i),.bool (JN t i)]):=by
 have hg:=J7 hi;have Ah:=g.many;have bf:=ht.items;refine Jc c82_ok rfl rfl λN=>?_
 unfold JD JN;by_cases h3:(nd t i).k=3
 ·have hm:=JaR g hi om;have hs:∀d∈Qz t i,0<=d/\d<t.nodes.length:=λd hd=>Kh.1 (GX.1 hd).1
  have CL:(Qz t i).length<=1000000:=by
   have:=Gz (λd=>(Yt t t.nodes.length i).contains d) (Qk t);unfold Qz;have h2:(Qk t).length=t.nodes.length:=by simp[Qk]
   omega
  have hN:=nNamed t (nd t i).text (Qz t i) hs CL;rw[hm]at hN;simp only[c82,go_sem,tRw,Jb,hg,Nd.cv,kbE,h3];refine anO ?_;refine Je (id:=0) (z:=5) (els:=[(nd t i).cv]) (by simp only[Nd.cv,h3];rfl) rfl ?_;simp only[go_sem,JV,Kv,frz,Qj,Gf];refine J3 Jr vk ?_;simp only[go_sem,Nd.cv];refine Kl (.inl rfl) (nSight g ht hi) ?_;simp only[go_sem];refine Kl (.inl rfl) hN ?_;simp only[go_sem]
 have b3:((nd t i).k == 3)=false:=beq_eq_false_iff_ne.2 h3;rw[if_neg h3,b3,Gr];by_cases DJ:(nd t i).k=26
 ·have hN:=nNamed t (nd t i).text t.items (λd hd=>by have:=g.itr hd;omega) om;rw[call_means g]at hN;simp only[c82,go_sem,tRw,Jb,hg,Nd.cv,kbE,DJ];refine anO ?_;refine Je (id:=0) (z:=5) (els:=[(nd t i).cv]) (by simp only[Nd.cv,DJ];rfl) rfl ?_;simp only[go_sem,JV,Kv,frz,Qj,Gf];refine J3 Jr vk ?_;simp only[go_sem,Nd.cv];refine Kl (.inl rfl) hN ?_;simp only[go_sem]
 have b26:((nd t i).k == 26)=false:=beq_eq_false_iff_ne.2 DJ;rw[if_neg DJ,b26,Gr];by_cases BC:(nd t i).k=44
 ·obtain⟨u,Oj,EN,ak,PW⟩:=Ql g hi om;have hK:=JaV ht (x:=(u:Int)) (k:=43);rw[Gl]at hK;have hN:=nNamed t (nd t i).text (XF t u 43) (λd hd=>kidsK_rng g EN hd) om;rw[next_means g EN Oj]at hN;simp only[c82,go_sem,tRw,Jb,hg,Nd.cv,kbE,BC];refine anO ?_;refine Je (id:=0) (z:=5) (els:=[(nd t i).cv]) (by simp only[Nd.cv,BC];rfl) rfl ?_;simp only[go_sem,JV,Kv,frz,Qj,Gf];refine J3 Jr vk ?_;simp only[go_sem,Nd.cv,QP,upz hi,Oj];refine anO ?_;refine Kl (.inl rfl) (nKidsF g ht EN 43) ?_;simp only[go_sem];refine Kl (.inl rfl) hN ?_;simp only[go_sem]
 have b44:((nd t i).k == 44)=false:=beq_eq_false_iff_ne.2 BC;rw[if_neg BC,b44];simp only[c82,go_sem,tRw,Jb,hg,Nd.cv,kbE,b3,b26,b44];omega
def twQ (t:Tr)(i k:Nat):Bool:=(nd t k).text == (nd t i).text && (if (nd t i).k=44 then(nd t k).k == 44 && Kg t k == Kg t i else if (nd t i).k=65 then(nd t k).k == 65 else !((nd t k).k == 65) && (KV (nd t k).k && Qn t k == Qn t i))
omit g ht in
theorem nTwice1(hi:i<t.nodes.length)(hk:k<t.nodes.length):Fn Gc 133 [.int .i64 (k:Int),.rptr [.rptr (tRw t)],.rptr (nd t i).cv,.rptr [.int .i64 (i:Int)]] (.bool (twQ t i k)):=by
 have hg:=J7 hk;refine Jc c133_ok rfl rfl λN=>?_
 unfold twQ
 cases ht:(nd t k).text == (nd t i).text with
 |false=>simp only[c133,go_sem,tRw,Jb,hg,Nd.cv,ht,Gi,Gn];omega
 |true=>
  rw[Gj];by_cases BC:(nd t i).k=44
  ·rw[if_pos BC];simp only[c133,go_sem,tRw,Jb,hg,Nd.cv,ht,kbE,BC,Gh];refine anO ?_;refine Je (id:=0) (z:=5) (els:=[(nd t k).cv]) rfl rfl ?_;simp only[go_sem,JV,Kv,frz,Qj,Gf,Nd.cv];refine J3 Jr vk ?_
   cases Bv:(nd t k).k == 44 with
   |false=>simp only[go_sem,kbE,Bv,Gn]
   |true=>simp only[go_sem,kbE,Bv,QP,upz hi,upz hk,Gj];omega
  have b44:((nd t i).k == 44)=false:=beq_eq_false_iff_ne.2 BC;rw[if_neg BC];by_cases BI:(nd t i).k=65
  ·rw[if_pos BI];simp only[c133,go_sem,tRw,Jb,hg,Nd.cv,ht,kbE,BI,Gh];omega
  have b65:((nd t i).k == 65)=false:=beq_eq_false_iff_ne.2 BI;rw[if_neg BI];simp only[c133,go_sem,tRw,Jb,hg,Nd.cv,ht,kbE,b44,b65,Gh];refine anO ?_;refine Je (id:=0) (z:=5) (els:=[(nd t k).cv]) rfl rfl ?_;simp only[go_sem,JV,Kv,frz,Qj,Gf,Nd.cv];refine J3 Jr vk ?_
  cases Bv:(nd t k).k == 65 with
  |true=>simp only[go_sem,kbN,Bv,Gh,Gn]
  |false=>
   simp only[go_sem,kbN,Bv,Gi,Gj];refine Kl (gok rfl) (nIsDecl t hk) ?_
   cases hd:KV (nd t k).k with
   |false=>simp only[go_sem,Gn]
   |true=>have en:=Jej (Qn t i) (Qn t k);simp only[go_sem,itz_len,itz hi,itz hk,en,Gj];omega
end
theorem QK(h:i<n):(Ga n).drop i=i::(Ga n).drop (i+1):=by rw[GM (by simpa using h),List.getElem_range]
theorem any_skip {q:Nat->Bool}:∀(m:Nat),m<=n->(∀i,i<m->q i=false)->(Ga n).any q=((Ga n).drop m).any q
 |0,_,_=>by rw[Gf]
 |m+1,h,hq=>by rw[any_skip m om λi hi=>hq i om,QK om,Gx,hq m om,Gr]
theorem Jbs (k:Nat):Fn Gc 97 [.int .u8 (k:Int)] (.bool (KV k)):=by
 refine Jc c97_ok rfl rfl λN=>?_
 cases h1:(k == 65) <;> cases h2:(k == 64) <;> cases h3:(k == 42) <;> cases h4:(k == 43) <;> cases h5:(k == 47) <;>
  simp only[c97,go_sem,kbE,h1,h2,h3,h4,h5,KV,GL,Hr]
theorem JhW (k:Nat):Fn Gc 57 [.int .u8 (k:Int)] (.bool (k == 3 || k == 26 || k == 44)):=by
 refine Jc c57_ok rfl rfl λN=>?_
 cases h1:(k == 3) <;> cases h2:(k == 26) <;> cases h3:(k == 44) <;>
  simp only[c57,go_sem,kbE,h1,h2,h3,GL,Hr]
theorem any_cg {q r:Nat->Bool}:∀{l:Lx},(∀x∈l,q x=r x)->l.any q=l.any r
 |[],_=>rfl
 |x::l,h=>by rw[Gx,Gx,h x sM,any_cg λy hy=>h y (by simp[hy])]
section
variable(g:GoodT t o)(ht:t.Fit)
include g ht
theorem Jaw{j:Nat}(hi:i<t.nodes.length):Fn Gc 151 [t.cv,.int .i64 (j:Int),.int .i64 (i:Int)] (.bool (JbO o j i)):=by
 have h:=refIsBelow t ht g (j:Int) i hi
 rwa [show (decide ((j:Int)<=(i:Int)) && decide (fs o i<=(j:Int)))=JbO o j i by unfold JbO;rw[decide_eq_decide.2 (Int.ofNat_le (m:=j) (n:=i))]]at h
theorem Jcm(hn:n<t.nodes.length):Fn Gc 99 [t.cv,.int .i64 (n:Int)] (.int .i64 (Kg t n)):=refParent t ht g n hn
theorem JdE(hu:u<t.nodes.length)(Ad:0<(nd t u).kids.length):Fn Gc 111 [t.cv,.int .i64 (u:Int)] (.int .i64 (Jh t u:Int)):=by
 have hg:=J7 hu;have Aw:(iz (nd t u).kids).length=(nd t u).kids.length:=Jf;have A7:=lastz g hu Ad;have BL:=(JfK ht hu).kidn;refine Jc c111_ok rfl rfl λN=>?_
 simp only[c111,go_sem,Tr.cv,Tr.row];refine Je (id:=0) (z:=2) (els:=[t.row]) rfl rfl ?_;simp only[go_sem,JV,Kv,frz,Qj];refine J3 Jr vk ?_;simp only[go_sem,Tr.row,Jb,hg,Nd.cv,Aw,A7];exact⟨om,om,Ji,om,om⟩
theorem refItemOf(hi:i<t.nodes.length):Fn Gc 100 [t.cv,.int .i64 (i:Int)] (.int .i64 (Yo t o i)):=by
 have Aj:(iz t.items).length=t.items.length:=Jf;have FN:=ht.items;unfold Yo;generalize hq:(λL:Int=>JbO o i L.toNat)=q;refine Jc c100_ok rfl rfl λN=>?_
 simp only[c100,go_sem,Tr.cv,Tr.row];refine Je (id:=0) (z:=2) (els:=[t.row]) rfl rfl ?_;simp only[go_sem,JV,Kv,frz,Qj];refine JO (I:=λk:Nat=>k<=t.items.length/\t.items.find? q=(t.items.drop k).find? q) (inv:=λk=>gp [(1,.int .i64 (i:Int)),(0,.rptr t.row),(2,.int .i64 (k:Int))] 20) (hp:=λ_=>[.dead]) (μ:=λk=>t.items.length-k) 0 ⟨om,rfl⟩ ?_ rfl ?_
 ·simp[forget,gp]
 ·rintro k ⟨hk,Aa⟩;by_cases Ab:k<t.items.length
  ·have d1:=dtT k t.items.length;have ED:=JL Ab;have Ap:t.items.getD k 0∈t.items:=by rw[Gm,Gp Ab];exact Gw Ab
   have hr:=g.itr Ap;rw[GM Ab,GH,show t.items[k]=t.items.getD k 0 by rw[Gm,Gp Ab];rfl]at Aa;generalize t.items.getD k 0=L at ED hr Aa;obtain⟨L,rfl⟩:∃L':Nat,L=L':=⟨L.toNat,om⟩;have dV:q (L:Int)=JbO o i L:=by rw[<-hq];simp only[Gl]
   simp only[go_sem,Tr.row,Aj,d1];refine J3 Jr vk ?_;simp only[go_sem,Aj,ED];refine anO ?_;refine Kl (.inl rfl) (Jaw g ht om) ?_
   cases hb:JbO o i L with
   |true=>rw[dV,hb]at Aa;simp only[go_sem,Aj,ED,Aa];omega
   |false=>rw[dV,hb]at Aa;simp only[go_sem];refine⟨Ji,k+1,⟨om,Aa⟩,om,?_⟩;simp[forget]
  ·have d1:=dfF k t.items.length;rw[Gs om,GI]at Aa;simp only[go_sem,Tr.row,Aj,d1,Aa]
def bkQ (t:Tr)(o:Lu)(j u:Nat)(last:Bool)(i:Nat):Bool:=(last || decide (i+1<(nd t u).kids.length)) && JbO o j (JH t u i)
omit g ht in
theorem bk_drop{j:Nat}{last:Bool}:bkB t o j u m last=((Ga (nd t u).kids.length).drop m).any (bkQ t o j u last):=by
 unfold bkB;by_cases Ct:m<=(nd t u).kids.length
 ·rw[any_skip m Ct λi hi=>by rw[decide_eq_false om];rfl];refine any_cg λi hi=>?_
  rw[List.range_eq_range',List.drop_range',List.mem_range'_1]at hi;rw[decide_eq_true om,Gj];rfl
 ·rw[Gs (by simp;omega),GD,List.any_eq_false];intro i hi;rw[decide_eq_false (by have:=La.1 hi;omega)];simp
theorem Jd1{j:Nat}(hu:u<t.nodes.length)(hm:m<=100)(last:Bool):Fn Gc 152 [t.cv,.int .i64 (j:Int),.int .i64 (u:Int),.int .i64 (m:Int),.bool last] (.bool (bkB t o j u m last)):=by
 have hg:=J7 hu;have Aw:(iz (nd t u).kids).length=(nd t u).kids.length:=Jf;have BL:=(JfK ht hu).kidn;rw[bk_drop];generalize hq:bkQ t o j u last=q;refine Jc c152_ok rfl rfl λN=>?_
 simp only[c152,go_sem,Tr.cv,Tr.row,Jb,hg,Nd.cv];refine anO ?_;refine Je (id:=0) (z:=2) (els:=[t.row]) rfl rfl ?_;simp only[go_sem,JV,Kv,frz,Qj,Tr.row];refine JO (I:=λi:Nat=>((Ga (nd t u).kids.length).drop m).any q=((Ga (nd t u).kids.length).drop i).any q) (inv:=λi=>gp [(1,.int .i64 (j:Int)),(2,.bool last),(0,.rptr t.row),(5,.rslc 1 (iz (nd t u).kids) none),(0,.int .i64 (i:Int))] 30) (hp:=λ_=>[.dead]) (μ:=λi=>(nd t u).kids.length-i) m rfl ?_ rfl ?_
 ·simp[forget,gp,Tr.row]
 ·intro i Aa;by_cases Ab:i<(nd t u).kids.length
  ·have d1:=dtT i (nd t u).kids.length;have AA:=JL Ab;obtain⟨k1,k2,_⟩:=Jt g hu Ab;have Ig:(nd t u).kids.getD i 0=(JH t u i:Int):=by
    have hm:(nd t u).kids.getD i 0∈(nd t u).kids:=by rw[Gm,Gp Ab];exact Gw Ab
    have:=(g.kid hu hm).1;unfold JH;omega
   rw[Ig]at AA;have hB:=Jaw g ht (j:=j) (i:=JH t u i) om;have Dc:q i=((last || decide (i+1<(nd t u).kids.length)) && JbO o j (JH t u i)):=by rw[<-hq];rfl
   rw[QK Ab,Gx,Dc]at Aa;simp only[go_sem,Aw,d1];refine J3 Jr vk ?_
   cases last with
   |true=>
    rw[Gy,Gj]at Aa;simp only[go_sem,Tr.row,Gg,Gt,Aw,AA];refine anO ?_;refine Kl (gok rfl) hB ?_
    cases hb:JbO o j (JH t u i) with
    |true=>rw[hb,Gy]at Aa;simp only[go_sem,Aa]
    |false=>rw[hb,Gr]at Aa;simp only[go_sem];refine⟨Ji,i+1,Aa,om,?_⟩;simp[forget]
   |false=>
    rw[Gr]at Aa;by_cases hl:i+1<(nd t u).kids.length
    ·have e1:decide ((i:Int)<((nd t u).kids.length:Int)-1)=true:=decide_eq_true om;rw[decide_eq_true hl,Gj]at Aa;simp only[go_sem,Tr.row,Gg,Gt,Aw,AA,e1];refine⟨Ji,om,?_⟩;refine Kl (gok rfl) hB ?_
     cases hb:JbO o j (JH t u i) with
     |true=>rw[hb,Gy]at Aa;simp only[go_sem,Aa]
     |false=>rw[hb,Gr]at Aa;simp only[go_sem];refine⟨Ji,i+1,Aa,om,?_⟩;simp[forget]
    ·have e1:decide ((i:Int)<((nd t u).kids.length:Int)-1)=false:=decide_eq_false om;rw[decide_eq_false hl,Gn,Gr]at Aa;simp only[go_sem,Aw,e1];refine⟨Ji,Ji,i+1,Aa,om,?_⟩;simp[forget,Tr.row]
  ·have d1:=dfF i (nd t u).kids.length;rw[show (Ga (nd t u).kids.length).drop i=[] from Gs (by simp;omega),GD]at Aa;simp only[go_sem,Aw,d1,Aa]
theorem refInSight {d j:Nat}(hd:d<t.nodes.length)(hj:j<t.nodes.length):Fn Gc 98 [t.cv,.int .i64 (d:Int),.int .i64 (j:Int)] (.bool (inB t o d j)):=by
 have hg:=J7 hd;have hP:=Jcm g ht hd;unfold inB;refine Jc c98_ok rfl rfl λN=>?_
 simp only[c98,go_sem,Tr.cv,Tr.row];refine Je (id:=0) (z:=2) (els:=[t.row]) rfl rfl ?_;simp only[go_sem,JV,Kv,frz,Qj,Tr.row];refine Kk hP ?_;simp only[go_sem,Jb,hg,Nd.cv,kbE];refine anO ?_;by_cases BI:(nd t d).k=65
 ·simp only[BI,go_sem,if_true]
 have b65:((nd t d).k == 65)=false:=beq_eq_false_iff_ne.2 BI;rw[if_neg BI];by_cases BV:(nd t d).k=64
 ·obtain⟨u,Oj,EN,ak,PW⟩:=Ql g hd BI;have Ad:=Ha PW;have Dm:=Jt g EN (i:=(nd t u).kids.length-1) om;simp only[BV,go_sem,Oj,if_true,Gl];refine J3 Jr vk ?_;simp only[go_sem];refine Kl (.inl rfl) (JdE g ht EN Ad) ?_;simp only[go_sem];refine Kl (.inl rfl) (Jaw g ht (show Jh t u<t.nodes.length by have:=Dm.2.1;unfold JH at this;unfold Jh;omega)) ?_;simp only[go_sem]
 have b64:((nd t d).k == 64)=false:=beq_eq_false_iff_ne.2 BV;rw[if_neg BV];by_cases Cq:(nd t d).k=43
 ·obtain⟨u,Oj,EN,ak,PW⟩:=Ql g hd BI;have Ic:(nd t u).k=28:=(Yg (Jcu g EN PW)).2.1 (by rw[Cq];rfl);obtain⟨a,b,ha,Uk,Be,_⟩:=Yl g EN Ic;have AX:(nd t u).n=(a:Int):=ha;have BL:=(JfK ht EN).kidn;have bR:b<(nd t u).kids.length:=Be;have M6:=J7 EN;simp only[Cq,go_sem,Oj,if_true,Gl,AX];refine J3 Jr vk ?_;simp only[go_sem,Jb,M6,Nd.cv,AX];refine anO ?_;refine Kl (.inl rfl) (Jd1 g ht EN om true) ?_;simp only[go_sem]
 have b43:((nd t d).k == 43)=false:=beq_eq_false_iff_ne.2 Cq;rw[if_neg Cq];by_cases Bp:(nd t d).k=47
 ·have Ad:(nd t d).kids.length=3:=(Jbm g hd Bp).1;have Dm:=Jt g hd (i:=(nd t d).kids.length-1) om;simp only[Bp,go_sem,if_true];refine J3 Jr vk ?_;simp only[go_sem];refine Kl (.inl rfl) (JdE g ht hd om) ?_;simp only[go_sem];refine Kl (.inl rfl) (Jaw g ht (show Jh t d<t.nodes.length by have:=Dm.2.1;unfold JH at this;unfold Jh;omega)) ?_;simp only[go_sem]
 have b47:((nd t d).k == 47)=false:=beq_eq_false_iff_ne.2 Bp;rw[if_neg Bp];by_cases Ck:(nd t d).k=42
 ·obtain⟨u,Oj,EN,ak,PW⟩:=Ql g hd BI;have Ic:(nd t u).k=41:=(Yg (Jcu g EN PW)).2.2.1 (by rw[Ck];rfl);obtain⟨v,Mw,Ej,kY,iw⟩:=Ql g EN om;have Cu:(nd t v).k=40\/(nd t v).k=28:=(Yg (Jcu g Ej iw)).2.2.2.1 (by rw[Ic];rfl);have UX:=J7 Ej;have fF:=Jcm g ht EN;rw[Mw]at fF;simp only[Ck,go_sem,Oj,Mw,if_true,Gl];refine Kk fF ?_;simp only[go_sem,Jb,UX,Nd.cv,kbE];refine anO ?_;by_cases D8:(nd t v).k=40
  ·simp only[D8,go_sem,if_true];refine Kk (Jaw g ht Ej) ?_;simp only[go_sem]
  ·have b40:((nd t v).k == 40)=false:=beq_eq_false_iff_ne.2 D8;obtain⟨a,b,ha,Uk,Be,_⟩:=Yl g Ej (Cu.resolve_left D8);have AX:(nd t v).n=(a:Int):=ha;have BL:=(JfK ht Ej).kidn;have bR:b<(nd t v).kids.length:=Be;simp only[b40,go_sem,if_neg D8];refine J3 Jr vk ?_;simp only[go_sem,Jb,UX,Nd.cv,AX];refine⟨om,Ji,?_⟩;have gI:=Jd1 g ht (j:=j) Ej (show a+1<=100 by omega) false;rw[Int.natCast_add,show ((1:Nat):Int)=1 from rfl]at gI;refine Kl (.inl rfl) gI ?_;simp only[go_sem]
 have b42:((nd t d).k == 42)=false:=beq_eq_false_iff_ne.2 Ck;rw[if_neg Ck];simp only[b65,b64,b43,b47,b42,go_sem]
end
theorem twN_eq:twN t i=if (nd t i).k≠44/\KV (nd t i).k=false then false else(Ga i).any (twQ t i):=rfl
theorem nTwice(Ah:t.nodes.length<=100000)(hi:i<t.nodes.length):Fn Gc 83 [.rptr (tRw t),.int .i64 (i:Int)] (.bool (twN t i)):=by
 have hg:=J7 hi;refine Jc c83_ok rfl rfl λN=>?_
 rw[twN_eq];simp only[c83,go_sem];refine Je (id:=0) (z:=1) (els:=[[.rptr (tRw t)]]) rfl rfl ?_;simp only[go_sem,JV,Kv,frz,Qj,Gf];refine Je (id:=1) (z:=1) (els:=[[.int .i64 (i:Int)]]) rfl rfl ?_;simp only[go_sem,JV,Kv,frz,Qj,Gf];refine Xz [false,false,false,false,false,false,false,false,true,true] Jr vM ?_;simp only[go_sem];refine vh_all (.rptr (tRw t)) (λ_=>rfl) trivial ?_;by_cases BC:(nd t i).k=44
 ·rw[if_neg (λh=>h.1 BC)];simp only[go_sem,tRw,Jb,hg,Nd.cv,kbN,BC];refine anO ?_;refine Je (id:=2) (z:=5) (els:=[(nd t i).cv]) (by simp only[Nd.cv,BC];rfl) rfl ?_;simp only[go_sem,JV,Kv,frz,Qj,Gf];refine JO (I:=λk:Nat=>k<=i/\(Ga i).any (twQ t i)=((Ga i).drop k).any (twQ t i)) (inv:=λk=>gp [(6,.fn 133 [] [.rptr [.rptr (tRw t)],.rptr (nd t i).cv,.rptr [.int .i64 (i:Int)]]),(19,.int .i64 (i:Int)),(0,.int .i64 (k:Int))] 6) (hp:=λ_=>[.dead,.dead,.dead]) (μ:=λk=>i-k) 0 ⟨om,rfl⟩ ?_ rfl ?_
  ·simp[forget,gp,tRw]
  ·rintro k ⟨hk,Aa⟩;by_cases Ab:k<i
   ·have d1:=dtT k i;rw[QK Ab,Gx]at Aa;simp only[go_sem,d1];refine vr_fv (.inl rfl) rfl c133_ok (Jc0 pNames _) (nTwice1 hi om) ?_
    cases hb:twQ t i k with
    |true=>rw[hb,Gy]at Aa;simp only[go_sem,Aa]
    |false=>rw[hb,Gr]at Aa;simp only[go_sem];refine⟨Ji,k+1,⟨om,Aa⟩,om,?_⟩;simp[forget]
   ·have d1:=dfF k i;rw[show (Ga i).drop k=[] from Gs (by simp;omega),GD]at Aa;simp only[go_sem,d1,Aa]
 ·have b44:((nd t i).k == 44)=false:=beq_eq_false_iff_ne.2 BC;simp only[go_sem,tRw,Jb,hg,Nd.cv,kbN,b44,Gi];refine anO ?_;refine Je (id:=2) (z:=5) (els:=[(nd t i).cv]) rfl rfl ?_;simp only[go_sem,JV,Kv,frz,Qj,Gf];refine Kt (gok rfl) (nIsDecl t hi) ?_
  cases hd:KV (nd t i).k with
  |false=>simp only[go_sem];rw[if_pos BC]
  |true=>
   rw[if_neg (show ¬((nd t i).k≠44/\true=false) from λh=>by cases h.2)];simp only[go_sem];refine JO (I:=λk:Nat=>k<=i/\(Ga i).any (twQ t i)=((Ga i).drop k).any (twQ t i)) (inv:=λk=>gp [(6,.fn 133 [] [.rptr [.rptr (tRw t)],.rptr (nd t i).cv,.rptr [.int .i64 (i:Int)]]),(19,.int .i64 (i:Int)),(0,.int .i64 (k:Int))] 6) (hp:=λ_=>[.dead,.dead,.dead]) (μ:=λk=>i-k) 0 ⟨om,rfl⟩ ?_ rfl ?_
   ·simp[forget,gp,tRw]
   ·rintro k ⟨hk,Aa⟩;by_cases Ab:k<i
    ·have d1:=dtT k i;rw[QK Ab,Gx]at Aa;simp only[go_sem,d1];refine vr_fv (.inl rfl) rfl c133_ok (Jc0 pNames _) (nTwice1 hi om) ?_
     cases hb:twQ t i k with
     |true=>rw[hb,Gy]at Aa;simp only[go_sem,Aa]
     |false=>rw[hb,Gr]at Aa;simp only[go_sem];refine⟨Ji,k+1,⟨om,Aa⟩,om,?_⟩;simp[forget]
    ·have d1:=dfF k i;rw[show (Ga i).drop k=[] from Gs (by simp;omega),GD]at Aa;simp only[go_sem,d1,Aa]
theorem Jf8{j:Nat}(h:j<t.nodes.length):(Qk t).drop j=(j:Int)::(Qk t).drop (j+1):=by
 have hl:(Qk t).length=t.nodes.length:=by simp[Qk]
 rw[GM om];simp[Qk]
theorem JiD{j:Nat}(h:t.nodes.length<=j):(Qk t).drop j=[]:=Gs (by simp[Qk];omega)
section
variable(g:GoodT t o)(ht:t.Fit)
include g ht
theorem refMeans3(hi:i<t.nodes.length)(hk:(nd t i).k=3):Fn Gc 58 [t.cv,.int .i64 (i:Int)] (.int .i64 (JgS t o i)):=by
 have Ah:=g.many;have hg:=J7 hi;unfold JgS;refine Jc c58_ok rfl rfl λN=>?_
 simp only[c58,go_sem,Tr.cv,Tr.row,Jb,hg,Nd.cv];refine anO ?_;refine Je (id:=0) (z:=2) (els:=[t.row]) rfl rfl ?_;simp only[go_sem,JV,Kv,frz,Qj];refine Je (id:=1) (z:=5) (els:=[(nd t i).cv]) rfl rfl ?_;simp only[go_sem,JV,Kv,frz,Qj,Gf];generalize hq:(λd:Int=>(nd t d.toNat).text == (nd t i).text && (KV (nd t d.toNat).k && (!((nd t d.toNat).k == 65) && inB t o d.toNat i)))=q;refine Js (I:=λj:Nat=>j<=t.nodes.length/\(Qk t).find? q=((Qk t).drop j).find? q) (inv:=λj=>gp [(1,.int .i64 (i:Int)),(0,.rptr t.row),(2,.rptr (nd t i).cv),(0,.int .i64 (j:Int))] 64) (hp:=λ_=>[.dead,.dead]) (μ:=λj=>t.nodes.length-j) 0 [0,1] ⟨om,by rw[Gf]⟩ rfl ?_ rfl ?_
 ·simp[forget,JB,ren,gp,Tr.row]
 ·rintro j ⟨hj,Aa⟩;by_cases Ab:j<t.nodes.length
  ·have d1:=dtT j t.nodes.length;have BG:=J7 Ab;have BP:q (j:Int)=((nd t j).text == (nd t i).text && (KV (nd t j).k && (!((nd t j).k == 65) && inB t o j i))):=by rw[<-hq];simp only[Gl]
   rw[Jf8 Ab,GH]at Aa
   cases Cz:((nd t j).text == (nd t i).text) with
   |false=>rw[BP,Cz,Gn]at Aa;simp only[go_sem,Tr.row,Jb,d1,BG,Nd.cv,Cz,Gi];refine⟨om,Ji,j+1,[0,1],⟨om,by rw[Aa]⟩,om,rfl,rfl,?_⟩;simp[forget,JB,ren,Jm]
   |true=>
    rw[BP,Cz,Gj]at Aa;simp only[go_sem,Tr.row,Jb,d1,BG,Nd.cv,Cz,Gh];refine anO ?_;refine Kt (gok rfl) (Jbs _) ?_
    cases hd:KV (nd t j).k with
    |false=>rw[hd,Gn]at Aa;simp only[go_sem,Gi];refine⟨Ji,j+1,[0,1],⟨om,by rw[Aa]⟩,om,rfl,rfl,?_⟩;simp[forget,JB,ren,Jm]
    |true=>
     rw[hd,Gj]at Aa
     cases BI:((nd t j).k == 65) with
     |true=>rw[BI,Gh,Gn]at Aa;simp only[go_sem,kbE,kbN,hk,BI,Gh];refine⟨Ji,j+1,[0,1],⟨om,by rw[Aa]⟩,om,rfl,rfl,?_⟩;simp[forget,JB,ren,Jm]
     |false=>
      rw[BI,Gi,Gj]at Aa;simp only[go_sem,kbE,kbN,hk,BI,Gi,Gh];refine Kt (gok rfl) (refInSight g ht Ab hi) ?_
      cases AO:inB t o j i with
      |true=>rw[AO]at Aa;simp only[go_sem,Aa]
      |false=>rw[AO]at Aa;simp only[go_sem];refine⟨Ji,j+1,[0,1],⟨om,by rw[Aa]⟩,om,rfl,rfl,?_⟩;simp[forget,JB,ren,Jm]
  ·have d1:=dfF j t.nodes.length;rw[JiD om,GI]at Aa;simp only[go_sem,Tr.row,Jb,d1,Aa]
omit ht in
theorem refMeans26(hi:i<t.nodes.length)(hk:(nd t i).k=26):Fn Gc 58 [t.cv,.int .i64 (i:Int)] (.int .i64 (Jcn t i)):=by
 have Ah:=g.many;have hg:=J7 hi;unfold Jcn;refine Jc c58_ok rfl rfl λN=>?_
 simp only[c58,go_sem,Tr.cv,Tr.row,Jb,hg,Nd.cv];refine anO ?_;refine Je (id:=0) (z:=2) (els:=[t.row]) rfl rfl ?_;simp only[go_sem,JV,Kv,frz,Qj];refine Je (id:=1) (z:=5) (els:=[(nd t i).cv]) rfl rfl ?_;simp only[go_sem,JV,Kv,frz,Qj,Gf];generalize hq:(λd:Int=>(nd t d.toNat).text == (nd t i).text && (KV (nd t d.toNat).k && (nd t d.toNat).k == 65))=q;refine Js (I:=λj:Nat=>j<=t.nodes.length/\(Qk t).find? q=((Qk t).drop j).find? q) (inv:=λj=>gp [(1,.int .i64 (i:Int)),(0,.rptr t.row),(2,.rptr (nd t i).cv),(0,.int .i64 (j:Int))] 64) (hp:=λ_=>[.dead,.dead]) (μ:=λj=>t.nodes.length-j) 0 [0,1] ⟨om,by rw[Gf]⟩ rfl ?_ rfl ?_
 ·simp[forget,JB,ren,gp,Tr.row]
 ·rintro j ⟨hj,Aa⟩;by_cases Ab:j<t.nodes.length
  ·have d1:=dtT j t.nodes.length;have BG:=J7 Ab;have BP:q (j:Int)=((nd t j).text == (nd t i).text && (KV (nd t j).k && (nd t j).k == 65)):=by rw[<-hq];simp only[Gl]
   rw[Jf8 Ab,GH]at Aa
   cases Cz:((nd t j).text == (nd t i).text) with
   |false=>rw[BP,Cz,Gn]at Aa;simp only[go_sem,Tr.row,Jb,d1,BG,Nd.cv,Cz,Gi];refine⟨om,Ji,j+1,[0,1],⟨om,by rw[Aa]⟩,om,rfl,rfl,?_⟩;simp[forget,JB,ren,Jm]
   |true=>
    rw[BP,Cz,Gj]at Aa;simp only[go_sem,Tr.row,Jb,d1,BG,Nd.cv,Cz,Gh];refine anO ?_;refine Kt (gok rfl) (Jbs _) ?_
    cases hd:KV (nd t j).k with
    |false=>rw[hd,Gn]at Aa;simp only[go_sem,Gi];refine⟨Ji,j+1,[0,1],⟨om,by rw[Aa]⟩,om,rfl,rfl,?_⟩;simp[forget,JB,ren,Jm]
    |true=>
     rw[hd,Gj]at Aa
     cases BI:((nd t j).k == 65) with
     |true=>rw[BI]at Aa;simp only[go_sem,kbE,hk,BI,Gh,Aa]
     |false=>rw[BI]at Aa;simp only[go_sem,kbE,hk,BI,Gh];refine⟨Ji,j+1,[0,1],⟨om,by rw[Aa]⟩,om,rfl,rfl,?_⟩;simp[forget,JB,ren,Jm]
  ·have d1:=dfF j t.nodes.length;rw[JiD om,GI]at Aa;simp only[go_sem,Tr.row,Jb,d1,Aa]
theorem refMeans44(hi:i<t.nodes.length)(hk:(nd t i).k=44):Fn Gc 58 [t.cv,.int .i64 (i:Int)] (.int .i64 (Jay t i)):=by
 have Ah:=g.many;have hg:=J7 hi;unfold Jay;refine Jc c58_ok rfl rfl λN=>?_
 simp only[c58,go_sem,Tr.cv,Tr.row,Jb,hg,Nd.cv];refine anO ?_;refine Je (id:=0) (z:=2) (els:=[t.row]) rfl rfl ?_;simp only[go_sem,JV,Kv,frz,Qj];refine Je (id:=1) (z:=5) (els:=[(nd t i).cv]) rfl rfl ?_;simp only[go_sem,JV,Kv,frz,Qj,Gf];generalize hq:(λd:Int=>(nd t d.toNat).text == (nd t i).text && (KV (nd t d.toNat).k && ((nd t d.toNat).k == 43 && Kg t d.toNat == Kg t i)))=q;refine Js (I:=λj:Nat=>j<=t.nodes.length/\(Qk t).find? q=((Qk t).drop j).find? q) (inv:=λj=>gp [(1,.int .i64 (i:Int)),(0,.rptr t.row),(2,.rptr (nd t i).cv),(0,.int .i64 (j:Int))] 64) (hp:=λ_=>[.dead,.dead]) (μ:=λj=>t.nodes.length-j) 0 [0,1] ⟨om,by rw[Gf]⟩ rfl ?_ rfl ?_
 ·simp[forget,JB,ren,gp,Tr.row]
 ·rintro j ⟨hj,Aa⟩;by_cases Ab:j<t.nodes.length
  ·have d1:=dtT j t.nodes.length;have BG:=J7 Ab;have BP:q (j:Int)=((nd t j).text == (nd t i).text && (KV (nd t j).k && ((nd t j).k == 43 && Kg t j == Kg t i))):=by rw[<-hq];simp only[Gl]
   rw[Jf8 Ab,GH]at Aa
   cases Cz:((nd t j).text == (nd t i).text) with
   |false=>rw[BP,Cz,Gn]at Aa;simp only[go_sem,Tr.row,Jb,d1,BG,Nd.cv,Cz,Gi];refine⟨om,Ji,j+1,[0,1],⟨om,by rw[Aa]⟩,om,rfl,rfl,?_⟩;simp[forget,JB,ren,Jm]
   |true=>
    rw[BP,Cz,Gj]at Aa;simp only[go_sem,Tr.row,Jb,d1,BG,Nd.cv,Cz,Gh];refine anO ?_;refine Kt (gok rfl) (Jbs _) ?_
    cases hd:KV (nd t j).k with
    |false=>rw[hd,Gn]at Aa;simp only[go_sem,Gi];refine⟨Ji,j+1,[0,1],⟨om,by rw[Aa]⟩,om,rfl,rfl,?_⟩;simp[forget,JB,ren,Jm]
    |true=>
     rw[hd,Gj]at Aa;simp only[go_sem,kbE,hk,Gh];refine Je (id:=2) (z:=5) (els:=[(nd t j).cv]) rfl rfl ?_;simp only[go_sem,JV,Kv,frz,Qj,Gf,Nd.cv];refine J3 Jr vk ?_
     cases Cq:((nd t j).k == 43) with
     |false=>rw[Cq,Gn]at Aa;simp only[go_sem,kbE,Cq];refine⟨Ji,j+1,[0,1],⟨om,by rw[Aa]⟩,om,rfl,rfl,?_⟩;simp[forget,JB,ren]
     |true=>
      rw[Cq,Gj]at Aa;simp only[go_sem,kbE,Cq];refine Kl (gok rfl) (Jcm g ht Ab) ?_;simp only[go_sem];refine Kl (gok rfl) (Jcm g ht hi) ?_
      cases De:(Kg t j == Kg t i) with
      |true=>rw[De]at Aa;simp only[go_sem,De,Aa]
      |false=>rw[De]at Aa;simp only[go_sem,De];refine⟨Ji,j+1,[0,1],⟨om,by rw[Aa]⟩,om,rfl,rfl,?_⟩;simp[forget,JB,ren]
  ·have d1:=dfF j t.nodes.length;rw[JiD om,GI]at Aa;simp only[go_sem,Tr.row,Jb,d1,Aa]
theorem refMeans(hi:i<t.nodes.length)(hs:JN t i=true):Fn Gc 58 [t.cv,.int .i64 (i:Int)] (.int .i64 (JD t o i)):=by
 unfold JD;unfold JN at hs;simp only[Bool.or_eq_true,beq_iff_eq]at hs;by_cases h3:(nd t i).k=3
 ·rw[if_pos h3];exact refMeans3 g ht hi h3
 ·rw[if_neg h3];by_cases DJ:(nd t i).k=26
  ·rw[if_pos DJ];exact refMeans26 g hi DJ
  ·rw[if_neg DJ,iP7];exact refMeans44 g ht hi om
def twRq (t:Tr)(o:Lu)(i k:Nat):Bool:=(nd t k).text == (nd t i).text && (if (nd t i).k=65 then(nd t k).k == 65 else if (nd t i).k=44 then(nd t k).k == 44 && Kg t k == Kg t i else KV (nd t k).k && (!((nd t k).k == 65) && Yo t o k == Yo t o i))
omit g ht in
theorem twR_eq:twR t o i=if (nd t i).k≠44/\KV (nd t i).k=false then false else(Ga i).any (twRq t o i):=rfl
theorem refTwice(hi:i<t.nodes.length):Fn Gc 59 [t.cv,.int .i64 (i:Int)] (.bool (twR t o i)):=by
 have Ah:=g.many;have hg:=J7 hi;rw[twR_eq];refine Jc c59_ok rfl rfl λN=>?_
 simp only[c59,go_sem,Tr.cv,Tr.row,Jb,hg,Nd.cv];refine anO ?_;refine Je (id:=0) (z:=2) (els:=[t.row]) rfl rfl ?_;simp only[go_sem,JV,Kv,frz,Qj];refine Je (id:=1) (z:=5) (els:=[(nd t i).cv]) rfl rfl ?_;simp only[go_sem,JV,Kv,frz,Qj,Gf,Nd.cv];refine Kk (Jbs _) ?_;by_cases BC:(nd t i).k=44
 ·have hd:KV (nd t i).k=false:=by rw[BC];rfl
  have b44:((nd t i).k == 44)=true:=beq_iff_eq.2 BC;have b65:((nd t i).k == 65)=false:=beq_eq_false_iff_ne.2 om;rw[if_neg (show ¬((nd t i).k≠44/\KV (nd t i).k=false) from λh=>h.1 BC),hd];simp only[go_sem,kbN,b44,Gi,Gh];generalize hq:twRq t o i=q;refine Js (I:=λj:Nat=>j<=i/\(Ga i).any q=((Ga i).drop j).any q) (inv:=λj=>gp [(1,.int .i64 (i:Int)),(0,.rptr t.row),(2,.rptr (nd t i).cv),(0,.int .i64 (j:Int))] 71) (hp:=λ_=>[.dead,.dead]) (μ:=λj=>i-j) 0 [0,1] ⟨om,by rw[Gf]⟩ rfl ?_ rfl ?_
  ·simp[forget,JB,ren,gp,Tr.row,Nd.cv]
  ·rintro j ⟨hj,Aa⟩;by_cases Ab:j<i
   ·have Oy:j<t.nodes.length:=om
    have d1:=dtT j i;have BG:=J7 Oy;have BP:q j=twRq t o i j:=by rw[hq]
    unfold twRq at BP;rw[QK Ab,Gx]at Aa
    cases Cz:((nd t j).text == (nd t i).text) with
    |false=>rw[BP,Cz,Gn,Gr]at Aa;simp only[go_sem,Tr.row,Jb,d1,BG,Nd.cv,Cz,Gi];refine⟨om,Ji,j+1,[0,1],⟨om,Aa⟩,om,rfl,rfl,?_⟩;simp[forget,JB,ren,Jm]
    |true=>
     rw[Cz,Gj]at BP;simp only[go_sem,Tr.row,Jb,d1,BG,Nd.cv,Cz,Gh,kbE,b65,b44];refine anO ?_;rw[iN7,if_pos BC]at BP;refine Je (id:=2) (z:=5) (els:=[(nd t j).cv]) rfl rfl ?_;simp only[go_sem,JV,Kv,frz,Qj,Gf,Nd.cv];refine J3 Jr vk ?_
     cases h:((nd t j).k == 44) with
     |false=>rw[BP,h,Gn,Gr]at Aa;simp only[go_sem,kbE,h];refine⟨Ji,j+1,[0,1],⟨om,Aa⟩,om,rfl,rfl,?_⟩;simp[forget,JB,ren]
     |true=>
      rw[h,Gj]at BP;simp only[go_sem,kbE,h];refine Kl (gok rfl) (Jcm g ht Oy) ?_;simp only[go_sem];refine Kl (gok rfl) (Jcm g ht hi) ?_
      cases De:(Kg t j == Kg t i) with
      |true=>rw[BP,De,Gy]at Aa;simp only[go_sem,De,Aa]
      |false=>rw[BP,De,Gr]at Aa;simp only[go_sem,De];refine⟨Ji,j+1,[0,1],⟨om,Aa⟩,om,rfl,rfl,?_⟩;simp[forget,JB,ren]
   ·have d1:=dfF j i;rw[show (Ga i).drop j=[] from Gs (by simp;omega),GD]at Aa;simp only[go_sem,d1,Aa]
 ·have b44:((nd t i).k == 44)=false:=beq_eq_false_iff_ne.2 BC
  cases hd:KV (nd t i).k with
  |false=>rw[if_pos ⟨BC,rfl⟩];simp only[go_sem,kbN,b44,Gi]
  |true=>
   rw[if_neg (show ¬((nd t i).k≠44/\true=false) from λh=>by cases h.2)];simp only[go_sem,Gh];by_cases BI:(nd t i).k=65
   ·have b65:((nd t i).k == 65)=true:=beq_iff_eq.2 BI;generalize hq:twRq t o i=q;refine Js (I:=λj:Nat=>j<=i/\(Ga i).any q=((Ga i).drop j).any q) (inv:=λj=>gp [(1,.int .i64 (i:Int)),(0,.rptr t.row),(2,.rptr (nd t i).cv),(0,.int .i64 (j:Int))] 71) (hp:=λ_=>[.dead,.dead]) (μ:=λj=>i-j) 0 [0,1] ⟨om,by rw[Gf]⟩ rfl ?_ rfl ?_
    ·simp[forget,JB,ren,gp,Tr.row,Nd.cv]
    ·rintro j ⟨hj,Aa⟩;by_cases Ab:j<i
     ·have Oy:j<t.nodes.length:=om
      have d1:=dtT j i;have BG:=J7 Oy;have BP:q j=twRq t o i j:=by rw[hq]
      unfold twRq at BP;rw[QK Ab,Gx]at Aa
      cases Cz:((nd t j).text == (nd t i).text) with
      |false=>rw[BP,Cz,Gn,Gr]at Aa;simp only[go_sem,Tr.row,Jb,d1,BG,Nd.cv,Cz,Gi];refine⟨om,Ji,j+1,[0,1],⟨om,Aa⟩,om,rfl,rfl,?_⟩;simp[forget,JB,ren,Jm]
      |true=>
       rw[Cz,Gj]at BP;simp only[go_sem,Tr.row,Jb,d1,BG,Nd.cv,Cz,Gh,kbE,b65];refine anO ?_;rw[if_pos BI]at BP
       cases h:((nd t j).k == 65) with
       |true=>rw[BP,h,Gy]at Aa;simp only[go_sem,Aa]
       |false=>rw[BP,h,Gr]at Aa;simp only[go_sem];refine⟨Ji,j+1,[0,1],⟨om,Aa⟩,om,rfl,rfl,?_⟩;simp[forget,JB,ren,Jm]
     ·have d1:=dfF j i;rw[show (Ga i).drop j=[] from Gs (by simp;omega),GD]at Aa;simp only[go_sem,d1,Aa]
   ·have b65:((nd t i).k == 65)=false:=beq_eq_false_iff_ne.2 BI;generalize hq:twRq t o i=q;refine Js (I:=λj:Nat=>j<=i/\(Ga i).any q=((Ga i).drop j).any q) (inv:=λj=>gp [(1,.int .i64 (i:Int)),(0,.rptr t.row),(2,.rptr (nd t i).cv),(0,.int .i64 (j:Int))] 71) (hp:=λ_=>[.dead,.dead]) (μ:=λj=>i-j) 0 [0,1] ⟨om,by rw[Gf]⟩ rfl ?_ rfl ?_
    ·simp[forget,JB,ren,gp,Tr.row,Nd.cv]
    ·rintro j ⟨hj,Aa⟩;by_cases Ab:j<i
     ·have Oy:j<t.nodes.length:=om
      have d1:=dtT j i;have BG:=J7 Oy;have BP:q j=twRq t o i j:=by rw[hq]
      unfold twRq at BP;rw[QK Ab,Gx]at Aa
      cases Cz:((nd t j).text == (nd t i).text) with
      |false=>rw[BP,Cz,Gn,Gr]at Aa;simp only[go_sem,Tr.row,Jb,d1,BG,Nd.cv,Cz,Gi];refine⟨om,Ji,j+1,[0,1],⟨om,Aa⟩,om,rfl,rfl,?_⟩;simp[forget,JB,ren,Jm]
      |true=>
       rw[Cz,Gj]at BP;simp only[go_sem,Tr.row,Jb,d1,BG,Nd.cv,Cz,Gh,kbE,b65,b44];refine anO ?_;rw[if_neg BI,if_neg BC]at BP;refine Je (id:=2) (z:=5) (els:=[(nd t j).cv]) rfl rfl ?_;simp only[go_sem,JV,Kv,frz,Qj,Gf,Nd.cv];refine J3 Jr vk ?_;simp only[go_sem];refine Kl (.inl rfl) (Jbs _) ?_
       cases bJ:KV (nd t j).k with
       |false=>rw[BP,bJ,Gn,Gr]at Aa;simp only[go_sem];refine⟨Ji,j+1,[0,1],⟨om,Aa⟩,om,rfl,rfl,?_⟩;simp[forget,JB,ren]
       |true=>
        rw[bJ,Gj]at BP
        cases h:((nd t j).k == 65) with
        |true=>rw[BP,h,Gh,Gn,Gr]at Aa;simp only[go_sem,kbN,h,Gh];refine⟨Ji,j+1,[0,1],⟨om,Aa⟩,om,rfl,rfl,?_⟩;simp[forget,JB,ren]
        |false=>
         rw[h,Gi,Gj]at BP;simp only[go_sem,kbN,h,Gi];refine Kl (gok rfl) (refItemOf g ht Oy) ?_;simp only[go_sem];refine Kl (gok rfl) (refItemOf g ht hi) ?_
         cases De:(Yo t o j == Yo t o i) with
         |true=>rw[BP,De,Gy]at Aa;simp only[go_sem,De,Aa]
         |false=>rw[BP,De,Gr]at Aa;simp only[go_sem,De];refine⟨Ji,j+1,[0,1],⟨om,Aa⟩,om,rfl,rfl,?_⟩;simp[forget,JB,ren]
     ·have d1:=dfF j i;rw[show (Ga i).drop j=[] from Gs (by simp;omega),GD]at Aa;simp only[go_sem,d1,Aa]
end
def RowC (z:Nat)(els:LM)(v:CV)(H':Lt):Prop:=RowR z els v H'\/∃id es,v=.slc id 0 els.length none/\H'[id]? = some (.arr z es)/\es.take els.length=els/\els≠[]
theorem fnRow_cut{args:Ls}(h:CallsC P Env.none f args [] (RowC z els))(ha:Jp args=true)(hc:Jq els=true):Jeo P f args z els:=
 JfG (h.trunc (id:=0) (j:=0) (v:=.un) λv H' hv=>by
  rcases hv with hv|⟨id,es,rfl,h2,h3,h4⟩
  ·exact .inl hv
  ·exact .inr ⟨id,z,es,els.length,h2,.row (id:=id) (Xb h4).symm (by rw[QX h4,h3,List.getElem?_set_self (List.getElem?_eq_some_iff.1 h2).1])⟩) ha hc
structure OfOk (t:Tr)(of:Lu):Prop where
 len:of.length=t.nodes.length
 rng:∀i,i<of.length->-1<=of.getD i 0/\of.getD i 0<t.nodes.length
theorem OfOk.dft{of:Lu}(h:OfOk t of)(hi:i<of.length):of.getD i (-1)=of.getD i 0:=by simp[Gm,Gp hi]
def rRw (t:Tr)(of:Lu):Ls:=[.rptr (tRw t),.rslc 1 (iz of) none]
section
variable(g:GoodT t o)(ht:t.Fit)
include g ht
theorem nNeeds {of:Lu}(ho:OfOk t of){s:Nat}(hs:s<t.nodes.length)(hk:(nd t s).k=41):Jeo Gc 136 [.agg (rRw t of),.int .i64 (s:Int)] 1 (iz (QN t o of s)):=by
 have Ah:=g.many;have Bf:(iz of).length=t.nodes.length:=by rw[Jf,ho.len]
 rw[<-need_done g];refine fnRow_cut (J8 c136_ok λN=>?_) rfl (Jd _);simp only[c136,go_sem,rRw,Bf];refine Je (id:=0) (z:=2) (els:=[rRw t of]) rfl rfl ?_;simp only[go_sem,JV,Kv,frz,Qj,Gf];refine XJ ?_;simp only[go_sem,G7,GA];refine Js (I:=λi:Nat=>i<=t.nodes.length) (inv:=λi=>gp [(1,.int .i64 (s:Int)),(0,.rptr (rRw t of)),(1,JW 1 (iz (XW t o of s (Ga i)))),(4,.rslc 1 (iz of) none),(0,.int .i64 (t.nodes.length:Int)),(0,.int .i64 (i:Int))] 70) (hp:=λi=>[.dead,KT 1 (iz (XW t o of s (Ga i)))]) (μ:=λi=>t.nodes.length-i) 0 [0,1] om rfl ?_ rfl ?_
 ·simp[forget,JB,ren,gp,rRw,JW,iz,XW]
 ·intro i hi;by_cases Ab:i<t.nodes.length
  ·have d1:=dtT i t.nodes.length;have AA:=JL (l:=of) (i:=i) (by rw[ho.len];exact Ab);have aF:=ho.rng i (by rw[ho.len];exact Ab);have Al:XW t o of s (Ga (i+1))=XW t o of s (Ga i)++XW t o of s [i]:=by rw[Hf,needC_app]
   have Ar:=Jfp (t:=t) (o:=o) (of:=of) (s:=s) (Ga i);rw[He]at Ar;have bI:=ho.dft (i:=i) (by rw[ho.len];exact Ab);have h1:XW t o of s [i]=if (decide (0<=of.getD i 0) && ((nd t (of.getD i 0).toNat).k == 42 && ((nd t i).k == 3 && (JbO o i s && (Kg t (Kg t (of.getD i 0).toNat).toNat == Kg t s && !buL t (upL t (Jh t s) t.nodes.length i) false)))))=true then [Kg t (of.getD i 0).toNat] else []:=by rw[XW,bI];rfl
   generalize XW t o of s (Ga i)=acc at Al Ar|-;generalize of.getD i 0=m at AA aF h1;rcases Ld m 0 with MZ|MZ
   ·obtain rfl:m = -1:=om
    have e1:((-1:Int) == -1)=true:=vk
    have AZ:XW t o of s [i]=[]:=by rw[h1,if_neg sM]
    simp only[go_sem,d1,Bf,AA,e1];refine anO ?_;refine⟨Ji,i+1,[0,1],om,om,rfl,?_,?_⟩
    ·rw[Al,AZ,Gq];simp only[Ko,Gb,Gd,go_sem,JG (Ja (Jd acc)),Jk]
    ·rw[Al,AZ,Gq];simp[forget,JB,ren,Jm,JS,rRw]
   obtain⟨m,rfl⟩:∃m':Nat,m=m':=⟨m.toNat,om⟩;have Ib:m<t.nodes.length:=om
   have e1:((m:Int) == -1)=false:=beq_eq_false_iff_ne.2 om;rw[decide_eq_true MZ,Gj,Gl]at h1;simp only[go_sem,d1,Bf,AA,e1,rRw];refine anO ?_;refine Kt (gok rfl) (nKind t Ib) ?_
   cases Ma:(nd t m).k == 42 with
   |false=>
    have AZ:XW t o of s [i]=[]:=by rw[h1,Ma,if_neg sM]
    simp only[go_sem,kbN,Ma,Gi];refine⟨Ji,i+1,[0,1],om,om,rfl,?_,?_⟩
    ·rw[Al,AZ,Gq];simp only[Ko,Gb,Gd,go_sem,JG (Ja (Jd acc)),Jk]
    ·rw[Al,AZ,Gq];simp[forget,JB,ren,Jm,JS]
   |true=>
    rw[Ma,Gj]at h1;simp only[go_sem,kbN,Ma,Gh];refine Kt (gok rfl) (nKind t Ab) ?_
    cases Mc:(nd t i).k == 3 with
    |false=>
     have AZ:XW t o of s [i]=[]:=by rw[h1,Mc,if_neg sM]
     simp only[go_sem,kbN,Mc,Gi];refine⟨Ji,i+1,[0,1],om,om,rfl,?_,?_⟩
     ·rw[Al,AZ,Gq];simp only[Ko,Gb,Gd,go_sem,JG (Ja (Jd acc)),Jk]
     ·rw[Al,AZ,Gq];simp[forget,JB,ren,Jm,JS]
    |true=>
     rw[Mc,Gj]at h1;simp only[go_sem,kbN,Mc,Gh];refine Kt (gok rfl) (nBelow g Ab hs) ?_
     cases hb:JbO o i s with
     |false=>
      have AZ:XW t o of s [i]=[]:=by rw[h1,hb,if_neg sM]
      simp only[go_sem,Gi];refine⟨Ji,i+1,[0,1],om,om,rfl,?_,?_⟩
      ·rw[Al,AZ,Gq];simp only[Ko,Gb,Gd,go_sem,JG (Ja (Jd acc)),Jk]
      ·rw[Al,AZ,Gq];simp[forget,JB,ren,Jm,JS]
     |true=>
      rw[hb,Gj]at h1;have Ck:(nd t m).k=42:=beq_iff_eq.1 Ma;have h3:(nd t i).k=3:=beq_iff_eq.1 Mc;obtain⟨v,Mw,Ej,_,_⟩:=Ql g Ib om;have hL:=nLate g ht hs hk ((JcS g hs hk om).1 (KM.1 hb));rw[Mw,Gl]at h1;simp only[go_sem,Gh,tRw,QP,upz Ib,Mw];refine anO ?_;refine J3 Jr vk ?_
      cases De:(Kg t v == Kg t s) with
      |false=>
       have AZ:XW t o of s [i]=[]:=by rw[h1,De,if_neg sM]
       simp only[go_sem,QP,upz Ej,upz hs,De];refine⟨om,om,?_⟩;refine⟨Ji,i+1,[0,1],om,om,rfl,?_,?_⟩
       ·rw[Al,AZ,Gq];simp only[Ko,Gb,Gd,go_sem,JG (Ja (Jd acc)),Jk]
       ·rw[Al,AZ,Gq];simp[forget,JB,ren,Jm,JS]
      |true=>
       rw[De,Gj]at h1;simp only[go_sem,QP,upz Ej,upz hs,De];refine⟨om,om,?_⟩;refine Kl (gok rfl) hL ?_
       cases hl:buL t (upL t (Jh t s) t.nodes.length i) false with
       |true=>
        have AZ:XW t o of s [i]=[]:=by rw[h1,hl,if_neg sM]
        simp only[go_sem,Gh];refine⟨Ji,i+1,[0,1],om,om,rfl,?_,?_⟩
        ·rw[Al,AZ,Gq];simp only[Ko,Gb,Gd,go_sem,JG (Ja (Jd acc)),Jk]
        ·rw[Al,AZ,Gq];simp[forget,JB,ren,Jm,JS]
       |false=>
        have Bn:XW t o of s [i]=[(v:Int)]:=by rw[h1,hl,if_pos sM]
        simp only[go_sem,Gi,Jf,Jw];refine⟨⟨om,om⟩,Ji,i+1,[0,3],om,om,rfl,?_,?_⟩
        ·rw[Al,Bn,KR,Kn];simp only[Ko,Gb,Gd,go_sem,Jj,Jk];simp[Ja (Jd acc),JB,ren]
        ·rw[Al,Bn,KR,Km];simp[forget,JB,ren,Jm,Jf]
  ·have d1:=dfF i t.nodes.length;obtain rfl:i=t.nodes.length:=om
   have Ar:=Jfp (t:=t) (o:=o) (of:=of) (s:=s) (Ga t.nodes.length);rw[He]at Ar;generalize XW t o of s (Ga t.nodes.length)=acc at Ar|-
   cases acc with
   |nil=>simp only[go_sem,d1,XN,XA];refine Kk sortNil ?_;simp only[go_sem];refine Kk compactNil ?_;simp only[go_sem];rw[show Lib.compact (([]:Lu).mergeSort λx y=>decide (x<=y))=[] by rw[Hy];rfl];exact .inl .nil
   |cons x xs=>
    simp only[go_sem,d1,Kz,Yk,Jbq,Jf];refine Ky (.inl rfl) (sortRow (l:=x::xs) sM om rfl) λv H' ⟨h1,h2⟩=>?_
    subst h1 h2;simp only[go_sem];have CL:((x::xs).mergeSort λx y=>decide (x<=y)).length=xs.length+1:=by rw[Hd];rfl
    generalize ((x::xs).mergeSort λx y=>decide (x<=y))=S at CL|-;have fA:S≠[]:=by rintro rfl;simp at CL
    rw[<-CL];refine Ky (.inl rfl) (compactRow (l:=S) fA (by simp only[Gg]at Ar;omega) rfl) λv H' ⟨h1,h2⟩=>?_
    subst h1 h2;simp only[go_sem];have U2:Lib.compact S≠[]:=by obtain⟨y,hy⟩:=List.exists_mem_of_ne_nil _ fA;exact List.ne_nil_of_mem (JfS.2 hy)
    refine .inr ⟨1,_,by rw[Jf],rfl,?_,by simpa [iz]using U2⟩;rw[Qe,List.take_left' rfl]
end
def nz (l:Lx):Lu:=l.map λx:Nat=>(x:Int)
theorem nz_len {l:Lx}:(nz l).length=l.length:=by simp[nz]
theorem nz_cons {x:Nat}{l:Lx}:nz (x::l)=(x:Int)::nz l:=rfl
theorem nz_get {l:Lx}(h:i<l.length):(nz l).getD i 0=(l.getD i 0:Nat):=by simp[nz,Gm,Gp h]
theorem nzz_get {l:Lx}(h:i<l.length):(iz (nz l)).getD i []=[.int .i64 (l.getD i 0:Nat)]:=by rw[JL (by rw[nz_len];exact h),nz_get h]
theorem XD {l:Lx}:(iz (nz l)).length=l.length:=by rw[Jf,nz_len]
section
variable(g:GoodT t o)(ht:t.Fit)
include g ht
theorem refWay{top:Nat}(Bl:top<t.nodes.length)(DF:blw o a0 top):Fn Gc 186 [t.cv,.int .i64 (top:Int),.int .i64 (a0:Int)] (.rslc 1 (iz (nz (upL t top t.nodes.length a0).reverse)) none):=by
 have Ah:=g.many;have UI:=up_len g (f:=t.nodes.length) Bl DF om;have Al:=way_start (t:=t) (top:=top) (f:=t.nodes.length) (a:=a0);generalize hR:(upL t top t.nodes.length a0).reverse=R at Al|-;have U7:R.length<=t.nodes.length:=by rw[<-hR,Hw];omega
 refine YK ?_ rfl rfl;refine J8 c186_ok λN=>?_
 simp only[c186,go_sem,Tr.cv,Tr.row];refine Je (id:=0) (z:=2) (els:=[t.row]) rfl rfl ?_;simp only[go_sem,JV,Kv,frz,Qj,Gb,Gd];refine Js (σ:=Nat×Nat×Lx×Option Nat) (I:=λs=>blw o s.2.1 top/\t.nodes.length<=s.2.1+s.1/\R=(upL t top s.1 s.2.1).tail.reverse++s.2.2.1/\s.2.2.1≠[]) (inv:=λs=>gp [(1,.int .i64 (top:Int)),(0,.int .i64 (s.2.1:Int)),(0,.rptr t.row),(3,.slc 1 0 s.2.2.1.length s.2.2.2)] 13) (hp:=λs=>[.dead,.arr 1 (iz (nz s.2.2.1))]) (μ:=λs=>t.nodes.length-s.2.1) (t.nodes.length,a0,[a0],some 1) [0,1] ⟨DF,by simp only;omega,Al,sM⟩ rfl ?_ ?_ ?_
 ·simp[forget,JB,ren,Jm,gp,Tr.row]
 ·simp[Ko,JB,ren,Yd,iz,nz]
 ·rintro⟨f,a,w,cap⟩ ⟨hb,hf,hw,Ag⟩
  dsimp only at hb hf hw Ag
  have ha:a<t.nodes.length:=by have:=hb.1;omega
  by_cases he:a=top
  ·subst he;rw[way_end,List.reverse_nil,GA]at hw;have e1:((a:Int) != (a:Int))=false:=sM
   simp only[go_sem,e1];refine .step 1 1 (iz (nz w)) rfl (Jd _) (.done ?_);have hx:G8 w.length (iz (nz w))=iz (nz w):=Gu (by rw[XD];omega);simp only[frz,if_true,GN,XD,GQ,Gf,hx];rw[hw];exact wk.refl _
  ·have e1:((a:Int) != (top:Int))=true:=bne_iff_ne.2 om;obtain⟨m,f',h1,h2,h3,h4,h5,h6⟩:=way_step g Bl hb hf he;rw[h6]at hw;have gW:w.length+1<=R.length:=by rw[hw,Gv,Gg];omega
   have hP:=Jcm g ht ha;rw[h1]at hP;obtain⟨y,ys,rfl⟩:=List.exists_cons_of_ne_nil Ag;simp only[Gg]at gW;have Cr:G8 (ys.length+1) (([CV.int .i64 (y:Int)])::iz (nz ys))=[CV.int .i64 (y:Int)]::iz (nz ys):=Gu (by simp[XD]);simp only[go_sem,e1,Tr.row];refine Kk hP ?_;simp only[go_sem,nz_cons,Kz,Gg,Cr,XD,Jw,Gf];refine⟨⟨om,om,om⟩,(f',m,m::y::ys,none),[0,3],⟨h4,h5,hw,sM⟩,by simp only;omega,rfl,?_,?_⟩
   ·have Ar:=Ja (ρ:=[0,3]) (Jd (nz ys));simp[Ko,JB,ren,Yd,nz_cons,Kz,Ar]
   ·simp[forget,JB,ren,Jm];omega
theorem refLate{s:Nat}(hs:s<t.nodes.length)(hk:(nd t s).k=41)(DF:blw o a0 (Jh t s)):Fn Gc 153 [t.cv,.int .i64 (a0:Int),.int .i64 (s:Int)] (.bool (tdL t (upL t (Jh t s) t.nodes.length a0).reverse false)):=by
 have Ah:=g.many;have RH:=set_kid g hs hk;have CK:Jh t s<t.nodes.length:=by have:=(JC g hs RH.1).2;omega
 have UI:=up_len g (f:=t.nodes.length) CK DF om;have hW:=refWay g ht CK DF;have Ew:=up_rng g t.nodes.length a0 (Jh t s) CK DF;have Ee:=up_kids g t.nodes.length a0 (Jh t s) CK DF;have dW:∀i,i+1<(upL t (Jh t s) t.nodes.length a0).reverse.length->((((upL t (Jh t s) t.nodes.length a0).reverse.getD (i+1) 0:Nat):Int)∈(nd t ((upL t (Jh t s) t.nodes.length a0).reverse.getD i 0)).kids/\(upL t (Jh t s) t.nodes.length a0).reverse.getD i 0<t.nodes.length):=λi hi=>pairs_rev Ee hi
 have Oo:∀x∈(upL t (Jh t s) t.nodes.length a0).reverse,x<t.nodes.length:=λx hx=>Ew x (List.mem_reverse.1 hx)
 have U7:(upL t (Jh t s) t.nodes.length a0).reverse.length<=t.nodes.length:=by rw[Hw];omega
 generalize (upL t (Jh t s) t.nodes.length a0).reverse=R at hW dW Oo U7|-;refine Jc c153_ok rfl rfl λN=>?_
 simp only[c153,go_sem,Tr.cv,Tr.row];refine Je (id:=0) (z:=2) (els:=[t.row]) rfl rfl ?_;simp only[go_sem,JV,Kv,frz,Qj,Gb,Gd];refine J3 Jr vk ?_;simp only[go_sem,Tr.row];refine Kl (.inl rfl) (JdE g ht hs RH.2) ?_;simp only[go_sem];refine Kl (.inl rfl) hW ?_;simp only[go_sem];generalize hD:tdL t R false=D;refine Js (I:=λi:Nat=>i<=R.length/\D=tdL t (R.drop i) false) (inv:=λi=>gp [(3,.rptr t.row),(3,.rslc 1 (iz (nz R)) none),(0,.int .i64 (i:Int))] 54) (hp:=λ_=>[.dead]) (μ:=λi=>R.length-i) 0 [0] ⟨om,by rw[Gf,hD]⟩ rfl ?_ rfl ?_
 ·simp[forget,JB,ren,gp,Tr.row]
 ·rintro i ⟨hi,Aa⟩;by_cases Ab:i+1<R.length
  ·have d1:((i:Int)+1<(R.length:Int))=True:=KQ;rw[tdL_drop Ab]at Aa;obtain⟨hc,hu⟩:=dW i Ab;have Ii:=nzz_get (l:=R) (i:=i) om;have OD:=nzz_get Ab;have U2:R.getD (i+1) 0<t.nodes.length:=Oo _ (by rw[Gm,Gp Ab];exact Gw Ab);generalize R.getD i 0=u at Aa hc hu Ii;generalize R.getD (i+1) 0=c at Aa hc OD U2;have M6:=J7 hu;have Dp:=J7 U2;have Ox:=Ha hc;have ME:((i:Int)+1).toNat=i+1:=om
   simp only[go_sem,XD,d1];refine⟨Ji,?_⟩;refine Xz [false,false,false,false,false,false,false,false,true,true] Jr vM ?_;by_cases h4:(nd t u).k=4
   ·have Mq:JiH t u c=some true:=by unfold JiH;rw[if_pos h4]
    rw[Mq]at Aa;simp only[go_sem,Tr.row,Jb,XD,Ii,M6,Nd.cv,kbE,h4];exact⟨om,om,by rw[Aa]⟩
   have b4:((nd t u).k == 4)=false:=beq_eq_false_iff_ne.2 h4;by_cases dI:(nd t u).k=46
   ·have Mq:JiH t u c=some (c == Jh t u):=by unfold JiH;rw[if_neg h4,if_pos (.inl dI)]
    have b46:((nd t u).k == 46)=true:=beq_iff_eq.2 dI;rw[Mq]at Aa;simp only[go_sem,Tr.row,Jb,XD,Ii,M6,Nd.cv,kbE,b4,b46];refine⟨om,om,?_⟩;refine J3 Jr vk ?_;simp only[go_sem,XD,ME,Ii,OD];refine⟨Ji,om,om,?_⟩;refine Kl (.inl rfl) (JdE g ht hu Ox) ?_;have en:=Jej (Jh t u) c;simp only[go_sem,en,Aa]
   have b46:((nd t u).k == 46)=false:=beq_eq_false_iff_ne.2 dI;by_cases Bp:(nd t u).k=47
   ·have Mq:JiH t u c=some (c == Jh t u):=by unfold JiH;rw[if_neg h4,if_pos (.inr Bp)]
    have b47:((nd t u).k == 47)=true:=beq_iff_eq.2 Bp;rw[Mq]at Aa;simp only[go_sem,Tr.row,Jb,XD,Ii,M6,Nd.cv,kbE,b4,b46,b47];refine⟨om,om,?_⟩;refine J3 Jr vk ?_;simp only[go_sem,XD,ME,Ii,OD];refine⟨Ji,om,om,?_⟩;refine Kl (.inl rfl) (JdE g ht hu Ox) ?_;have en:=Jej (Jh t u) c;simp only[go_sem,en,Aa]
   have b47:((nd t u).k == 47)=false:=beq_eq_false_iff_ne.2 Bp;by_cases DI:(nd t u).k=28
   ·have b28:((nd t u).k == 28)=true:=beq_iff_eq.2 DI;simp only[go_sem,Tr.row,Jb,XD,Ii,M6,Nd.cv,kbE,b4,b46,b47,b28];refine⟨om,om,?_⟩;refine J3 Jr vk ?_;by_cases Cq:(nd t c).k=43
    ·have Mq:JiH t u c=none:=by unfold JiH;rw[if_neg h4,iN7,if_pos DI,if_pos Cq]
     have b43:((nd t c).k == 43)=true:=beq_iff_eq.2 Cq;rw[Mq]at Aa;simp only[go_sem,XD,ME,OD,Jb,Dp,Nd.cv,kbN,b43,Gh];refine⟨Ji,om,om,Ji,i+1,[0],⟨om,Aa⟩,om,rfl,rfl,?_⟩;simp[forget,JB,ren,Jm]
    ·have Mq:JiH t u c=some false:=by unfold JiH;rw[if_neg h4,iN7,if_pos DI,if_neg Cq]
     have b43:((nd t c).k == 43)=false:=beq_eq_false_iff_ne.2 Cq;rw[Mq]at Aa;simp only[go_sem,XD,ME,OD,Jb,Dp,Nd.cv,kbN,b43,Gi];exact⟨Ji,om,om,by rw[Aa]⟩
   have b28:((nd t u).k == 28)=false:=beq_eq_false_iff_ne.2 DI;have Mq:JiH t u c=none:=by unfold JiH;rw[if_neg h4,iN7,if_neg DI]
   rw[Mq]at Aa;simp only[go_sem,Tr.row,Jb,XD,Ii,M6,Nd.cv,kbE,b4,b46,b47,b28];refine⟨om,om,Ji,i+1,[0],⟨om,Aa⟩,om,rfl,rfl,?_⟩;simp[forget,JB,ren,Jm]
  ·have d1:((i:Int)+1<(R.length:Int))=False:=Kq;rw[tdL_end om]at Aa;simp only[go_sem,XD,d1,Aa];exact Ji
end
theorem indexO{id:Nat}(hl:l.length<=1000000)(hH:H[id]? = some (.arr 1 (iz l))):CallsC Gc E 135 [.slc id 0 l.length none,.int .i64 x] H λv H'=>v=.int .i64 (X8 (λy=>x == y) l 0)/\H'=H:=by
 have Aj:(iz l).length=l.length:=Jf;refine J8 c135_ok λN=>?_
 simp only[c135,go_sem];refine JO (I:=λi:Nat=>i<=l.length/\X8 (λy=>x == y) l 0=X8 (λy=>x == y) (l.drop i) i) (inv:=λi=>gp [(0,.slc id 0 l.length none),(0,.int .i64 x),(5,.int .i64 (l.length:Int)),(0,.int .i64 (i:Int))] 10) (hp:=λ_=>H) (μ:=λi=>l.length-i) 0 ⟨om,rfl⟩ ?_ rfl ?_
 ·simp[forget,gp]
 ·rintro i ⟨hi,Aa⟩;by_cases Ab:i<l.length
  ·have d1:=dtT i l.length;have AA:=JL Ab;have Cn:l[i]? = some (l.getD i 0):=by rw[Gm,Gp Ab];rfl
   rw[Xx Cn]at Aa;simp only[go_sem,d1,hH,Aj,AA];generalize l.getD i 0=y at Aa AA|-;refine⟨om,om,?_⟩
   cases he:(x == y) with
   |true=>rw[he,if_pos rfl]at Aa;simp only[go_sem,Aa]
   |false=>rw[he]at Aa;simp only[go_sem];refine⟨Ji,i+1,⟨om,by simpa using Aa⟩,om,?_⟩;simp[forget]
  ·have d1:=dfF i l.length;rw[Gs om]at Aa;simp only[go_sem,d1,Aa,X8]
theorem containsO{id:Nat}(hl:l.length<=100000)(hH:H[id]? = some (KT 1 (iz l))):CallsC Gc E 85 [JW id (iz l),.int .i64 x] H λv H'=>v=.bool (l.contains x)/\H'=H:=by
 cases l with
 |nil=>exact(containsI [] x sM).args (args':=[.nils,.int .i64 x]) ⟨wk.nils,wk.refl _,trivial⟩ E H
 |cons y l=>
  rw[Kz,Jbq,<-Kz]at hH;have hc:=indexO (E:=E) (x:=x) (l:=y::l) om hH;rw[show JW id (iz (y::l))=.slc id 0 (y::l).length none by rw[Kz,Yk,Jf];rfl];generalize y::l=L at *;refine J8 c85_ok λN=>?_
  simp only[c85,go_sem];refine Ky (.inl rfl) hc λv H' ⟨h1,h2⟩=>?_
  subst h1 h2;have e:decide (0<=X8 (λy=>x == y) L 0)=L.contains x:=by rw[JaZ,Ht]
  simp only[go_sem,e]
theorem Jib:(iz l).drop n=iz (l.drop n):=by simp[iz]
def todoV (els:Lu)(off:Nat):CV:=match els with
 |[]=>.nils
 |_::_=>.slc 2 off (els.length-off) none
theorem Jgr {els:Lu}:todoV els 0=JW 2 (iz els):=by cases els <;> simp[todoV,iz,JW]
theorem Jhx {els:Lu}{off:Nat}(h:els≠[]):todoV els off=.slc 2 off (els.length-off) none:=by cases els <;> simp_all [todoV]
theorem Jc7:∀{l out:Lu},YE l out<=l.length
 |[],_=>GQ _
 |y::l,out=>by
  have:=Jc7 (l:=l) (out:=out);simp only[YE,Gg]
  split <;> omega
theorem Jh5{of:Lu}:∀x∈Qk t,(∀y∈QN t o of x.toNat,y∈Qk t)/\(QN t o of x.toNat).length<=(Qk t).length:=λx _=>⟨λy hy=>(GX.1 hy).1,Gz _ _⟩
section
variable(g:GoodT t o)(ht:t.Fit)
include g ht
theorem nAll {of:Lu}(ho:OfOk t of){s:Nat}(hs:s<t.nodes.length)(hk:(nd t s).k=41):Jeo Gc 86 [.agg (rRw t of),.int .i64 (s:Int)] 1 (iz (bfs (λx=>QN t o of x.toNat) (Qk t) (QN t o of s) [])):=by
 have Ah:=g.many;have Ao:(Qk t).length=t.nodes.length:=by simp[Qk]
 refine JfG (J8 c86_ok λN=>?_) rfl (Jd _);simp only[c86,go_sem,rRw];refine Je (id:=0) (z:=2) (els:=[rRw t of]) rfl rfl ?_;simp only[go_sem,JV,Kv,frz,Qj,Gf];refine XJ ?_;simp only[go_sem,G7,GA];refine Jgp (.inl rfl) (nNeeds g ht ho hs hk) ?_;simp only[go_sem];have BA:∀s':Nat,∀x∈QN t o of s',0<=x/\x<t.nodes.length/\(nd t x.toNat).k=41:=λs' x hx=>Jb2 g hx
 generalize hN:(λx:Int=>QN t o of x.toNat)=Nf;have Fz:∀x∈Qk t,(∀y∈Nf x,y∈Qk t)/\(Nf x).length<=(Qk t).length:=by rw[<-hN];exact Jh5
 have IX:∀x,∀y∈Nf x,0<=y/\y<t.nodes.length/\(nd t y.toNat).k=41:=λx y hy=>by rw[<-hN]at hy;exact BA _ y hy
 have h0:=BA s;have I9:(QN t o of s).length<=t.nodes.length:=by rw[<-Ao];exact Gz _ _
 generalize QN t o of s=T0 at h0 I9|-;generalize hR:bfs Nf (Qk t) T0 []=R;have Al:YE (Qk t) []*((Qk t).length+1)<=700*701:=Lg (GK Jc7 om) om;refine Js (σ:=Lu×Nat×Lu) (I:=λs'=>s'.2.1<=s'.1.length/\(∀x∈s'.1,0<=x/\x<t.nodes.length/\(nd t x.toNat).k=41)/\bfs Nf (Qk t) (s'.1.drop s'.2.1) s'.2.2=R/\muB (Qk t) (s'.1.drop s'.2.1) s'.2.2<=1000000/\s'.2.2.length+YE (Qk t) s'.2.2<=700)
  (inv:=λs'=>gp [(2,.rptr (rRw t of)),(1,JW 1 (iz s'.2.2)),(0,todoV s'.1 s'.2.1)] 26) (hp:=λs'=>[.dead,KT 1 (iz s'.2.2),KT 1 (iz s'.1)]) (μ:=λs'=>muB (Qk t) (s'.1.drop s'.2.1) s'.2.2) (T0,0,[]) [0,1,2] ⟨sM,h0,by simpa using hR,by simp only[Gf,muB];omega,by have:=Jc7 (l:=Qk t) (out:=[]);simp only[Gt];omega⟩ rfl ?_ ?_ ?_
 ·simp[forget,JB,ren,Jm,gp,rRw,Jgr,JS,XA,XN]
 ·simp only[Ko,Gb,Gd,go_sem,JG (Ja (Jd T0)),Jk,XN,YB]
 ·rintro⟨els,off,out⟩ ⟨MS,hP,hB,MW,A9⟩
  dsimp only at MS hP hB MW A9
  by_cases Ag:els=[]
  ·subst Ag;rw[List.drop_nil,bfs_nil]at hB;have d1:((0:Int) > 0)=False:=Kq;have d2:((0:Int)<0)=False:=Kq;simp only[go_sem,todoV,d1];rw[<-hB];exact .row (id:=1) rfl rfl
  ·have aH:KT 1 (iz els)=.arr 1 (iz els):=QX (by simpa [iz]using Ag);have Ef:(iz els).length=els.length:=Jf;rw[aH,Jhx Ag];by_cases Ab:off<els.length
   ·have d1:((0:Int)<((els.length-off:Nat):Int))=True:=KQ;have d2:(((els.length-off:Nat):Int) > 0)=True:=KQ;have AA:=JL Ab;have Il:els.drop off=els.getD off 0::els.drop (off+1):=by rw[GM Ab,Gm,Gp Ab];rfl
    have Ap:els.getD off 0∈els:=by rw[Gm,Gp Ab];exact Gw Ab
    have Uo:=hP _ Ap;have Ak:∀y∈els.drop off,y∈Qk t:=λy hy=>by have:=hP y (G5 hy);exact Kh.2 ⟨this.1,this.2.1⟩
    rw[Il]at hB Ak MW|-;have Pi:=MW;simp only[muB,Gg]at Pi;generalize hx:els.getD off 0=x at AA Uo hB Ak MW|-;have eF:(((els.length-off:Nat):Int)).toNat-(1:Int).toNat=els.length-(off+1):=om
    simp only[go_sem,d1,Ef,AA,Hl];refine⟨om,⟨om,GJ _⟩,?_⟩;have IK:x∈Qk t:=Ak x sM;have Bf:out.length<=700:=om
    refine Ky (.inl rfl) (containsO (id:=1) (l:=out) (x:=x) om rfl) λv H' ⟨h1,h2⟩=>?_
    subst h1 h2
    cases hc:out.contains x with
    |true=>
     rw[bfs_old Fz Ak hc]at hB;simp only[go_sem,Gh];refine⟨(els,off+1,out),[0,1,2],⟨by simp only;omega,hP,hB,by simp only[muB];omega,A9⟩,by simp only[muB,Gg];omega,rfl,?_,?_⟩
     ·simp only[Ko,Gb,Gd,go_sem,JG (Ja (Jd out)),Jj,Ja (Jd els),Jk,aH]
     ·simp[forget,JB,ren,Jm,JS,rRw,Jhx Ag];omega
    |false=>
     rw[bfs_new Fz Ak hc]at hB;have CQ:=YR IK hc;have aV:=Le ((Qk t).length+1) (show YE (Qk t) (out++[x])+1<=YE (Qk t) out from CQ);rw[Ho,Hm]at aV;have Dv:=(Fz x IK).2;obtain⟨xn,rfl⟩:∃x':Nat,x=x':=⟨x.toNat,om⟩;have Ip:=Uo.2.2;rw[Gl]at Ip;have cZ:QN t o of xn=Nf (xn:Int):=by rw[<-hN];simp only[Gl]
     have Ir:=IX (xn:Int);have Ur:=(nNeeds g ht ho (show xn<t.nodes.length by omega) Ip).fn rfl (Jd _);rw[cZ]at Ur;simp only[go_sem,Gi,Jf,Jw,rRw];refine⟨⟨om,om⟩,?_⟩;refine Kk Ur ?_;generalize Nf (xn:Int)=M at Dv Ir hB|-;have Pw:off+1+(els.length-off-1)=els.length:=om
     have Pv:(off+1+(els.length-off-1)=els.length)=True:=eq_true Pw;have hd:=HZ (i:=off+1) (l:=els)
     cases M with
     |nil=>
      simp only[go_sem,XN];rw[Gq]at hB;refine⟨(els,off+1,out++[(xn:Int)]),[0,4,2],⟨by simp only;omega,hP,hB,by simp only[muB];omega,by simp only[Gv,Gg,Gt];omega⟩,by simp only[muB,Gg];omega,rfl,?_,?_⟩
      ·rw[aH,KR,Kn];simp only[Ko,Gb,Gd,go_sem,Jj,Ja (Jd els),Jk];simp[Ja (Jd out),JB,ren]
      ·rw[Jhx Ag,KR,Km];simp[forget,JB,ren,Jm,Jf];omega
     |cons y ys=>
      simp only[go_sem,Kz,Ef,Pv,Jf,Jw];simp only[Gg]at Dv;refine⟨⟨om,om⟩,(els.drop (off+1)++y::ys,0,out++[(xn:Int)]),[0,4,5],⟨sM,λz hz=>?_,by simpa using hB,by simp only[Gf,muB,Gv,Gg];omega,by simp only[Gv,Gg,Gt];omega⟩,by simp only[Gf,muB,Gv,Gg];omega,rfl,?_,?_⟩
      ·rcases Hg.1 hz with h|h
       ·exact hP z (G5 h)
       ·exact Ir z h
      ·rw[KR,Kn,Qe,Kz,Kn,<-Jib];simp only[Ko,Gb,Gd,go_sem,Jj,Jk];rw[Jib];simp[Ja (Jd out),Ja (Jd (els.drop (off+1))),Ja (Jd ys),JB,ren]
      ·rw[Jgr,KR,Km,Qe,Kz,Km];simp[forget,JB,ren,Jm,Jf];omega
   ·obtain rfl:off=els.length:=om
    rw[H6,bfs_nil]at hB;have d1:((0:Int)<((els.length-els.length:Nat):Int))=False:=Kq;have d2:(((els.length-els.length:Nat):Int) > 0)=False:=Kq;simp only[go_sem,d1];rw[<-hB];exact .row (id:=1) rfl rfl
end
def q2Ok (l:LB)(es:List Lx)(bs bs2:LH)(i j:Nat)(p q:Lx):Bool:=
 (!(i == j) && decide (i<es.length) && decide (j<es.length)) && (Jd2 l.length p q &&
 ((l.length == bs.length && (JaF l.length (JaK es j i) (clo (JaK es j i)) && Qd l (clo (JaK es j i)) (bs.map Q4))) &&
 ((prl p l).length == bs2.length && (JaF (prl p l).length (pre p q (JaK es i j)) (clo (pre p q (JaK es i j))) && Qd (prl p l) (clo (pre p q (JaK es i j))) (bs2.map Q4)))))
theorem vr_dregQ{N:Fr}{k:LJ}{l:LB}{es:List Lx}(i j:Nat)(p q:Lx)(bs bs2:LH)(T':Ls)(H':Lt)(hm:P.follows .mixedOrders=true)(AJ:q2Ok l es bs bs2 i j p q=true)
  (h1:vdk P E (leads P E n0 N Q T' H') l bs T H) (h2:vdk P E (leads P E n0 N Q T' H') (prl p l) bs2 T H) (AB:KA P E n0 N Q k T' H'):Ok P E n0 N Q (.code (.dreg l es)::k) T H:=by
 unfold q2Ok at AJ;obtain⟨g0,r1⟩:=G9.1 AJ;obtain⟨g1,r2⟩:=G9.1 r1;obtain⟨g2,g3⟩:=G9.1 r2;exact JeQ hm (JaB i j g0 (Xi bs T' H' g2 (Jz _ _ _ AB) h1) (JaA p q g1 (Xi bs2 T' H' g3 (Jz _ _ _ AB) h2)))
theorem Jfv{v:Int}:(iz l).set i [.int .i64 v]=iz (l.set i v):=by simp[iz,Lb]
def oT (t:Tr):Ls:=[.rslc 5 (ndz t.nodes) none,.rslc 1 (iz t.items) none,.slc 1 0 t.nodes.length none,.slc 2 0 t.nodes.length (some t.nodes.length)]
section
variable(g:GoodT t o)(ht:t.Fit)
include g ht
theorem nOpen:Fn Gc 81 [t.cv] (.tup [.rptr (tRw t),.int .i64 0]):=by
 have Ah:=g.many;have bf:=g.items;have hc:chk t=0:=(JeJ t).2 ⟨o,g⟩;have e:(chk t != 0)=false:=by simp[hc]
 refine YK ?_ rfl rfl;refine J8 c81_ok λN=>?_
 simp only[c81,go_sem,Tr.cv,Tr.row];refine Je (id:=0) (z:=2) (els:=[t.row]) rfl rfl ?_;simp only[go_sem,JV,Kv,frz,Qj,Tr.row];refine Kk (parseCheck t ht) ?_;simp only[go_sem,e];have hz:GY t.nodes.length [CV.int .i64 0]=iz (Yn t 0):=by rw[itemTo_zero];simp[iz]
 have hR:=repeatO (-1) t.nodes.length om;rw[<-upTo_zero g]at hR;have aQ:=Ja (ρ:=[0,2,1,3]) (Jd (Yn t 0));have jf:=Ja (ρ:=[0,2,1,3]) (Jd (upTo t 0));refine vr_dregQ 5 9 [0,1,2,3,4,6,7,8,9,5,10,11,12] [0,1,2,3,4,9,5,6,7,8,10,11,12] [false,false,false,false,false,true,false,false,false,true,false,true,false] [false,false,false,false,false,false,false,false,true,true,false,true,false] (gp [(1,.rptr t.row),(3,.ptr 3 0 0)] 71) [.dead,.arr 1 (iz (upTo t 0)),.arr 1 (iz (Yn t 0)),.arr 4 [oT t]] Jr vM ?_ ?_ ?_
 ·simp only[go_sem,Tr.row];refine⟨_,_,hs_row (iz [-1]) rfl rfl rfl rfl,?_⟩;simp only[go_sem,Jb];refine⟨_,_,JcA (.inl rfl) (hR _ _),?_⟩;simp only[go_sem,Jb,hz];exact⟨⟨om,GJ _,om,om⟩,Jn (by simp[forget])⟩
 ·simp only[prl,QY,Gg,Gt,Gb,Gd,List.getD_cons_zero,List.getD_cons_succ,go_sem,Tr.row];refine⟨_,_,hs_row (iz [-1]) rfl rfl rfl rfl,?_⟩;simp only[go_sem,Jb,hz];refine⟨⟨om,GJ _,om,om⟩,?_⟩;refine⟨_,_,JcA (.inl rfl) (hR _ _),?_⟩;simp only[go_sem];refine JaT [0,2,1,3] rfl (by simp[forget,JB,ren,Jm]) ?_;simp only[Ko,Gb,Gd,go_sem,Jj,Jk,aQ,jf];simp[JB,ren,Jm,oT]
 ·simp only[gp,GY];simp only[go_sem,Tr.row,Jb];refine Js (I:=λi:Nat=>i<=t.nodes.length) (inv:=λi=>gp [(1,.rptr t.row),(3,.ptr 3 0 0),(24,.rslc 5 (ndz t.nodes) none),(0,.int .i64 (t.nodes.length:Int)),(0,.int .i64 (i:Int))] 44) (hp:=λi=>[.dead,.arr 1 (iz (upTo t i)),.arr 1 (iz (Yn t 0)),.arr 4 [oT t]]) (μ:=λi=>t.nodes.length-i) 0 [0,1,2,3] om rfl ?_ ?_ ?_
  ·simp[forget,JB,ren,Jm,gp,Tr.row]
  ·simp only[Ko,Gb,Gd,go_sem,Jj,Jk,Ja (Jd _)];simp[JB,ren,Jm,oT]
  ·intro i hi;by_cases Ab:i<t.nodes.length
   ·have d1:=dtT i t.nodes.length;have hg:=J7 Ab;have Aw:(iz (nd t i).kids).length=(nd t i).kids.length:=Jf;have BL:=(JfK ht Ab).kidn;have iB:=upTo_succ g Ab;simp only[go_sem,d1,Jb,hg,Nd.cv,Aw];refine anO ?_;refine Je (id:=4) (z:=5) (els:=[(nd t i).cv]) rfl rfl ?_;simp only[go_sem,JV,Kv,frz,Qj,oT,Gf,Jy (Jd _),Gb,Gd];refine JO (I:=λk:Nat=>k<=(nd t i).kids.length) (inv:=λk=>gp [(1,.rptr t.row),(3,.ptr 3 0 0),(0,.int .i64 (i:Int)),(23,.rslc 5 (ndz t.nodes) none),(0,.int .i64 (t.nodes.length:Int)),(0,.int .i64 (i:Int)),(5,.rslc 1 (iz (nd t i).kids) none),(0,.int .i64 ((nd t i).kids.length:Int)),(0,.int .i64 (k:Int))] 36) (hp:=λk=>[.dead,.arr 1 (iz (XK i (upTo t i) ((nd t i).kids.take k))),.arr 1 (iz (Yn t 0)),.arr 4 [oT t],.dead]) (μ:=λk=>(nd t i).kids.length-k) 0 om ?_ rfl ?_
    ·simp[forget,gp,Tr.row]
    ·intro k hk;by_cases Dm:k<(nd t i).kids.length
     ·have d2:=dtT k (nd t i).kids.length;have ED:=JL Dm;have Ap:(nd t i).kids.getD k 0∈(nd t i).kids:=by rw[Gm,Gp Dm];exact Gw Dm
      have hr:=g.kid Ab Ap;have BJ:XK (i:Int) (upTo t i) ((nd t i).kids.take (k+1))=(XK (i:Int) (upTo t i) ((nd t i).kids.take k)).set ((nd t i).kids.getD k 0).toNat i:=by rw[GZ Dm,Jcs,Gm,Gp Dm];rfl
      have CL:(XK (i:Int) (upTo t i) ((nd t i).kids.take k)).length=t.nodes.length:=by rw[JbT,Y7]
      generalize (nd t i).kids.getD k 0=c at ED hr BJ;obtain⟨c,rfl⟩:∃c':Nat,c=c':=⟨c.toNat,om⟩;rw[Gl]at BJ;generalize XK (i:Int) (upTo t i) ((nd t i).kids.take k)=r at BJ CL|-;have RZ:(iz r).length=t.nodes.length:=by rw[Jf,CL]
      have DT:=JL (l:=r) (i:=c) om;simp only[go_sem,d2,Aw,ED,oT,RZ,DT,Gg,Gt,GR,Gf,Jfv];refine⟨om,om,om,Ji,k+1,om,om,?_,?_⟩
      ·rw[BJ]
      ·simp[forget,Tr.row]
     ·have d2:=dfF k (nd t i).kids.length;rw[Gu om,<-iB];simp only[go_sem,d2];refine⟨Ji,i+1,[0,1,2,3],om,om,rfl,?_,?_⟩
      ·simp only[Ko,Gb,Gd,go_sem,Jj,Jk,Ja (Jd _)];simp[JB,ren,Jm,oT]
      ·simp[forget,JB,ren,Jm,Tr.row]
   ·have d1:=dfF i t.nodes.length;obtain rfl:i=t.nodes.length:=om
    rw[upTo_all g];simp only[go_sem,d1,Tr.row,Jb];refine Js (I:=λi:Nat=>i<=t.nodes.length/\(i=0\/i<=t.nodes.length)/\Qn t i<=t.items.length) (inv:=λi=>gp [(1,.rptr t.row),(3,.ptr 3 0 0),(4,.int .i64 (Qn t i:Int)),(44,.int .i64 (t.nodes.length:Int)),(0,.int .i64 (i:Int))] 20) (hp:=λi=>[.dead,.arr 1 (iz (upT t)),.arr 1 (iz (Yn t i)),.arr 4 [oT t]]) (μ:=λi=>t.nodes.length-i) 0 [0,1,2,3] ⟨om,.inl rfl,by rw[JgZ g];omega⟩ rfl ?_ ?_ ?_
    ·simp[forget,JB,ren,Jm,gp,Tr.row,JgZ g]
    ·simp only[Ko,Gb,Gd,go_sem,Jj,Jk,Ja (Jd _)];simp[JB,ren,Jm,oT]
    ·rintro i ⟨hi,_,AO⟩;by_cases Ab:i<t.nodes.length
     ·have d1:=dtT i t.nodes.length;obtain⟨L,h1,h2,h3,h4,h5⟩:=itemN_step g Ab;have O1:=itemTo_succ Ab;have RZ:(iz (Yn t i)).length=t.nodes.length:=by rw[Jf,JgY om]
      have DT:=JL (l:=Yn t i) (i:=i) (by rw[JgY om];exact Ab);have AA:=JL (l:=t.items) h1;rw[h2]at AA;have Aj:(iz t.items).length=t.items.length:=Jf;by_cases he:i=L
      ·have e1:((i:Int) == (L:Int))=true:=by simp[he]
       rw[if_pos he]at h5;simp only[go_sem,d1,Tr.row,oT,RZ,DT,Aj,AA,e1,Gg,Gt,GR,Gf,Jfv];refine⟨om,om,om,Ji,Ji,i+1,[0,1,2,3],⟨om,.inr om,om⟩,om,rfl,?_,?_⟩
       ·rw[<-O1];simp only[Ko,Gb,Gd,go_sem,Jj,Jk,Ja (Jd _)];simp[JB,ren,Jm]
       ·rw[h5];simp[forget,JB,ren,Jm]
      ·have e1:((i:Int) == (L:Int))=false:=beq_eq_false_iff_ne.2 om;rw[if_neg he]at h5;simp only[go_sem,d1,Tr.row,oT,RZ,DT,Aj,AA,e1,Gg,Gt,GR,Gf,Jfv];refine⟨om,om,om,Ji,i+1,[0,1,2,3],⟨om,.inr om,om⟩,om,rfl,?_,?_⟩
       ·rw[<-O1];simp only[Ko,Gb,Gd,go_sem,Jj,Jk,Ja (Jd _)];simp[JB,ren,Jm]
       ·rw[h5];simp[forget,JB,ren,Jm]
     ·have d1:=dfF i t.nodes.length;obtain rfl:i=t.nodes.length:=om
      rw[itemTo_all];simp only[go_sem,d1];refine .step 1 1 (iz (upT t)) rfl (Jd _) (.step 2 1 (iz (Jek t)) ?_ (Jd _) (.step 3 4 [tRw t] ?_ rfl (.done ?_)))
      ·simp only[Kv,Qj,JV,frz,oT,Gb,Gd,GV,GU,List.getElem?_cons_succ,List.getElem?_cons_zero,Jy (Jd _)]
      ·have q1:(iz (upT t)).take t.nodes.length=iz (upT t):=Gu (by rw[Jf,JeR];omega);have q2:(iz (Jek t)).take t.nodes.length=iz (Jek t):=Gu (by rw[Jf,Jdb];omega);simp[Kv,Qj,JV,frz,oT,tRw,Jf,JeR,Jdb,q1,q2]
      ·simp[frz,JV];exact wk.refl _
end
theorem Jip(h:∀x∈l,0<=x/\x<n) : -1<=(match l.find? q with|some d=>d|none=>-1)/\(match l.find? q with|some d=>d|none=>-1)<(n:Int):=by
 cases hf:l.find? q with
 |none=>simp;omega
 |some d=>have:=h d (List.mem_of_find?_eq_some hf);simp only;omega
theorem JeB : -1<=JD t o i/\JD t o i<t.nodes.length:=by
 unfold JD JgS Jcn Jay;have h:∀x∈Qk t,0<=x/\x<(t.nodes.length:Int):=λx hx=>Kh.1 hx
 split
 ·exact Jip h
 ·split
  ·exact Jip h
  ·split
   ·exact Jip h
   ·omega
theorem Xu:(ofL t o).length=t.nodes.length:=by simp[ofL]
theorem Jh4(h:i<t.nodes.length):(ofL t o).getD i 0=JD t o i:=by simp[ofL,Gm,h]
theorem ofL_take(h:i<t.nodes.length):(ofL t o).take (i+1)=(ofL t o).take i++[JD t o i]:=by rw[GZ (by rw[Xu];exact h)];simp[ofL]
theorem ofL_ok:OfOk t (ofL t o):=⟨Xu,λi hi=>by rw[Xu]at hi;rw[Jh4 hi];exact JeB⟩
def resV (t:Tr)(o:Lu):CV:=match Yc t o 6 10 (Ga t.nodes.length) with
 |some r=>.tup [.agg [.rptr (tRw t),.rslc 1 (iz ((ofL t o).take r.1)) none],.int .i64 (r.1:Int),.int .i64 r.2]
 |none=>match (Ga t.nodes.length).find? (stN t o) with
  |some i=>.tup [.agg (rRw t (ofL t o)),.int .i64 (i:Int),.int .i64 9]
  |none=>.tup [.agg (rRw t (ofL t o)),.int .i64 0,.int .i64 0]
theorem resV_closed:(resV t o).closed=true:=by
 unfold resV
 split
 ·rfl
 ·split <;> rfl
theorem frzs_row{id:Nat}{x:CV}{ys:Ls}(hx:x.closed=true)(hy:Jp ys=true)(h:H[id]? = some (KT 1 (iz l))):Frzs (.tup (.agg [x,.rslc 1 (iz l) none]::ys)) (.tup (.agg [x,JW id (iz l)]::ys)) H:=by
 cases l with
 |nil=>exact .done (YN ⟨Ja4 ⟨wk.refl _,wk.nils,trivial⟩,wks.refl _⟩)
 |cons a l=>
  refine .step id 1 (iz (a::l)) h (Jd _) (.done ?_);have e:frz id 1 (iz (a::l)) (JW id (iz (a::l)))=.rslc 1 (iz (a::l)) none:=by rw[Kz,Yk];simp[frz]
  simp only[frz,JV,e,QU x hx,QG ys hy];exact wk.refl _
theorem bfs_len {N:Int->Lu}(hN:∀x∈l,∀y∈N x,y∈l):∀(f:Nat) (todo out:Lu),(∀x∈todo,x∈l)->(Jgb N f todo out).length<=out.length+YE l out
 |0,_,out,_=>Lf _ _
 |f+1,[],out,_=>Lf _ _
 |f+1,x::todo,out,h=>by
  rw[Jgb]
  cases hc:out.contains x with
  |true=>rw[if_pos rfl];exact bfs_len hN f todo out λy hy=>h y (by simp[hy])
  |false=>
   rw[if_neg sM];have hx:=h x sM;have h1:=bfs_len hN f (todo++N x) (out++[x]) λy hy=>by
    rcases Hg.1 hy with h2|h2
    ·exact h y (by simp[h2])
    ·exact hN x hx y h2
   have h2:=YR hx hc;simp only[Gv,Gg,Gt]at h1;omega
section
variable(g:GoodT t o)(ht:t.Fit)
include g ht
theorem nResolve0:Fn Gc 51 [t.cv] (resV t o):=by
 have Ah:=g.many;refine YK ?_ rfl resV_closed;refine J8 c51_ok λN=>?_
 simp only[c51,go_sem,Tr.cv,Tr.row];refine Je (id:=0) (z:=2) (els:=[t.row]) rfl rfl ?_;simp only[go_sem,JV,Kv,frz,Qj,Tr.row];refine Kk (nOpen g ht) ?_;simp only[go_sem,tRw,Jb];refine XJ ?_;simp only[go_sem,G7,GA];refine Js (I:=λi:Nat=>i<=t.nodes.length/\Yc t o 6 10 (Ga t.nodes.length)=Yc t o 6 10 ((Ga t.nodes.length).drop i)) (inv:=λi=>gp [(2,.ptr 1 0 0),(2,.rptr (tRw t)),(20,.int .i64 (t.nodes.length:Int)),(0,.int .i64 (i:Int))] 53) (hp:=λi=>[.dead,.arr 2 [[.rptr (tRw t),JW 2 (iz ((ofL t o).take i))]],KT 1 (iz ((ofL t o).take i))]) (μ:=λi=>t.nodes.length-i) 0 [0,1,2] ⟨om,by rw[Gf]⟩ rfl ?_ ?_ ?_
 ·simp[forget,JB,ren,Jm,gp,tRw]
 ·simp[Ko,JB,ren,Yd,JW,KT,iz,tRw]
 ·rintro i ⟨hi,Aa⟩;have Cj:((ofL t o).take i).length=i:=by rw[G6,Xu];omega
  by_cases Ab:i<t.nodes.length
  ·have d1:=dtT i t.nodes.length;have Ia:=ofL_take (o:=o) Ab;rw[QK Ab,Yc]at Aa;have Db:∀a:Int,Yc t o 6 10 (Ga t.nodes.length)=some (i,a)->resV t o=.tup [.agg [.rptr (tRw t),.rslc 1 (iz ((ofL t o).take i)) none],.int .i64 (i:Int),.int .i64 a]:=λa h=>by unfold resV;rw[h]
   generalize (ofL t o).take i=acc at Cj Ia Db|-;simp only[go_sem,d1];refine Kk (nMeaning g ht Ab) ?_;simp only[go_sem];refine Kk (nTwice om Ab) ?_
   cases EO:twN t i with
   |true=>rw[EO,if_pos rfl]at Aa;rw[Db 6 Aa];simp only[go_sem];exact frzs_row rfl rfl rfl
   |false=>
    rw[EO]at Aa
    cases EZ:JN t i with
    |false=>
     rw[if_neg sM,if_neg (by rw[EZ];simp)]at Aa;simp only[go_sem,Jf,Jw];refine⟨⟨om,om⟩,Ji,i+1,[0,1,4],⟨om,Aa⟩,om,rfl,?_,?_⟩
     ·rw[Ia,KR,Kn,Km];simp only[Ko,Gb,Gd,go_sem,Jj,Jk];simp[Ja (Jd acc),JB,ren,Jm,Jf]
     ·simp[forget,JB,ren,Jm]
    |true=>
     cases MB:(JD t o i == -1) with
     |true=>rw[if_neg sM,if_pos (by rw[EZ,MB];rfl)]at Aa;rw[Db 10 Aa];simp only[go_sem,MB];exact frzs_row rfl rfl rfl
     |false=>
      rw[if_neg sM,if_neg (by rw[EZ,MB];simp)]at Aa;simp only[go_sem,MB,Jf,Jw];refine⟨⟨om,om⟩,Ji,i+1,[0,1,4],⟨om,Aa⟩,om,rfl,?_,?_⟩
      ·rw[Ia,KR,Kn,Km];simp only[Ko,Gb,Gd,go_sem,Jj,Jk];simp[Ja (Jd acc),JB,ren,Jm,Jf]
      ·simp[forget,JB,ren,Jm]
  ·have d1:=dfF i t.nodes.length;obtain rfl:i=t.nodes.length:=om
   rw[show (Ga t.nodes.length).drop t.nodes.length=[] from Gs sM,Yc]at Aa;have Db:resV t o=match (Ga t.nodes.length).find? (stN t o) with|some i=>.tup [.agg (rRw t (ofL t o)),.int .i64 (i:Int),.int .i64 9]|none=>.tup [.agg (rRw t (ofL t o)),.int .i64 0,.int .i64 0]:=by unfold resV;rw[Aa]
   rw[Db,Gu (by rw[Xu];omega)];by_cases h0:t.nodes.length=0
   ·have Cs:ofL t o=[]:=List.length_eq_zero_iff.1 (by rw[Xu];exact h0);have d2:((0:Int)<(t.nodes.length:Int))=False:=Kq;have R3:Ga t.nodes.length=[]:=by rw[h0];rfl
    rw[Cs,XN,XA,YB,R3,GI];simp only[go_sem,d1,tRw,Jb];refine JO (σ:=Unit) (I:=λ_=>True) (inv:=λ_=>gp [(2,.ptr 1 0 0),(2,.rptr (tRw t)),(56,.int .i64 (t.nodes.length:Int)),(0,.int .i64 0)] 17) (hp:=λ_=>[.dead,.arr 2 [[.rptr (tRw t),.nils]],.dead]) (μ:=λ_=>0) () trivial ?_ rfl ?_
    ·simp[forget,gp,tRw]
    ·intro _ _;simp only[go_sem,d2];exact .done (YN ⟨Ja4 ⟨wk.refl _,wk.nils,trivial⟩,wks.refl _⟩)
   ·have Sb:iz (ofL t o)≠[]:=by intro e;have:=congrArg Lc e;rw[Jf,Xu]at this;exact h0 (by simpa using this)
    have Cc:=Xu (t:=t) (o:=o);rw[Xb Sb,QX Sb,Jf,Cc];simp only[go_sem,d1,tRw,Jb];refine Je (id:=2) (z:=1) (els:=iz (ofL t o)) rfl (Jd _) ?_;have EE:G8 t.nodes.length (iz (ofL t o))=iz (ofL t o):=Gu (by rw[Jf,Cc];omega);simp only[go_sem,JV,Kv,frz,Qj,Gb,Gd,Gf,GN,if_true,Jf,Cc,GQ,EE,GV,GU];refine Js (I:=λi:Nat=>i<=t.nodes.length/\(Ga t.nodes.length).find? (stN t o)=((Ga t.nodes.length).drop i).find? (stN t o)) (inv:=λi=>gp [(2,.ptr 1 0 0),(2,.rptr (tRw t)),(56,.int .i64 (t.nodes.length:Int)),(0,.int .i64 (i:Int))] 17) (hp:=λ_=>[.dead,.arr 2 [rRw t (ofL t o)],.dead]) (μ:=λi=>t.nodes.length-i) 0 [0,1,2] ⟨om,by rw[Gf]⟩ rfl ?_ ?_ ?_
    ·simp[forget,JB,ren,Jm,gp,tRw]
    ·simp[Ko,JB,ren,Yd,rRw,tRw]
    ·rintro i ⟨hi,Aa⟩;by_cases Ab:i<t.nodes.length
     ·have d1:=dtT i t.nodes.length;rw[QK Ab,GH]at Aa;simp only[go_sem,d1];refine Kk (nKind t Ab) ?_
      cases hk:((nd t i).k == 41) with
      |false=>
       have Al:stN t o i=false:=by unfold stN;rw[hk];rfl
       rw[Al]at Aa;simp only[go_sem,kbE,hk];refine⟨Ji,i+1,[0,1,2],⟨om,Aa⟩,om,rfl,?_,?_⟩
       ·simp[Ko,JB,ren,Yd,rRw]
       ·simp[forget,JB,ren,Jm]
      |true=>
       have Al:stN t o i=(bfs (λx=>QN t o (ofL t o) x.toNat) (Qk t) (QN t o (ofL t o) i) []).contains (i:Int):=by unfold stN;rw[hk,Gj]
       have hA:=(nAll g ht (ofL_ok (o:=o)) Ab (beq_iff_eq.1 hk)).fn rfl (Jd _);have Be:(bfs (λx=>QN t o (ofL t o) x.toNat) (Qk t) (QN t o (ofL t o) i) []).length<=100000:=by
        have h1:=bfs_len (N:=λx=>QN t o (ofL t o) x.toNat) (l:=Qk t) (λx hx=>(Jh5 x hx).1) (muB (Qk t) (QN t o (ofL t o) i) []+1) (QN t o (ofL t o) i) [] (λx hx=>(GX.1 hx).1);have h2:=Jc7 (l:=Qk t) (out:=[]);have h3:(Qk t).length=t.nodes.length:=by simp[Qk]
        simp only[Gt]at h1;show (Jgb _ _ _ _).length<=_;omega
       generalize bfs (λx=>QN t o (ofL t o) x.toNat) (Qk t) (QN t o (ofL t o) i) []=B at Al hA Be;simp only[go_sem,kbE,hk,rRw];refine Kt (gok rfl) hA ?_;simp only[go_sem];refine Kt (gok rfl) (containsI B (i:Int) Be) ?_
       cases hc:B.contains (i:Int) with
       |false=>
        rw[Al,hc]at Aa;simp only[go_sem];refine⟨Ji,i+1,[0,1,2],⟨om,Aa⟩,om,rfl,?_,?_⟩
        ·simp[Ko,JB,ren,Yd]
        ·simp[forget,JB,ren,Jm]
       |true=>rw[Al,hc]at Aa;rw[Aa];simp only[go_sem];exact .done (wk.refl _)
     ·have d1:=dfF i t.nodes.length;rw[show (Ga t.nodes.length).drop i=[] from Gs (by simp;omega),GI]at Aa;rw[Aa];simp only[go_sem,d1,rRw];exact .done (wk.refl _)
theorem nResolve:Fn Gc 29 [t.cv] (if (QO t o).2=0 then .tup [.agg [.rslc 1 (iz (ofL t o)) none],.int .i64 0,.int .i64 0] else .tup [.agg [.nils],.int .i64 ((QO t o).1:Int),.int .i64 (QO t o).2]):=by
 have hV:=nResolve0 g ht;refine Jc c29_ok rfl (by split <;> rfl) λN=>?_
 simp only[c29,go_sem,Tr.cv,Tr.row];refine Kk hV ?_;unfold QO resV
 cases hs:Yc t o 6 10 (Ga t.nodes.length) with
 |some r=>
  have hr:∀l:Lx,Yc t o 6 10 l=some r->r.2=6\/r.2=10:=by
   intro l
   induction l with
   |nil=>intro h;cases h
   |cons x l ih=>
    intro h;rw[Yc]at h
    split at h
    ·cases h;exact .inl rfl
    ·split at h
     ·cases h;exact .inr rfl
     ·exact ih h
  have h2:=hr _ hs;have e1:(r.2 != 0)=true:=bne_iff_ne.2 om;simp only;rw[iN7];simp only[go_sem,e1]
 |none=>
  simp only
  cases hf:(Ga t.nodes.length).find? (stN t o) with
  |some i=>simp only;rw[if_neg vk];simp only[go_sem,rRw]
  |none=>simp only[if_true];simp only[go_sem,rRw]
end
def rE (t:Tr)(o:Lu):Ls:=match Yc t o 6 10 (Ga t.nodes.length) with
 |some r=>[.rptr (tRw t),.rslc 1 (iz ((ofL t o).take r.1)) none]
 |none=>rRw t (ofL t o)
theorem rE_ok(h:(QO t o).2=0):rE t o=rRw t (ofL t o):=by
 unfold rE;unfold QO at h
 cases hs:Yc t o 6 10 (Ga t.nodes.length) with
 |some r=>
  rw[hs]at h;have hr:∀l:Lx,Yc t o 6 10 l=some r->r.2=6\/r.2=10:=by
   intro l
   induction l with
   |nil=>intro h;cases h
   |cons x l ih=>
    intro h;rw[Yc]at h
    split at h
    ·cases h;exact .inl rfl
    ·split at h
     ·cases h;exact .inr rfl
     ·exact ih h
  have:=hr _ hs;simp only at h;omega
 |none=>rfl
section
variable(g:GoodT t o)(ht:t.Fit)
include g ht
end
theorem vr_pc{N:Fr}{k:LJ}{d:Option Nat}{g:Option (Nat×Bool)}{xa:LK}{l:LB}{v:CV}(hg:GOk T g)(Af:Pure P E f (xa.map (Ke T)) H v)(h:KA P E n0 N Q (.ops l::k) (put T d v) H):Ok P E n0 N Q (.ops (⟨d,.call f xa,g⟩::l)::k) T H:=Ky hg Af λv' H' ⟨h1,h2⟩=>by rw[h1,h2];exact h
theorem indexFP(l:Lu)(q:Int->Bool)(hF:Jg Gc f=some F)
  (hq:∀p∈l,Pure Gc E f (l1++[.int .i64 p]++l2) H (.bool (q p))) (Ad:l.length<=1000000):Pure Gc E 41 [.rslc 1 (iz l) none,.fn f l1 l2] H (.int .i64 (X8 q l 0)):=by
 have Aj:(iz l).length=l.length:=Jf;refine J8 c41_ok λN=>?_
 simp only[c41,go_sem,Aj];refine JO (I:=λi:Nat=>i<=l.length/\X8 q l 0=X8 q (l.drop i) i) (inv:=λi=>gp [(0,.rslc 1 (iz l) none),(0,.fn f l1 l2),(5,.int .i64 l.length),(0,.int .i64 i)] 10) (hp:=λ_=>H) (μ:=λi=>l.length-i) 0 ⟨om,rfl⟩ ?_ rfl ?_
 ·simp[forget,gp]
 ·rintro i ⟨hi,Aa⟩;by_cases Ab:i<l.length
  ·have d1:=dtT i l.length;have AA:=JL Ab;have Cn:l[i]? = some (l.getD i 0):=by rw[Gm,Gp Ab];rfl
   have hm:l.getD i 0∈l:=Hu Cn;rw[Xx Cn]at Aa;simp only[go_sem,Aj,d1,AA];refine anO ?_;refine vr_pcallv (.inl rfl) rfl hF (Jc0 pNames _) (hq _ hm) ?_
   cases hb:q (l.getD i 0) with
   |true=>rw[hb,if_pos rfl]at Aa;simp only[go_sem,Aa]
   |false=>rw[hb]at Aa;simp only[go_sem];refine⟨Ji,i+1,⟨om,by simpa using Aa⟩,om,?_⟩;simp[forget]
  ·have d1:=dfF i l.length;rw[Gs om]at Aa;simp only[go_sem,d1,Aa,X8]
theorem containsFP(l:Lu)(q:Int->Bool)(hF:Jg Gc f=some F)
  (hq:∀p∈l,Pure Gc E f (l1++[.int .i64 p]++l2) H (.bool (q p))) (Ad:l.length<=1000000):Pure Gc E 44 [.rslc 1 (iz l) none,.fn f l1 l2] H (.bool (l.any q)):=by
 refine J8 c44_ok λN=>?_
 simp only[c44,go_sem];refine vr_pc (.inl rfl) (indexFP l q hF hq Ad) ?_;simp only[go_sem,JaZ]
section
variable(g:GoodT t o)(ht:t.Fit)
include g ht
omit g ht in
theorem res_st (hE:(QO t o).2=0)(hi:i<t.nodes.length):stN t o i=false:=by
 unfold QO at hE
 cases hs:Yc t o 6 10 (Ga t.nodes.length) with
 |some r=>
  have h1:=rE_ok (t:=t) (o:=o) (by unfold QO;exact hE);rw[hs]at hE;unfold rE rRw at h1;rw[hs]at h1;simp only[List.cons.injEq,CV.rslc.injEq,true_and,and_true]at h1;have hr:∀l:Lx,Yc t o 6 10 l=some r->r.2=6\/r.2=10:=by
   intro l
   induction l with
   |nil=>intro h;cases h
   |cons x l ih=>
    intro h;rw[Yc]at h
    split at h
    ·cases h;exact .inl rfl
    ·split at h
     ·cases h;exact .inr rfl
     ·exact ih h
  have:=hr _ hs;simp only at hE;omega
 |none=>
  rw[hs]at hE;simp only at hE
  cases hf:(Ga t.nodes.length).find? (stN t o) with
  |some k=>rw[hf]at hE;simp only at hE;omega
  |none=>have:=List.find?_eq_none.1 hf i (La.2 hi);simpa using this
end
def bb (l:LH):LM:=l.map λb=>[.bool b]
theorem bb_len {l:LH}:(bb l).length=l.length:=by simp[bb]
theorem bb_get {l:LH}(h:i<l.length):(bb l).getD i []=[.bool (l.getD i false)]:=by simp[bb,Gm,Gp h]
theorem Xy:∀(l:LH),Jq (bb l)=true
 |[]=>rfl
 |x::l=>by simp[bb,Jq,Jp,CV.closed];exact Xy l
theorem bb_set {l:LH}{b:Bool}:(bb l).set i [.bool b]=bb (l.set i b):=by simp[bb,Lb]
theorem bb_rep:GY n [CV.bool false]=bb (GY n false):=by simp[bb]
def Jeh (l:LH)(i:Nat):Lu:=((Ga i).filter λj=>l.getD j false).map λj:Nat=>(j:Int)
theorem setTo_succ {l:LH}:Jeh l (i+1)=Jeh l i++if l.getD i false=true then [(i:Int)] else []:=by
 unfold Jeh;rw[Hf,Hz,H7,H5,H9]
 split <;> rfl
theorem setTo_len {l:LH}:(Jeh l i).length<=i:=by unfold Jeh;rw[H8];exact GK (Gz _ _) sM
theorem refSet (l:LH)(hl:l.length<=100000):Jga Gc 102 [.rslc 1 (bb l) none] 1 (iz (setL l)):=by
 have Be:(bb l).length=l.length:=bb_len;refine JfH (J8 c102_ok λN=>?_) rfl (Jd _);simp only[c102,go_sem];refine Js (I:=λi:Nat=>i<=l.length) (inv:=λi=>gp [(0,.rslc 1 (bb l) none),(2,.slc 0 0 (iz (Jeh l i)).length (JaJ (iz (Jeh l i)))),(0,.int .i64 (i:Int))] 16) (hp:=λi=>[.arr 1 (iz (Jeh l i))]) (μ:=λi=>l.length-i) 0 [0] om rfl ?_ ?_ ?_
 ·simp[forget,JB,ren,Jm,gp,Jeh,iz,JaJ]
 ·simp[Ko,Yd,Jeh,iz]
 ·intro i hi;by_cases Ab:i<l.length
  ·have d1:=dtT i l.length;have AA:=bb_get Ab;have Al:=setTo_succ (l:=l) (i:=i);have CL:=setTo_len (l:=l) (i:=i);have Ar:=Ja (ρ:=[0]) (Jd (Jeh l i));have bL:=Ja (ρ:=[2]) (Jd (Jeh l i))
   cases hb:l.getD i false with
   |false=>
    rw[hb,if_neg sM,Gq]at Al;rw[hb]at AA;simp only[go_sem,Be,d1,AA];refine⟨om,Ji,i+1,[0],om,om,rfl,?_,?_⟩
    ·rw[Al];simp only[Ko,Gb,Gd,go_sem,Jj,Ar]
    ·rw[Al];simp[forget,JB,ren,Jm]
   |true=>
    rw[hb,if_pos rfl]at Al;rw[hb]at AA;simp only[go_sem,Be,d1,AA,Jw,Jf];refine⟨om,⟨om,om⟩,Ji,i+1,[2],om,om,rfl,?_,?_⟩
    ·rw[Al,KR];simp only[Ko,Gb,Gd,go_sem,Jj];simp[bL,JB,ren]
    ·rw[Al,KR,YH];simp[forget,JB,ren,Jm]
  ·have d1:=dfF i l.length;obtain rfl:i=l.length:=om
   simp only[go_sem,Be,d1];exact⟨0,rfl,rfl⟩
theorem refHas3 (l:Lu)(x:Int)(hl:l.length<=100000):Fn Gc 60 [.rslc 1 (iz l) none,.int .i64 x] (.bool (l.contains x)):=by
 have Aj:(iz l).length=l.length:=Jf;refine Jc c60_ok rfl rfl λN=>?_
 simp only[c60,go_sem];refine JO (I:=λi:Nat=>i<=l.length/\l.contains x=(l.drop i).contains x) (inv:=λi=>gp [(0,.rslc 1 (iz l) none),(0,.int .i64 x),(3,.int .i64 (i:Int))] 12) (hp:=λ_=>[]) (μ:=λi=>l.length-i) 0 ⟨om,rfl⟩ ?_ rfl ?_
 ·simp[forget,gp]
 ·rintro i ⟨hi,Aa⟩;by_cases Ab:i<l.length
  ·have d1:=dtT i l.length;have AA:=JL Ab;rw[GM Ab,HV,show l[i]=l.getD i 0 by rw[Gm,Gp Ab];rfl]at Aa;generalize l.getD i 0=y at Aa AA;have hc:(x == y)=(y == x):=by rw[Hq,beq_iff_eq,beq_iff_eq];exact⟨Eq.symm,Eq.symm⟩
   rw[hc]at Aa
   cases he:(y == x) with
   |true=>rw[he,Gy]at Aa;simp only[go_sem,Aj,d1,AA,he,Aa];omega
   |false=>rw[he,Gr]at Aa;simp only[go_sem,Aj,d1,AA,he];refine⟨om,Ji,i+1,⟨om,Aa⟩,om,?_⟩;simp[forget]
  ·have d1:=dfF i l.length;rw[show l.drop i=[] from Gs om,HY]at Aa;simp only[go_sem,Aj,d1,Aa]
section
variable(g:GoodT t o)(ht:t.Fit)
include g ht
theorem refNeeds {of:Lu}(ho:OfOk t of){s:Nat}(hs:s<t.nodes.length)(hk:(nd t s).k=41):Jga Gc 101 [t.cv,.rslc 1 (iz of) none,.int .i64 (s:Int)] 1 (iz (Y3 t o of s)):=by
 have Ah:=g.many;have Bf:(iz of).length=t.nodes.length:=by rw[Jf,ho.len]
 have RH:=set_kid g hs hk;have CK:Jh t s<t.nodes.length:=by have:=(JC g hs RH.1).2;omega
 rw[needR_eq];refine JfH (J8 c101_ok λN=>?_) rfl (Jd _);simp only[c101,go_sem,Tr.cv,Tr.row];refine Je (id:=0) (z:=2) (els:=[t.row]) rfl rfl ?_;simp only[go_sem,JV,Kv,frz,Qj,Gb,Gd];refine Xz [false,false,false,true,false,false,false,false,false] Jr vM ?_;simp only[go_sem,Tr.row,Jb];refine⟨⟨om,GJ _,om,om⟩,?_⟩;refine vh_f (Jcm g ht hs) ?_;simp only[go_sem];rw[bb_rep,<-Jd5];have PE:∀(i:Nat) (p:Nat->Bool),(Ga (i+1)).any p=((Ga i).any p || p i):=λi p=>by rw[Hf,List.any_append,Gx,GD,GL]
 refine Js (I:=λi:Nat=>i<=t.nodes.length) (inv:=λi=>gp [(1,.rslc 1 (iz of) none),(0,.int .i64 (s:Int)),(0,.rptr t.row),(3,.slc 1 0 t.nodes.length (some t.nodes.length)),(0,.int .i64 (Kg t s)),(0,.int .i64 (i:Int))] 73) (hp:=λi=>[.dead,.arr 1 (bb (K7 t.nodes.length λx=>(Ga i).any (Jcf t o of s x)))]) (μ:=λi=>t.nodes.length-i) 0 [0,1] om rfl ?_ ?_ ?_
 ·simp[forget,JB,ren,Jm,gp,Tr.row]
 ·simp only[Ko,Gb,Gd,go_sem,Jj,Jk,Ja (Xy _)];rfl
 ·intro i hi;have Ar:=Ja (ρ:=[0,1]) (Xy (K7 t.nodes.length λx=>(Ga i).any (Jcf t o of s x)));by_cases Ab:i<t.nodes.length
  ·have d1:=dtT i t.nodes.length;have AA:=JL (l:=of) (i:=i) (by rw[ho.len];exact Ab);have SK:=J7 Ab;have aF:=ho.rng i (by rw[ho.len];exact Ab);have bI:=ho.dft (i:=i) (by rw[ho.len];exact Ab);have hQ:∀x,Jcf t o of s x i=((nd t i).k == 3 && (decide (0<=of.getD i 0) && (JbO o i (Jh t s) && ((nd t (of.getD i 0).toNat).k == 42 && (Kg t (of.getD i 0).toNat == x && (Kg t x.toNat == Kg t s && !tdL t (upL t (Jh t s) t.nodes.length i).reverse false)))))):=λx=>by unfold Jcf;rw[bI]
   have Ce:(∀x,Jcf t o of s x i=false)->(K7 t.nodes.length λx=>(Ga (i+1)).any (Jcf t o of s x))=K7 t.nodes.length λx=>(Ga i).any (Jcf t o of s x):=λh=>boolsN_congr λj hj=>by rw[PE,h,GL]
   generalize of.getD i 0=m at AA aF hQ;simp only[go_sem,d1,Tr.row,Jb];refine J3 Jr vk ?_
   cases h3:((nd t i).k == 3) with
   |false=>
    have AZ:=Ce λx=>by rw[hQ,h3,Gn]
    simp only[go_sem,Jb,SK,Nd.cv,kbN,h3,Gi];refine⟨om,Ji,i+1,[0,1],om,om,rfl,?_,?_⟩
    ·rw[AZ];simp only[Ko,Gb,Gd,go_sem,Jj,Ar,Jk]
    ·simp[forget,JB,ren,Jm]
   |true=>
    rcases Ld m 0 with MZ|MZ
    ·have e1:decide (m<0)=true:=decide_eq_true MZ;have AZ:=Ce λx=>by rw[hQ,decide_eq_false om,Gn,GG]
     simp only[go_sem,Jb,SK,Nd.cv,kbN,h3,Gh,Bf,AA,e1];refine⟨om,om,Ji,i+1,[0,1],om,om,rfl,?_,?_⟩
     ·rw[AZ];simp only[Ko,Gb,Gd,go_sem,Jj,Ar,Jk]
     ·simp[forget,JB,ren,Jm]
    ·have e1:decide (m<0)=false:=decide_eq_false om;obtain⟨m,rfl⟩:∃m':Nat,m=m':=⟨m.toNat,om⟩;have Ib:m<t.nodes.length:=om
     have P9:=J7 Ib;simp only[go_sem,Jb,SK,Nd.cv,kbN,h3,Gh,Bf,AA,e1];refine⟨om,om,?_⟩;refine Kl (gok rfl) (JdE g ht hs RH.2) ?_;simp only[go_sem];refine Kl (gok rfl) (Jaw g ht CK) ?_
     cases hb:JbO o i (Jh t s) with
     |false=>
      have AZ:=Ce λx=>by rw[hQ,hb,Gn,GG,GG]
      simp only[go_sem,Gi];refine⟨Ji,i+1,[0,1],om,om,rfl,?_,?_⟩
      ·rw[AZ];simp only[Ko,Gb,Gd,go_sem,Jj,Ar,Jk]
      ·simp[forget,JB,ren,Jm]
     |true=>
      cases Ck:((nd t m).k == 42) with
      |false=>
       have AZ:=Ce λx=>by rw[hQ,Gl,Ck,Gn,GG,GG,GG]
       simp only[go_sem,Gh,Jb,Bf,AA,P9,Nd.cv,kbN,Ck,Gi];refine⟨om,om,Ji,i+1,[0,1],om,om,rfl,?_,?_⟩
       ·rw[AZ];simp only[Ko,Gb,Gd,go_sem,Jj,Ar,Jk]
       ·simp[forget,JB,ren,Jm]
      |true=>
       have k42:(nd t m).k=42:=beq_iff_eq.1 Ck;obtain⟨v,Mw,Ej,_,_⟩:=Ql g Ib om;have fG:=Jcm g ht Ib;rw[Mw]at fG;have U8:∀x,Jcf t o of s x i=(((v:Int) == x) && (Kg t x.toNat == Kg t s && !tdL t (upL t (Jh t s) t.nodes.length i).reverse false)):=λx=>by rw[hQ,h3,hb,Gl,Ck,Mw,decide_eq_true om];rfl
       simp only[go_sem,Gh,Jb,Bf,AA,P9,Nd.cv,kbN,Ck];refine⟨om,om,?_⟩;refine J3 Jr vk ?_;simp only[go_sem,Bf,AA];refine anO ?_;refine Kl (.inl rfl) fG ?_;simp only[go_sem];refine Kk (Jcm g ht Ej) ?_
       cases De:(Kg t v == Kg t s) with
       |false=>
        have AZ:=Ce λx=>by
         rw[U8]
         cases hx:((v:Int) == x) with
         |false=>rfl
         |true=>have:=beq_iff_eq.1 hx;rw[<-this,Gl,De];rfl
        simp only[go_sem,De];refine⟨Ji,i+1,[0,1],om,om,rfl,?_,?_⟩
        ·rw[AZ];simp only[Ko,Gb,Gd,go_sem,Jj,Ar,Jk]
        ·simp[forget,JB,ren,Jm]
       |true=>
        simp only[go_sem,De];refine Kt (gok rfl) (refLate g ht hs hk (KM.1 hb)) ?_
        cases hl:tdL t (upL t (Jh t s) t.nodes.length i).reverse false with
        |true=>
         have AZ:=Ce λx=>by rw[U8,hl];simp
         simp only[go_sem,Gh];refine⟨Ji,i+1,[0,1],om,om,rfl,?_,?_⟩
         ·rw[AZ];simp only[Ko,Gb,Gd,go_sem,Jj,Ar,Jk]
         ·simp[forget,JB,ren,Jm]
        |false=>
         have BA:(K7 t.nodes.length λx=>(Ga i).any (Jcf t o of s x)).set v true=K7 t.nodes.length λx=>(Ga (i+1)).any (Jcf t o of s x):=by
          refine Jhh Ej (λj hj Ag=>?_) ?_
          ·rw[PE,U8,beq_eq_false_iff_ne.2 (show (v:Int)≠(j:Int) by omega),Gn,GL]
          ·rw[PE,U8,Gl,De,hl];simp
         have Be:(bb (K7 t.nodes.length λx=>(Ga i).any (Jcf t o of s x))).length=t.nodes.length:=by rw[bb_len,QW]
         have Fv:=bb_get (l:=K7 t.nodes.length λx=>(Ga i).any (Jcf t o of s x)) (i:=v) (by rw[QW];exact Ej);simp only[go_sem,Gi,Be,Fv,Gg,Gt,GR,Gf,bb_set,BA];refine⟨om,om,Ji,i+1,[0,1],om,om,rfl,?_,?_⟩
         ·simp only[Ko,Gb,Gd,go_sem,Jj,Ja (Xy _),Jk]
         ·simp[forget,JB,ren,Jm]
  ·have d1:=dfF i t.nodes.length;obtain rfl:i=t.nodes.length:=om
   have Be:(bb (K7 t.nodes.length λx=>(Ga t.nodes.length).any (Jcf t o of s x))).length=t.nodes.length:=by rw[bb_len,QW]
   simp only[go_sem,d1,Tr.row,Jb];refine Je (id:=1) (z:=1) (els:=bb (K7 t.nodes.length λx=>(Ga t.nodes.length).any (Jcf t o of s x))) rfl (Xy _) ?_;have EE:=Gu (l:=bb (K7 t.nodes.length λx=>(Ga t.nodes.length).any (Jcf t o of s x))) (i:=t.nodes.length) (by rw[Be];omega);simp only[go_sem,JV,Kv,frz,Qj,Gb,Gd,Gf,GN,if_true,Be,GQ,EE,GV,GU];refine vr_rowW (.inl rfl) (refSet _ (by rw[QW];omega)) ?_;simp only[go_sem];exact⟨2,rfl,rfl⟩
end
theorem needR_ok{of:Lu}:∀x∈Qk t,(∀y∈Y3 t o of x.toNat,y∈Qk t)/\(Y3 t o of x.toNat).length<=(Qk t).length:=λx _=>⟨λy hy=>(GX.1 hy).1,Gz _ _⟩
def todoW (els:Lu)(off:Nat):CV:=.slc 2 off (els.length-off) (JaJ (iz els))
theorem Jf0 {els:Lu}(h:els≠[]):JaJ (iz els)=none:=by cases els with
 |nil=>exact absurd rfl h
 |cons x l=>rfl
section
variable(g:GoodT t o)(ht:t.Fit)
include g ht
theorem refReached {of:Lu}(ho:OfOk t of){s:Nat}(hs:s<t.nodes.length)(hk:(nd t s).k=41):Jga Gc 61 [t.cv,.rslc 1 (iz of) none,.int .i64 (s:Int)] 1 (iz ((Qk t).filter λx=>(bfs (λx=>Y3 t o of x.toNat) (Qk t) (Y3 t o of s) []).contains x)):=by
 have Ah:=g.many;have Ao:(Qk t).length=t.nodes.length:=by simp[Qk]
 refine JfH (J8 c61_ok λN=>?_) rfl (Jd _);simp only[c61,go_sem,Tr.cv,Tr.row,Jb];refine⟨⟨om,GJ _,om,om⟩,?_⟩;refine Je (id:=0) (z:=2) (els:=[t.row]) rfl rfl ?_;simp only[go_sem,JV,Kv,frz,Qj,Gb,Gd,List.map_replicate,Tr.row];refine vr_rowW (.inl rfl) (refNeeds g ht ho hs hk) ?_;simp only[go_sem];have BA:∀s':Nat,s' < t.nodes.length->(nd t s').k=41->∀x∈Y3 t o of s',0<=x/\x<t.nodes.length/\(nd t x.toNat).k=41:=λs' h1 h2 x hx=>by rw[<-need_eq g h1 h2]at hx;exact Jb2 g hx
 generalize hN:(λx:Int=>Y3 t o of x.toNat)=Nf;have Fz:∀x∈Qk t,(∀y∈Nf x,y∈Qk t)/\(Nf x).length<=(Qk t).length:=by rw[<-hN];exact needR_ok
 have IX:∀x:Nat,x<t.nodes.length->(nd t x).k=41->∀y∈Nf x,0<=y/\y<t.nodes.length/\(nd t y.toNat).k=41:=λx h1 h2 y hy=>by rw[<-hN]at hy;simp only[Gl]at hy;exact BA x h1 h2 y hy
 have h0:=BA s hs hk;have I9:(Y3 t o of s).length<=t.nodes.length:=by rw[<-Ao];exact Gz _ _
 generalize Y3 t o of s=T0 at h0 I9|-;generalize hR:bfs Nf (Qk t) T0 []=R;have Al:YE (Qk t) []*((Qk t).length+1)<=700*701:=Lg (GK Jc7 om) om;have U5:(K7 t.nodes.length λx=>([]:Lu).contains x)=GY t.nodes.length false:=by rw[<-Jd5];rfl
 rw[bb_rep,<-U5];refine Js (σ:=Lu×Nat×Lu) (I:=λs'=>s'.2.1<=s'.1.length/\(∀x∈s'.1,0<=x/\x<t.nodes.length/\(nd t x.toNat).k=41)/\bfs Nf (Qk t) (s'.1.drop s'.2.1) s'.2.2=R/\muB (Qk t) (s'.1.drop s'.2.1) s'.2.2<=1000000)
  (inv:=λs'=>gp [(1,.rslc 1 (iz of) none),(1,.rptr t.row),(3,.slc 1 0 t.nodes.length (some t.nodes.length)),(0,todoW s'.1 s'.2.1)] 33) (hp:=λs'=>[.dead,.arr 1 (bb (K7 t.nodes.length λx=>s'.2.2.contains x)),.arr 1 (iz s'.1)]) (μ:=λs'=>muB (Qk t) (s'.1.drop s'.2.1) s'.2.2) (T0,0,[]) [0,1,2] ⟨sM,h0,by simpa using hR,by simp only[Gf,muB];omega⟩ rfl ?_ ?_ ?_
 ·simp[forget,JB,ren,Jm,gp,todoW,rowW,Tr.row,Jf]
 ·simp only[Ko,Gb,Gd,go_sem,Jj,Ja (Jd T0),Ja (Xy _),Jk]
 ·rintro⟨els,off,out⟩ ⟨MS,hP,hB,MW⟩
  dsimp only at MS hP hB MW
  have Ef:(iz els).length=els.length:=Jf;by_cases Ab:off<els.length
  ·have Ag:els≠[]:=by rintro rfl;simp at Ab
   have d1:((0:Int)<((els.length-off:Nat):Int))=True:=KQ;have d2:(((els.length-off:Nat):Int) > 0)=True:=KQ;have AA:=JL Ab;have Il:els.drop off=els.getD off 0::els.drop (off+1):=by rw[GM Ab,Gm,Gp Ab];rfl
   have Ap:els.getD off 0∈els:=by rw[Gm,Gp Ab];exact Gw Ab
   have Uo:=hP _ Ap;have Ak:∀y∈els.drop off,y∈Qk t:=λy hy=>by have:=hP y (G5 hy);exact Kh.2 ⟨this.1,this.2.1⟩
   rw[Il]at hB Ak MW|-;have Pi:=MW;simp only[muB,Gg]at Pi;generalize hx:els.getD off 0=x at AA Uo hB Ak MW|-;obtain⟨xn,rfl⟩:∃x':Nat,x=x':=⟨x.toNat,om⟩;have IK:(xn:Int)∈Qk t:=Ak xn sM;have Ip:=Uo.2.2;rw[Gl]at Ip;have F5:xn<t.nodes.length:=om
   have Be:(bb (K7 t.nodes.length λx=>out.contains x)).length=t.nodes.length:=by rw[bb_len,QW]
   have Fv:=bb_get (l:=K7 t.nodes.length λx=>out.contains x) (i:=xn) (by rw[QW];exact F5);rw[Jhi F5]at Fv
   cases hc:out.contains (xn:Int) with
   |true=>
    rw[hc]at Fv;rw[bfs_old Fz Ak hc]at hB;simp only[go_sem,todoW,Jf0 Ag,d1,Ef,AA,Hl,Be,Fv,Gh];refine⟨om,⟨om,GJ _⟩,om,om,(els,off+1,out),[0,1,2],⟨by simp only;omega,hP,hB,by simp only[muB];omega⟩,by simp only[muB,Gg];omega,rfl,?_,?_⟩
    ·simp only[Ko,Gb,Gd,go_sem,Jj,Ja (Jd els),Ja (Xy _),Jk]
    ·simp[forget,JB,ren,Jm,Jf0 Ag];omega
   |false=>
    rw[hc]at Fv;rw[bfs_new Fz Ak hc]at hB;have CQ:=YR IK hc;have aV:=Le ((Qk t).length+1) (show YE (Qk t) (out++[(xn:Int)])+1<=YE (Qk t) out from CQ);rw[Ho,Hm]at aV;have Dv:=(Fz xn IK).2;have cZ:Y3 t o of xn=Nf (xn:Int):=by rw[<-hN];simp only[Gl]
    have Ir:=IX xn F5 Ip;have Ur:=(refNeeds g ht ho F5 Ip).fn rfl (Jd _);rw[cZ]at Ur;have RJ:(K7 t.nodes.length λx=>out.contains x).set xn true=K7 t.nodes.length λx=>(out++[(xn:Int)]).contains x:=by refine Jhh F5 (λj hj Ag=>?_) sM;have:((j:Int) == (xn:Int))=false:=beq_eq_false_iff_ne.2 om;simp[];omega
    simp only[go_sem,todoW,Jf0 Ag,d1,Ef,AA,Hl,Be,Fv,Gi,Gg,Gt,GR,Gf,bb_set,RJ,Tr.row];refine⟨om,⟨om,GJ _⟩,om,om,om,om,?_⟩;refine Kk Ur ?_;generalize Nf (xn:Int)=M at Dv Ir hB|-;have Pw:off+1+(els.length-off-1)=els.length:=om
    have Pv:(off+1+(els.length-off-1)=els.length)=True:=eq_true Pw;have hd:=HZ (i:=off+1) (l:=els)
    cases M with
    |nil=>
     simp only[go_sem,XN];rw[Gq]at hB;refine⟨(els,off+1,out++[(xn:Int)]),[0,1,2],⟨by simp only;omega,hP,hB,by simp only[muB];omega⟩,by simp only[muB,Gg];omega,rfl,?_,?_⟩
     ·simp only[Ko,Gb,Gd,go_sem,Jj,Ja (Jd els),Ja (Xy _),Jk]
     ·simp[forget,JB,ren,Jm,Jf0 Ag];omega
    |cons y ys=>
     simp only[go_sem,Kz,Ef,Pv,Jf,Jw];simp only[Gg]at Dv;refine⟨⟨om,om⟩,(els.drop (off+1)++y::ys,0,out++[(xn:Int)]),[0,1,3],⟨sM,λz hz=>?_,by simpa using hB,by simp only[Gf,muB,Gv,Gg];omega⟩,by simp only[Gf,muB,Gv,Gg];omega,rfl,?_,?_⟩
     ·rcases Hg.1 hz with h|h
      ·exact hP z (G5 h)
      ·exact Ir z h
     ·rw[Qe,Kz,<-Jib];simp only[Ko,Gb,Gd,go_sem,Jj,Jk,Ja (Xy _)];rw[Jib];simp[Ja (Jd (els.drop (off+1))),Ja (Jd ys),JB,ren]
     ·rw[Jf0 (show els.drop (off+1)++y::ys≠[] by simp)];simp[forget,JB,ren,Jm];omega
  ·obtain rfl:off=els.length:=om
   rw[H6,bfs_nil]at hB;have Be:(bb (K7 t.nodes.length λx=>out.contains x)).length=t.nodes.length:=by rw[bb_len,QW]
   have d1:((0:Int)<((els.length-els.length:Nat):Int))=False:=Kq;have d2:(((els.length-els.length:Nat):Int) > 0)=False:=Kq;simp only[go_sem,todoW,d1];refine Je (id:=1) (z:=1) (els:=bb (K7 t.nodes.length λx=>out.contains x)) rfl (Xy _) ?_;have EE:=Gu (l:=bb (K7 t.nodes.length λx=>out.contains x)) (i:=t.nodes.length) (by rw[Be];omega);simp only[go_sem,JV,Kv,frz,Qj,Gb,Gd,Gf,GN,if_true,Be,GQ,EE,GV,GU,Jy (Jd _)];refine vr_rowW (.inl rfl) (refSet _ (by rw[QW];omega)) ?_;rw[<-hB,<-Jgz (t:=t) (f:=λx=>out.contains x)];simp only[go_sem];exact⟨3,rfl,rfl⟩
theorem refResolve:Fn Gc 33 [t.cv] (if (resR t o).2=0 then .tup [.rslc 1 (iz (ofL t o)) none,.int .i64 0,.int .i64 0] else .tup [.rslc 1 [] none,.int .i64 ((resR t o).1:Int),.int .i64 (resR t o).2]):=by
 have Ah:=g.many;have bM:chk t=0:=(JeJ t).2 ⟨o,g⟩;have e0:(chk t != 0)=false:=by simp[bM]
 refine YK ?_ rfl (by split <;> rfl);refine J8 c33_ok λN=>?_
 simp only[c33,go_sem,Tr.cv,Tr.row];refine Je (id:=0) (z:=2) (els:=[t.row]) rfl rfl ?_;simp only[go_sem,JV,Kv,frz,Qj,Gb,Gd,Tr.row];refine Kk (refCheck t ht) ?_;simp only[go_sem,e0];have AR:∀{k:Nat} {y:Ls} {H:Lt},H[k]? = some (.arr 1 [])->Jp y=true->Frzs (.tup (.rslc 1 [] none::y)) (.tup (.slc k 0 0 (some 0)::y)) H:=λh hy=>.step _ 1 [] h rfl (.done (by simp only[frz,JV,if_true,QG _ hy];exact wk.refl _))
 have BD:∀(i:Nat) (a:Int),a≠0->resR t o=(i,a)->(if (resR t o).2=0 then CV.tup [.rslc 1 (iz (ofL t o)) none,.int .i64 0,.int .i64 0] else .tup [.rslc 1 [] none,.int .i64 ((resR t o).1:Int),.int .i64 (resR t o).2])=.tup [.rslc 1 [] none,.int .i64 (i:Int),.int .i64 a]:=λi a ha h=>by rw[h,if_neg ha]
 refine Js (I:=λi:Nat=>i<=t.nodes.length/\JhK t o 6 10 (Ga t.nodes.length)=JhK t o 6 10 ((Ga t.nodes.length).drop i)) (inv:=λi=>gp [(1,.rptr t.row),(4,.slc 1 0 (iz ((ofL t o).take i)).length (JaJ (iz ((ofL t o).take i)))),(0,.int .i64 (i:Int))] 64) (hp:=λi=>[.dead,.arr 1 (iz ((ofL t o).take i))]) (μ:=λi=>t.nodes.length-i) 0 [0,1] ⟨om,by rw[Gf]⟩ rfl ?_ ?_ ?_
 ·simp[forget,JB,ren,Jm,gp,Tr.row,iz,JaJ]
 ·simp[Ko,Yd,iz]
 ·rintro i ⟨hi,Aa⟩;have Cj:((ofL t o).take i).length=i:=by rw[G6,Xu];omega
  by_cases Ab:i<t.nodes.length
  ·have d1:=dtT i t.nodes.length;have AA:=J7 Ab;have Ia:=ofL_take (o:=o) Ab;rw[QK Ab,JhK]at Aa;have Db:∀a:Int,JhK t o 6 10 (Ga t.nodes.length)=some (i,a)->resR t o=(i,a):=λa h=>by unfold resR;rw[h]
   have Ar:=Ja (ρ:=[0,3]) (Jd ((ofL t o).take i));generalize (ofL t o).take i=acc at Cj Ia Ar|-;simp only[go_sem,d1,Tr.row,Jb,AA,Nd.cv];refine anO ?_;refine Kk (JhW _) ?_;have EZ:((nd t i).k == 3 || (nd t i).k == 26 || (nd t i).k == 44)=JN t i:=rfl;rw[EZ]
   cases hs:JN t i with
   |true=>
    simp only[go_sem];refine Kk (refMeans g ht Ab hs) ?_;by_cases hm:JD t o i<0
    ·have e1:(JD t o i<0)=True:=eq_true hm;rw[hs,decide_eq_true hm,Gj,if_pos rfl]at Aa;rw[BD i 10 vk (Db 10 Aa)];simp only[go_sem,e1];exact AR (k:=2) rfl rfl
    ·have e1:(JD t o i<0)=False:=eq_false hm;rw[hs,decide_eq_false hm,GG,if_neg sM]at Aa;simp only[go_sem,e1];refine Kk (refTwice g ht Ab) ?_
     cases EO:twR t o i with
     |true=>rw[EO,if_pos rfl]at Aa;rw[BD i 6 vk (Db 6 Aa)];simp only[go_sem];exact AR (k:=2) rfl rfl
     |false=>
      rw[EO,if_neg sM]at Aa;simp only[go_sem,Jw,Jf];refine⟨⟨om,om⟩,Ji,i+1,[0,3],⟨om,Aa⟩,om,rfl,?_,?_⟩
      ·rw[Ia,KR];simp only[Ko,Gb,Gd,go_sem,Jj,Jk];simp[Ar,JB,ren]
      ·rw[Ia,KR,YH];simp[forget,JB,ren,Jm]
   |false=>
    have IA:JD t o i = -1:=by unfold JN at hs;simp only[Bool.or_eq_false_iff,beq_eq_false_iff_ne]at hs;unfold JD;rw[if_neg hs.1.1,if_neg hs.1.2,if_neg hs.2]
    rw[hs,Gn,if_neg sM]at Aa;rw[IA]at Ia;simp only[go_sem];refine Kk (refTwice g ht Ab) ?_
    cases EO:twR t o i with
    |true=>rw[EO,if_pos rfl]at Aa;rw[BD i 6 vk (Db 6 Aa)];simp only[go_sem];exact AR (k:=2) rfl rfl
    |false=>
     rw[EO,if_neg sM]at Aa;simp only[go_sem,Jw,Jf];refine⟨⟨om,om⟩,Ji,i+1,[0,3],⟨om,Aa⟩,om,rfl,?_,?_⟩
     ·rw[Ia,KR];simp only[Ko,Gb,Gd,go_sem,Jj,Jk];simp[Ar,JB,ren]
     ·rw[Ia,KR,YH];simp[forget,JB,ren,Jm]
  ·have d1:=dfF i t.nodes.length;obtain rfl:i=t.nodes.length:=om
   rw[show (Ga t.nodes.length).drop t.nodes.length=[] from Gs sM,JhK]at Aa;have Db:resR t o=match (Ga t.nodes.length).find? (stR t o) with|some i=>(i,9)|none=>(0,0):=by unfold resR;simp only[Aa];cases (Ga t.nodes.length).find? (stR t o) <;> rfl
   rw[Gu (by rw[Xu];omega)];simp only[go_sem,d1,Tr.row,Jb];refine Je (id:=1) (z:=1) (els:=iz (ofL t o)) rfl (Jd _) ?_;have Cc:=Xu (t:=t) (o:=o);have EE:G8 t.nodes.length (iz (ofL t o))=iz (ofL t o):=Gu (by rw[Jf,Cc];omega);simp only[go_sem,JV,Kv,frz,Qj,Gb,Gd,Gf,GN,if_true,Jf,Cc,GQ,EE,GV,GU];refine Js (I:=λi:Nat=>i<=t.nodes.length/\(Ga t.nodes.length).find? (stR t o)=((Ga t.nodes.length).drop i).find? (stR t o)) (inv:=λi=>gp [(1,.rptr t.row),(4,.rslc 1 (iz (ofL t o)) none),(2,.int .i64 (i:Int))] 62) (hp:=λ_=>[.dead,.dead]) (μ:=λi=>t.nodes.length-i) 0 [0,1] ⟨om,by rw[Gf]⟩ rfl ?_ rfl ?_
   ·simp[forget,JB,ren,gp,Tr.row]
   ·rintro i ⟨hi,Aa⟩;by_cases Ab:i<t.nodes.length
    ·have d1:=dtT i t.nodes.length;have AA:=J7 Ab;rw[QK Ab,GH]at Aa
     cases hk:((nd t i).k == 41) with
     |false=>
      have Al:stR t o i=false:=by unfold stR;rw[hk];rfl
      rw[Al]at Aa;simp only[go_sem,d1,Tr.row,Jb,AA,Nd.cv,kbE,hk];refine⟨om,Ji,i+1,[0,1],⟨om,Aa⟩,om,rfl,rfl,?_⟩;simp[forget,JB,ren]
     |true=>
      have Al:stR t o i=((Qk t).filter λx=>(bfs (λx=>Y3 t o (ofL t o) x.toNat) (Qk t) (Y3 t o (ofL t o) i) []).contains x).contains (i:Int):=by unfold stR;rw[hk,Gj]
      have hA:=(refReached g ht (ofL_ok (o:=o)) Ab (beq_iff_eq.1 hk)).fn rfl (Jd _);have Be:((Qk t).filter λx=>(bfs (λx=>Y3 t o (ofL t o) x.toNat) (Qk t) (Y3 t o (ofL t o) i) []).contains x).length<=100000:=by refine GK (Gz _ _) ?_;simp only[Qk,H8,He];omega
      generalize (Qk t).filter (λx=>(bfs (λx=>Y3 t o (ofL t o) x.toNat) (Qk t) (Y3 t o (ofL t o) i) []).contains x)=B at Al hA Be;simp only[go_sem,d1,Tr.row,Jb,AA,Nd.cv,kbE,hk];refine anO ?_;refine Kt (gok rfl) hA ?_;simp only[go_sem];refine Kt (gok rfl) (refHas3 B (i:Int) Be) ?_
      cases hc:B.contains (i:Int) with
      |false=>rw[Al,hc]at Aa;simp only[go_sem];refine⟨Ji,i+1,[0,1],⟨om,Aa⟩,om,rfl,rfl,?_⟩;simp[forget,JB,ren]
      |true=>rw[Al,hc]at Aa;rw[Aa]at Db;rw[BD i 9 vk Db];simp only[go_sem];exact AR (k:=2) rfl rfl
    ·have d1:=dfF i t.nodes.length;rw[show (Ga t.nodes.length).drop i=[] from Gs (by simp;omega),GI]at Aa;rw[Aa]at Db;rw[Db,if_pos rfl];simp only[go_sem,d1,Tr.row,Jb];exact .done (wk.refl _)
end
theorem refResolveE (t:Tr)(ht:t.Fit)(h:chk t≠0):Fn Gc 33 [t.cv] (.tup [.rslc 1 [] none,.int .i64 0,.int .i64 (chk t)]):=by
 have e:(chk t != 0)=true:=by simpa using h
 refine YK ?_ rfl rfl;refine J8 c33_ok λN=>?_
 simp only[c33,go_sem,Tr.cv,Tr.row];refine Kk (refCheck t ht) ?_;simp only[go_sem,e];refine .step 1 1 [] rfl rfl (.done ?_);simp only[frz,JV,if_true];exact wk.refl _
end Go.Cm
end
end
