/-
  A part of the proof. Conditions: none.
-/
import Derived.Test.YtdnnimemociklaaGreatDoorVP40
set_option linter.unusedSimpArgs false
set_option linter.unusedVariables false
open Bool renaming not_true->Gh,not_false->Gi,true_and->Gj,false_and->Gn,false_or->Gr,true_or->Gy,and_false->GG,or_false->GL,and_eq_true_iff->G9,eq_iff_iff->Hq,or_true->Hr
open List renaming getD_eq_getElem?_getD->Gm,drop_zero->Gf,map_cons->Gc,getElem?_eq_getElem->Gp,length_cons->Gg,map_nil->Gd,range->Ga,drop_eq_nil_of_le->Gs,append_nil->Gq,take_of_length_le->Gu,length_nil->Gt,length_append->Gv,length_filter_le->Gz,getElem_mem->Gw,drop_eq_getElem_cons->GM,any_cons->Gx,take_succ_eq_append_getElem->GZ,nil_append->GA,find?_cons->GH,find?_nil->GI,drop_succ_cons->GR,any_nil->GD,set_cons_zero->GU,set_cons_succ->GV,mem_of_mem_drop->G5,mem_filter->GX,replicate->GY,length_take->G6,cons_append->G7,length_pos_of_mem->Ha,length_mergeSort->Hd,length_range->He,range_succ->Hf,mem_append->Hg,contains_eq_any_beq->Ht,take->G8,mem_of_getElem?->Hu,length_reverse->Hw,mergeSort_nil->Hy,filter_append->Hz,contains_cons->HV,contains_nil->HY,length_drop->HZ,filter_cons->H5,drop_length->H6,map_append->H7,length_map->H8,filter_nil->H9,map_set->La,length->Lb
open Go.Proofs.Tryz renaming prog->Gb
open Int renaming toNat_natCast->Gl,le_refl->GJ,lt_or_le->Lc
open Nat renaming le_trans->GK,zero_add->GN,le_refl->GQ,add_zero->Hl,mul_le_mul_right->Ld,one_mul->Hm,add_mul->Ho,le_add_right->Le,mul_le_mul->Lf
noncomputable section
section
set_option maxRecDepth 100000
set_option maxHeartbeats 4000000
open Go.Proofs
namespace Go.Cm
variable {a a0 f i k m n n0 u z:Nat}{t:Tr}{l o:Lu}{H H':Lt}{els:LM}{x:Int}{P:Program}{E:Env}{q:Int->Bool}{T l1 l2:Ls}{F:IFunc}{Q:Exit->Ls->Lt->Prop}
theorem kbE:((k:Int) == no_index (@OfNat.ofNat Int m _))=(k == m):=by rw[Hq,beq_iff_eq,beq_iff_eq];exact Int.ofNat_inj
theorem kbN:((k:Int) != no_index (@OfNat.ofNat Int m _)) = !(k == m):=by rw[bne,kbE]
def tRw (t:Tr):Ls:=[.rslc 5 (ndz t.nodes) none,.rslc 1 (iz t.items) none,.rslc 1 (iz (upT t)) none,.rslc 1 (iz (JdG t)) none]
theorem JbR(ht:t.Fit)(hi:i<t.nodes.length):(nd t i).Fit:=ht.nodes _ (by unfold nd;rw[Gm,Gp hi];exact Gw hi)
theorem JZ(h:i<t.nodes.length):(ndz t.nodes).getD i []=(nd t i).cv:=QC h
theorem upz(h:i<t.nodes.length):(iz (upT t)).getD i []=[.int .i64 (Kv t i)]:=by rw[JF (by rw[Jee];exact h),upT_get h]
theorem itz(h:i<t.nodes.length):(iz (JdG t)).getD i []=[.int .i64 (QR t i)]:=by rw[JF (by rw[Jcy];exact h),itemT_get h]
theorem QI:(iz (upT t)).length=t.nodes.length:=by rw[Jf,Jee]
theorem itz_len:(iz (JdG t)).length=t.nodes.length:=by rw[Jf,Jcy]
theorem nKind (t:Tr)(hi:i<t.nodes.length):Fn Gb 84 [.rptr (tRw t),.int .i64 (i:Int)] (.int .u8 ((nd t i).k:Int)):=by
 have hg:=JZ hi;refine Jc c84_ok rfl rfl λN=>?_
 simp only[c84,go_sem,tRw,Ja,hg,Nd.cv];omega
theorem nInside (t:Tr)(hi:i<t.nodes.length):Fn Gb 207 [.rptr (tRw t),.int .i64 (i:Int)] (.bool (!((nd t i).k == 43))):=by
 refine Jc c207_ok rfl rfl λN=>?_
 simp only[c207,go_sem];refine J3 (nKind t hi) ?_;simp only[go_sem,kbN]
def bz (l:Lx):LM:=l.map λi:Nat=>[.int .u8 (i:Int)]
theorem bz_len {l:Lx}:(bz l).length=l.length:=by simp[bz]
theorem bz_get {l:Lx}(h:i<l.length):(bz l).getD i []=[.int .u8 (l.getD i 0:Nat)]:=by simp[bz,Gm,Gp h]
theorem bz_closed:∀(l:Lx),Jq (bz l)=true
 |[]=>rfl
 |x::l=>by simp[bz,Jq,Jl,CV.closed];exact bz_closed l
theorem indexB (l:Lx)(x:Nat)(hl:l.length<=100000):Fn Gb 206 [.rslc 1 (bz l) none,.int .u8 (x:Int)] (.int .i64 (XT (λy=>x == y) l 0)):=by
 have Af:(bz l).length=l.length:=bz_len;have j5:=bz_closed l;refine Jc c206_ok rfl rfl λN=>?_
 simp only[c206,go_sem,Af];refine JL (I:=λi:Nat=>i<=l.length/\XT (λy=>x == y) l 0=XT (λy=>x == y) (l.drop i) i) (inv:=λi=>gp [(0,.rslc 1 (bz l) none),(0,.int .u8 x),(5,.int .i64 (l.length:Int)),(0,.int .i64 (i:Int))] 10) (hp:=λ_=>[]) (μ:=λi=>l.length-i) 0 ⟨om,rfl⟩ ?_ rfl ?_
 ·simp[forget,gp]
 ·rintro i ⟨hi,Aa⟩;by_cases Ab:i<l.length
  ·have d1:=dtT i l.length;have Ay:=bz_get Ab;have BS:l[i]? = some (l.getD i 0):=by rw[Gm,Gp Ab];rfl
   rw[Xn BS]at Aa;have en:=JdE (l.getD i 0) x;simp only[go_sem,Af,d1,Ay,en];generalize l.getD i 0=y at Aa|-;refine anO ?_
   cases he:(x == y) with
   |true=>rw[he,if_pos rfl]at Aa;simp only[go_sem,Aa]
   |false=>rw[he]at Aa;simp only[go_sem];refine⟨Jg,i+1,⟨om,by simpa using Aa⟩,om,?_⟩;simp[forget]
  ·have d1:=dfF i l.length;rw[Gs om]at Aa;simp only[go_sem,d1,Aa,XT]
theorem containsB (l:Lx)(x:Nat)(hl:l.length<=100000):Fn Gb 176 [.rslc 1 (bz l) none,.int .u8 (x:Int)] (.bool (l.contains x)):=by
 refine Jc c176_ok rfl rfl λN=>?_
 simp only[c176,go_sem];refine J3 (indexB l x hl) ?_;have e:decide (0<=XT (λy=>x == y) l 0)=l.contains x:=by rw[JaD,Ht]
 simp only[go_sem,e]
theorem nIsDecl (t:Tr)(hi:i<t.nodes.length):Fn Gb 134 [.rptr (tRw t),.int .i64 (i:Int)] (.bool (KU (nd t i).k)):=by
 have e:[65,64,42,43,47].contains (nd t i).k=KU (nd t i).k:=by simp only[HV,HY,GL,KU,Bool.or_assoc]
 refine Jc c134_ok rfl rfl λN=>?_
 simp only[c134,go_sem];refine Je (id:=0) (z:=1) (els:=bz [65,64,42,43,47]) rfl rfl ?_;simp only[go_sem,JM,KA,frz,Kn,bz,Gc,Gd,Gg,Gt,Gf,List.take_succ_cons,List.take_zero];refine J3 (nKind t hi) ?_;simp only[go_sem];refine J3 (containsB [65,64,42,43,47] _ sM) ?_;simp only[go_sem,e]
section
variable(g:GoodT t o)
include g
theorem nBelow{j0:Nat}(cu:j0<t.nodes.length)(ha:a<t.nodes.length):Fn Gb 177 [.rptr (tRw t),.int .i64 (j0:Int),.int .i64 (a:Int)] (.bool (JbS o j0 a)):=by
 refine Jc c177_ok rfl rfl λN=>?_
 simp only[c177,go_sem];refine JL (σ:=Int) (I:=λv=>(v = -1/\JbS o j0 a=false)\/∃j:Nat,v=j/\j<t.nodes.length/\JbS o j0 a=JbS o j a) (inv:=λv=>gp [(0,.rptr (tRw t)),(0,.int .i64 v),(0,.int .i64 (a:Int))] 21) (hp:=λ_=>[]) (μ:=λv=>if v<0 then 0 else t.nodes.length-v.toNat+1) (j0:Int) (.inr ⟨j0,rfl,cu,rfl⟩) ?_ rfl ?_
 ·simp[forget,gp]
 ·rintro v (⟨rfl,hb⟩|⟨j,rfl,hj,hb⟩)
  ·have e1:(((-1:Int)) != -1)=false:=vk
   have e2:((-1:Int) == (a:Int))=false:=beq_eq_false_iff_ne.2 om;simp only[go_sem,e1,e2,hb]
  ·have e1:((j:Int) != -1)=true:=bne_iff_ne.2 om;by_cases he:j=a
   ·subst he;have e2:((j:Int) != (j:Int))=false:=sM
    have e3:((j:Int) == (j:Int))=true:=sM
    have e4:=QZ.2 (JcL g hj);simp only[go_sem,e1,e2,e3,hb,e4]
   ·have e2:((j:Int) != (a:Int))=true:=bne_iff_ne.2 om;have hp:=par_rng g hj;have hu:=blw_up g hj ha he;simp only[go_sem,e1,e2,tRw,QI,upz hj];refine⟨om,Kv t j,?_,?_,?_⟩
    ·rcases Xq g hj with ⟨h,_⟩|⟨m,h,h1,h2,_⟩
     ·rw[h,if_pos vk]at hu;exact .inl ⟨h,by rw[hb,hu]⟩
     ·rw[h,iN7,Gl]at hu;exact .inr ⟨m,h,h2,by rw[hb,hu]⟩
    ·rcases Xq g hj with ⟨h,_⟩|⟨m,h,h1,h2,_⟩
     ·show (if Kv t j<0 then 0 else _)<(if (j:Int)<0 then 0 else _);rw[h,if_pos vk,iN7];omega
     ·rw[h,iN7,iN7];omega
    ·simp[forget]
theorem lastz(hm:m<t.nodes.length)(Ad:0<(nd t m).kids.length):(iz (nd t m).kids).getD ((nd t m).kids.length-1) []=[.int .i64 (Ji t m:Int)]:=by
 rw[JF om];have h4:(nd t m).kids.getD ((nd t m).kids.length-1) 0∈(nd t m).kids:=by rw[Gm,Gp om];exact Gw _
 have h5:=(g.kid hm h4).1;have:((Ji t m:Nat):Int)=(nd t m).kids.getD ((nd t m).kids.length-1) 0:=by unfold Ji;omega
 rw[this]
theorem nLate (ht:t.Fit){s:Nat}(hs:s<t.nodes.length)(hk:(nd t s).k=41)(Fz:blw o a0 (Ji t s)):Fn Gb 178 [.rptr (tRw t),.int .i64 (a0:Int),.int .i64 (s:Int)] (.bool (buL t (upL t (Ji t s) t.nodes.length a0) false)):=by
 have Bu:=(set_kid g hs hk).1;have DF:Ji t s<t.nodes.length:=by have:=(JX g hs Bu).2;omega
 generalize hR:buL t (upL t (Ji t s) t.nodes.length a0) false=R;refine Jc c178_ok rfl rfl λN=>?_
 simp only[c178,go_sem];refine JL (σ:=Nat×Bool) (I:=λs'=>blw o s'.1 (Ji t s)/\∃f,t.nodes.length<=s'.1+f/\R=buL t (upL t (Ji t s) f s'.1) s'.2) (inv:=λs'=>gp [(0,.rptr (tRw t)),(1,.int .i64 (s:Int)),(4,.bool s'.2),(0,.int .i64 (s'.1:Int))] 64) (hp:=λ_=>[]) (μ:=λs'=>t.nodes.length-s'.1) (a0,false) ⟨Fz,t.nodes.length,om,hR.symm⟩ ?_ rfl ?_
 ·simp[forget,gp]
 ·rintro⟨a,late⟩ ⟨hb,f,hf,Aa⟩
  dsimp only at hb hf Aa
  have ha:a<t.nodes.length:=by have:=hb.1;omega
  rcases late_step g (late:=late) hs Bu hb hf with ⟨he,hp⟩|⟨Ai,m,f',hp,jU,aO,hm,iK,OO,iB,Ar⟩
  ·have e1:((s:Int) != (s:Int))=false:=sM
   subst he;rw[late_end]at Aa;simp only[go_sem,tRw,QI,upz ha,hp,e1,Aa];omega
  ·have e1:((m:Int) != (s:Int))=true:=bne_iff_ne.2 om;have hg:=JZ hm;rw[Ar]at Aa;have Ad:0<(nd t m).kids.length:=Ha OO;have Aq:(iz (nd t m).kids).length=(nd t m).kids.length:=Jf;have AL:=lastz g hm Ad;have Bh:(nd t m).kids.length<9223372036854775807:=by have:=(JbR ht hm).kidn;omega
   simp only[go_sem,tRw,QI,upz ha,hp,e1,Ja,hg,Nd.cv];refine⟨om,om,om,?_⟩;refine J3 (nKind t hm) ?_;have fin:∀late',late'=JcY t m a late->(blw o m (Ji t s)/\∃f,t.nodes.length<=m+f/\R=buL t (upL t (Ji t s) f m) late'):=λlate' h=>⟨iK,f',iB,by rw[h];exact Aa⟩
   have en:=JdE (Ji t m) a;by_cases h4:(nd t m).k=4
   ·have Al:JcY t m a late=true:=by unfold JcY;rw[if_pos h4]
    simp only[go_sem,kbE,h4,QI,upz ha,hp];refine⟨om,(m,true),fin true Al.symm,by simp only;omega,?_⟩;simp[forget]
   ·have b4:((nd t m).k == 4)=false:=beq_eq_false_iff_ne.2 h4;by_cases h5:(nd t m).k=46\/(nd t m).k=47
    ·have Al:JcY t m a late=(late || a == Ji t m):=by unfold JcY;rw[if_neg h4,if_pos h5]
     have b5:((nd t m).k == 46)=true\/((nd t m).k == 46)=false/\((nd t m).k == 47)=true:=by rcases h5 with h|h <;> simp[h]
     rcases b5 with b5|⟨b5,b6⟩
     ·cases late with
      |true=>simp only[go_sem,kbE,b4,b5,QI,upz ha,hp];refine⟨om,(m,true),fin true (by rw[Al];rfl),by simp only;omega,?_⟩;simp[forget]
      |false=>simp only[go_sem,kbE,b4,b5,QI,upz ha,hp,Aq,AL,en];refine⟨Jg,om,om,(m,a == Ji t m),fin _ (by rw[Al];rfl),by simp only;omega,?_⟩;simp[forget]
     ·cases late with
      |true=>simp only[go_sem,kbE,b4,b5,b6,QI,upz ha,hp];refine⟨om,(m,true),fin true (by rw[Al];rfl),by simp only;omega,?_⟩;simp[forget]
      |false=>simp only[go_sem,kbE,b4,b5,b6,QI,upz ha,hp,Aq,AL,en];refine⟨Jg,om,om,(m,a == Ji t m),fin _ (by rw[Al];rfl),by simp only;omega,?_⟩;simp[forget]
    ·have b5:((nd t m).k == 46)=false:=beq_eq_false_iff_ne.2 λh=>h5 (.inl h)
     have b6:((nd t m).k == 47)=false:=beq_eq_false_iff_ne.2 λh=>h5 (.inr h)
     by_cases h7:(nd t m).k=28
     ·have b7:((nd t m).k == 28)=true:=by simp[h7]
      have Al:JcY t m a late=(late && (nd t a).k == 43):=by unfold JcY;rw[if_neg h4,if_neg h5,if_pos h7]
      cases late with
      |true=>simp only[go_sem,kbE,b4,b5,b6,b7];refine Kk (gok rfl) (nInside t ha) ?_;simp only[go_sem,QI,upz ha,hp,Bool.not_not];refine⟨om,(m,(nd t a).k == 43),fin _ (by rw[Al];rfl),by simp only;omega,?_⟩;simp[forget]
      |false=>simp only[go_sem,kbE,b4,b5,b6,b7,QI,upz ha,hp];refine⟨om,(m,false),fin _ (by rw[Al];rfl),by simp only;omega,?_⟩;simp[forget]
     ·have b7:((nd t m).k == 28)=false:=beq_eq_false_iff_ne.2 h7;have Al:JcY t m a late=late:=by unfold JcY;rw[if_neg h4,if_neg h5,if_neg h7]
      simp only[go_sem,kbE,b4,b5,b6,b7,QI,upz ha,hp];refine⟨om,(m,late),fin _ Al.symm,by simp only;omega,?_⟩;simp[forget]
end
theorem kidsK_take(h:i<(nd t u).kids.length):((nd t u).kids.take (i+1)).filter (λc=>Jv t.nodes c == k)=((nd t u).kids.take i).filter (λc=>Jv t.nodes c == k)++if Jv t.nodes ((nd t u).kids.getD i 0) == k then [(nd t u).kids.getD i 0] else []:=by rw[GZ h,Hz,Gm,Gp h,Option.getD_some,H5,H9]
theorem kids_len_le:(((nd t u).kids.take i).filter (λc=>Jv t.nodes c == k)).length<=(nd t u).kids.length:=GK (Gz _ _) (by rw[G6];omega)
theorem nKids (t:Tr)(ht:t.Fit)(hu:u<t.nodes.length)(hK:∀k∈(nd t u).kids,0<=k/\k<t.nodes.length)(k:Nat):JdJ Gb 132 [.rptr (tRw t),.int .i64 (u:Int),.int .u8 (k:Int)] 1 (iz (Xw t u k)):=by
 have hg:=JZ hu;have Bh:=(JbR ht hu).kidn;have Aq:(iz (nd t u).kids).length=(nd t u).kids.length:=Jf;refine Jd4 (Ke c132_ok λN=>?_) rfl (Jh _);simp only[c132,go_sem,tRw,Ja,hg,Nd.cv,Aq];refine anO ?_;refine YD ?_;simp only[go_sem,GA];generalize hF:(λc=>Jv t.nodes c == k)=F;refine Jr (I:=λi:Nat=>i<=(nd t u).kids.length) (inv:=λi=>gp [(0,.rptr (tRw t)),(1,.int .u8 (k:Int)),(3,Qq 0 (iz (((nd t u).kids.take i).filter F))),(10,.rslc 1 (iz (nd t u).kids) none),(0,.int .i64 ((nd t u).kids.length:Int)),(0,.int .i64 (i:Int))] 14) (hp:=λi=>[Xj 1 (iz (((nd t u).kids.take i).filter F))]) (μ:=λi=>(nd t u).kids.length-i) 0 [0] om rfl ?_ rfl ?_
 ·simp[forget,JG,ren,gp,tRw,iz,Qq]
 ·intro i hi;by_cases Ab:i<(nd t u).kids.length
  ·have d1:=dtT i (nd t u).kids.length;have Ay:=JF Ab;have BV:=kidsK_take (k:=k) Ab;have Bb:=kids_len_le (t:=t) (u:=u) (k:=k) (i:=i);have AO:(nd t u).kids.getD i 0∈(nd t u).kids:=by rw[Gm,Gp Ab];exact Gw Ab
   have hb:=hK _ AO;rw[hF]at BV Bb;generalize (nd t u).kids.getD i 0=c at BV Ay hb;obtain⟨c,rfl⟩:∃c':Nat,c=c':=⟨c.toNat,om⟩;generalize ((nd t u).kids.take i).filter F=acc at BV Bb;simp only[go_sem,d1,Aq,Ay];refine anO ?_;refine J3 (nKind t om) ?_;have en:=JdE k (nd t c).k;have ek:Jv t.nodes (c:Int)=(nd t c).k:=by unfold Jv nd;rw[Gl]
   rw[ek]at BV
   cases hq:(nd t c).k == k with
   |false=>
    rw[hq]at BV en;simp only[Bool.false_eq_true,if_false,Gq]at BV;simp only[go_sem,en];refine⟨Jg,i+1,[0],om,om,rfl,?_,?_⟩
    ·rw[BV];simp only[KD,Gc,Gd,go_sem,Qv (Jb (Jh acc))]
    ·rw[BV];simp[forget,JG,ren,Jk,tRw,QK]
   |true=>
    rw[hq]at BV en;simp only[if_true]at BV;simp only[go_sem,en,Jf,JA];refine⟨⟨om,om⟩,Jg,i+1,[2],om,om,rfl,?_,?_⟩
    ·rw[BV,Qo,KL];simp only[KD,Gc,Gd,go_sem,Jo];simp[Jb (Jh acc),JG,ren]
    ·rw[BV,Qo,KJ];simp[forget,JG,ren,Jk,tRw,Jf]
  ·have d1:=dfF i (nd t u).kids.length;rw[Gu om];rw[show (nd t u).kids.filter F=Xw t u k by rw[<-hF];rfl];simp only[go_sem,d1];exact⟨0,rfl,rfl⟩
theorem Je8{bytes id:Nat}:K7 z bytes H (Qq id els) []=some (.tt,Qq id els,H):=by cases els <;> rfl
attribute [go_sem] Je8
theorem Xm:iz []=[]:=rfl
theorem Kt:iz (x::l)=[.int .i64 x]::iz l:=rfl
theorem K5 {a b:Lu}:iz (a++b)=iz a++iz b:=by simp[iz]
theorem Je4 {f:Int->Lu}{b:Nat}(h:∀x,(f x).length<=b):∀l:Lu,((l.map f).flatten).length<=l.length*b
 |[]=>sM
 |x::l=>by have h1:=h x;have h2:=Je4 h l;simp only[Gc,List.flatten_cons,Gv,Gg,Ho,Hm];omega
theorem kidsK_len:(Xw t u k).length<=(nd t u).kids.length:=Gz _ _
theorem flat_take {f:Int->Lu}(h:i<l.length):((l.take (i+1)).map f).flatten=((l.take i).map f).flatten++f (l.getD i 0):=by rw[GZ h,H7,List.flatten_append,Gm,Gp h];simp
theorem kidsK_rng(g:GoodT t o)(hu:u<t.nodes.length){c:Int}(hc:c∈Xw t u k):0<=c/\c<t.nodes.length:=by have:=g.kid hu (Qw.1 hc).1;omega
theorem Jaz(ht:t.Fit):(Xw t x.toNat k).length<=30:=by
 rcases Nat.lt_or_ge x.toNat t.nodes.length with h|h
 ·exact GK kidsK_len (JbR ht h).kidn
 ·have:nd t x.toNat=default:=by unfold nd;rw[Gm,List.getElem?_eq_none h];rfl
  refine GK kidsK_len ?_;rw[this];exact Nat.zero_le _
theorem binds_le(ht:t.Fit):(Jan t u).length<=900:=by have h1:=Je4 (f:=λs:Int=>Xw t s.toNat 42) (b:=30) (λx=>Jaz ht) (Xw t u 41);have h2:=Jaz ht (x:=(u:Int)) (k:=41);rw[Gl]at h2;unfold Jan;omega
section
variable(g:GoodT t o)(ht:t.Fit)
include g ht
theorem nKidsG(hu:u<t.nodes.length)(k:Nat):JdJ Gb 132 [.rptr (tRw t),.int .i64 (u:Int),.int .u8 (k:Int)] 1 (iz (Xw t u k)):=nKids t ht hu (λc hc=>by have:=g.kid hu hc;omega) k
theorem nKidsF(hu:u<t.nodes.length)(k:Nat):Fn Gb 132 [.rptr (tRw t),.int .i64 (u:Int),.int .u8 (k:Int)] (.rslc 1 (iz (Xw t u k)) none):=(nKidsG g ht hu k).fn rfl (Jh _)
theorem nBinds(hu:u<t.nodes.length):JdJ Gb 203 [.rptr (tRw t),.int .i64 (u:Int)] 1 (iz (Jan t u)):=by
 have hL:=Jaz ht (x:=(u:Int)) (k:=41);rw[Gl]at hL;refine Jd4 (Ke c203_ok λN=>?_) rfl (Jh _);simp only[c203,go_sem];refine J3 (nKidsF g ht hu 41) ?_;have Br:Jan t u=((Xw t u 41).map λs=>Xw t s.toNat 42).flatten:=rfl;rw[Br];have hr:∀c∈Xw t u 41,0<=c/\c<t.nodes.length:=λc hc=>kidsK_rng g hu hc
 generalize Xw t u 41=L at hL hr|-;have Af:(iz L).length=L.length:=Jf;simp only[go_sem,Af];refine YD ?_;simp only[go_sem,GA];generalize hf:(λs:Int=>Xw t s.toNat 42)=f;have EF:∀x,(f x).length<=30:=λx=>by rw[<-hf];exact Jaz ht
 refine Jr (I:=λi:Nat=>i<=L.length) (inv:=λi=>gp [(0,.rptr (tRw t)),(3,Qq 0 (iz ((L.take i).map f).flatten)),(4,.rslc 1 (iz L) none),(0,.int .i64 (L.length:Int)),(0,.int .i64 (i:Int))] 10) (hp:=λi=>[Xj 1 (iz ((L.take i).map f).flatten)]) (μ:=λi=>L.length-i) 0 [0] om rfl ?_ rfl ?_
 ·simp[forget,JG,ren,gp,Qq,iz]
 ·intro i hi;by_cases Ab:i<L.length
  ·have d1:=dtT i L.length;have Ay:=JF Ab;have AO:L.getD i 0∈L:=by rw[Gm,Gp Ab];exact Gw Ab
   have hb:=hr _ AO;have EY:=flat_take (f:=f) Ab;have Pt:f (L.getD i 0)=Xw t (L.getD i 0).toNat 42:=by rw[<-hf]
   have RZ:=EF (L.getD i 0);have BP:=Je4 EF (L.take i);rw[G6]at BP;generalize ((L.take i).map f).flatten=acc at BP EY|-;generalize f (L.getD i 0)=xs at Pt RZ EY;generalize L.getD i 0=c at Ay hb Pt;obtain⟨c,rfl⟩:∃c':Nat,c=c':=⟨c.toNat,om⟩;rw[Gl]at Pt;simp only[go_sem,d1,Af,Ay];refine anO ?_;refine J3 (nKidsF g ht om 42) ?_;rw[<-Pt]
   cases xs with
   |nil=>
    rw[Gq]at EY;simp only[go_sem,Xm];refine⟨Jg,i+1,[0],om,om,rfl,?_,?_⟩
    ·rw[EY];simp only[KD,Gc,Gd,go_sem,Qv (Jb (Jh acc))]
    ·rw[EY];simp[forget,JG,ren,Jk,QK]
   |cons x xs=>
    simp only[Gg]at RZ;simp only[go_sem,Kt,Jf,JA];refine⟨⟨om,om⟩,Jg,i+1,[1],om,om,rfl,?_,?_⟩
    ·rw[EY,K5,Kt,KL];simp only[KD,Gc,Gd,go_sem,Jo];simp[Jb (Jh acc),Jb (Jh xs),JG,ren]
    ·rw[EY,K5,Kt,KJ];simp[forget,JG,ren,Jk,Jf]
  ·have d1:=dfF i L.length;rw[Gu om];simp only[go_sem,d1];exact⟨0,rfl,rfl⟩
end
theorem CallsC.pad{args:Ls}{R R':CV->Lt->Prop}(h:CallsC P E f args H R)(hR:∀v H',R v H'->R' v H'\/R' v (H'++[.dead])):CallsC P E f args H R':=by
 intro m w vs hs hv;refine(h m w vs hs hv).mono ?_;rintro e w' ⟨r,m',v,H',h1,h2,h3,h4,h5⟩;rcases hR _ _ h5 with g|g
 ·exact⟨r,m',v,H',h1,h2,h3,h4,g⟩
 ·obtain⟨t1,t2,t3⟩:=h3.pad (n0:=H.length);exact⟨r,_,v,_,h1,h2.trans t3,t1,Xp t2 (KI.refl _) _ _ h4,g⟩
def RowR (z:Nat)(els:LM)(v:CV)(H':Lt):Prop:=(∃id,v=Qq id els/\H'[id]? = some (Xj z els))\/(v=.nils/\els=[])\/∃id c,v=.slc id 0 els.length (some c)/\H'[id]? = some (.arr z els)/\els≠[]
theorem RowR.row{id:Nat}{v:CV}(h1:v=Qq id els)(h2:H'[id]? = some (Xj z els)):RowR z els v H':=.inl ⟨id,h1,h2⟩
theorem RowR.nil:RowR z [] .nils H':=.inr (.inl ⟨rfl,rfl⟩)
theorem RowR.lit{id c:Nat}{e:Ls}(h2:H'[id]? = some (.arr z (e::els))):RowR z (e::els) (.slc id 0 (els.length+1) (some c)) H':=.inr (.inr ⟨id,c,rfl,h2,sM⟩)
theorem Je1{args:Ls}(h:CallsC P Env.none f args [] (RowR z els))(ha:Jl args=true)(hc:Jq els=true):JdJ P f args z els:=
 Jd4 ((h.wk (R':=λv H'=>(∃id,v=Qq id els/\H'[id]? = some (Xj z els))\/(v=.nils/\els=[])) λv H' hv=>by
  rcases hv with hv|hv|⟨id,c,rfl,h2,h3⟩
  ·exact⟨v,wk.refl _,.inl hv⟩
  ·exact⟨v,wk.refl _,.inr hv⟩
  ·exact⟨_,wk_cap,.inl ⟨id,(Y4 h3).symm,by rw[YF h3];exact h2⟩⟩).pad λv H' hv=>by
  rcases hv with hv|⟨rfl,rfl⟩
  ·exact .inl hv
  ·exact .inr ⟨H'.length,rfl,by simp;rfl⟩) ha hc
section
variable(g:GoodT t o)(ht:t.Fit)
include g ht
theorem nDeclares(hu:u<t.nodes.length)(ha:a<t.nodes.length):JdJ Gb 174 [.rptr (tRw t),.int .i64 (u:Int),.int .i64 (a:Int)] 1 (iz (JcH t u a)):=by
 have hg:=JZ hu;have Aq:(iz (nd t u).kids).length=(nd t u).kids.length:=Jf;have bu:=dtT u t.nodes.length;refine Je1 (Ke c174_ok λN=>?_) rfl (Jh _);unfold JcH;by_cases Eo:(nd t u).k=40
 ·rw[if_pos Eo];simp only[c174,go_sem,tRw,Ja,hg,Nd.cv,kbE,Eo];refine anO ?_;refine JfD (.inl rfl) (nBinds g ht hu) ?_;simp only[go_sem];exact .row (id:=1) rfl rfl
 have b40:((nd t u).k == 40)=false:=beq_eq_false_iff_ne.2 Eo;rw[if_neg Eo];by_cases BA:(nd t u).k=65
 ·rw[if_pos BA];simp only[c174,go_sem,tRw,Ja,hg,Nd.cv,kbE,BA];refine anO ?_;refine JfD (.inl rfl) (nKidsG g ht hu 64) ?_;simp only[go_sem];exact .row (id:=1) rfl rfl
 have b65:((nd t u).k == 65)=false:=beq_eq_false_iff_ne.2 BA;rw[if_neg BA];by_cases CE:(nd t u).k=47
 ·rw[if_pos CE];have Ad:(nd t u).kids.length=3:=(Jcg g hu CE).1;have M8:=JF (l:=(nd t u).kids) (i:=2) om;by_cases he:(a:Int)=(nd t u).kids.getD 2 0
  ·have e1:((a:Int) == (nd t u).kids.getD 2 0)=true:=beq_iff_eq.2 he;rw[if_pos he];simp only[c174,go_sem,tRw,Ja,hg,Nd.cv,kbE,CE,Aq,Ad,M8,e1];exact⟨om,om,.lit rfl⟩
  ·have e1:((a:Int) == (nd t u).kids.getD 2 0)=false:=beq_eq_false_iff_ne.2 he;rw[if_neg he];simp only[c174,go_sem,tRw,Ja,hg,Nd.cv,kbE,CE,Aq,Ad,M8,e1];exact⟨om,om,.nil⟩
 have b47:((nd t u).k == 47)=false:=beq_eq_false_iff_ne.2 CE;rw[if_neg CE];by_cases Eb:(nd t u).k=28
 ·rw[if_pos Eb];simp only[c174,go_sem,tRw,Ja,hg,Nd.cv,kbE,Eb];refine anO ?_;refine J3 (nKind t ha) ?_;by_cases BR:(nd t a).k=43
  ·rw[if_pos BR];simp only[go_sem,kbE,BR];exact .nil
  have b43:((nd t a).k == 43)=false:=beq_eq_false_iff_ne.2 BR;rw[if_neg BR];by_cases BC:(nd t a).k=41\/(nd t a).k=44
  ·rw[if_pos BC];have hK:=Jaz ht (x:=(u:Int)) (k:=43);rw[Gl]at hK;have hB:=binds_le ht (u:=u);have b41:((nd t a).k == 41)=true\/((nd t a).k == 41)=false/\((nd t a).k == 44)=true:=by rcases BC with h|h <;> simp[h]
   rcases b41 with b41|⟨b41,b44⟩
   ·simp only[go_sem,kbE,b43,b41];refine JfD (.inl rfl) (nKidsG g ht hu 43) ?_;simp only[go_sem];refine J3 ((nBinds g ht hu).fn rfl (Jh _)) ?_;generalize Xw t u 43=L at hK|-;generalize Jan t u=M at hB|-
    cases M with
    |nil=>simp only[go_sem,Xm,Gq];exact .row (id:=1) rfl rfl
    |cons x xs=>simp only[Gg]at hB;simp only[go_sem,Kt,Jf,JA];refine⟨⟨om,om⟩,.row (id:=2) (by rw[K5,Kt,KJ,Jf,Jf]) (by rw[K5,Kt,KL];rfl)⟩
   ·simp only[go_sem,kbE,b43,b41,b44];refine JfD (.inl rfl) (nKidsG g ht hu 43) ?_;simp only[go_sem];refine J3 ((nBinds g ht hu).fn rfl (Jh _)) ?_;generalize Xw t u 43=L at hK|-;generalize Jan t u=M at hB|-
    cases M with
    |nil=>simp only[go_sem,Xm,Gq];exact .row (id:=1) rfl rfl
    |cons x xs=>simp only[Gg]at hB;simp only[go_sem,Kt,Jf,JA];refine⟨⟨om,om⟩,.row (id:=2) (by rw[K5,Kt,KJ,Jf,Jf]) (by rw[K5,Kt,KL];rfl)⟩
  ·have b41:((nd t a).k == 41)=false:=beq_eq_false_iff_ne.2 λh=>BC (.inl h)
   have b44:((nd t a).k == 44)=false:=beq_eq_false_iff_ne.2 λh=>BC (.inr h)
   rw[if_neg BC];simp only[go_sem,kbE,b43,b41,b44];refine JfD (.inl rfl) (nKidsG g ht hu 43) ?_;simp only[go_sem];exact .row (id:=1) rfl rfl
 have b28:((nd t u).k == 28)=false:=beq_eq_false_iff_ne.2 Eb;rw[if_neg Eb];simp only[c174,go_sem,tRw,Ja,hg,Nd.cv,kbE,b40,b65,b47,b28];exact⟨om,.nil⟩
omit g in
theorem decl_le:(JcH t u a).length<=1000:=by
 have hB:=binds_le ht (u:=u);have hK:∀k,(Xw t u k).length<=30:=λk=>by
  have:=Jaz ht (x:=(u:Int)) (k:=k)
  rwa [Gl]at this
 have h1:=hK 64;have h2:=hK 43;unfold JcH
 repeat' split
 all_goals first|omega|simp only[Gv,Gg,Gt];omega
omit ht in
theorem sight_sort {j:Nat}(hj:j<t.nodes.length):(Yd t t.nodes.length j).mergeSort (λx y=>decide (x<=y))=QW t j:=by
 refine asc_eq (sort_strict (climb_nodup g _ _ hj)) (Jea.filter _) λx=>?_
 unfold QW;rw[sort_mem,GX,List.contains_iff_mem]
 constructor
 ·intro h;have:=climb_who g _ _ _ hj h;exact⟨KO.2 ⟨this.1,this.2.1⟩,h⟩
 ·exact λh=>h.2
theorem nSight {j:Nat}(hj:j<t.nodes.length):Fn Gb 131 [.rptr (tRw t),.int .i64 (j:Int)] (.rslc 1 (iz (QW t j)) none):=by
 have Ag:=g.many;rw[<-sight_sort g hj];refine Jgh (Ke c131_ok λN=>?_) rfl (Jh _);simp only[c131,go_sem];refine YD ?_;simp only[go_sem,GA];generalize hC:Yd t t.nodes.length j=C;refine Jr (σ:=Nat×Nat×Lu) (I:=λs=>s.2.1<t.nodes.length/\t.nodes.length<=s.2.1+s.1/\s.2.2++Yd t s.1 s.2.1=C/\s.2.2.length+1000*s.1<=1000*t.nodes.length) (inv:=λs=>gp [(0,.rptr (tRw t)),(3,Qq 0 (iz s.2.2)),(0,.int .i64 (s.2.1:Int))] 31) (hp:=λs=>[Xj 1 (iz s.2.2)]) (μ:=λs=>t.nodes.length-s.2.1) (t.nodes.length,j,[]) [0] ⟨hj,by simp only;omega,by simp[hC],sM⟩ rfl ?_ rfl ?_
 ·simp[forget,JG,ren,gp,Qq,iz]
 ·rintro⟨f,a,acc⟩ ⟨ha,hf,BP,Ad⟩
  dsimp only at ha hf BP Ad
  obtain⟨f,rfl⟩:∃f',f=f' + 1:=⟨f-1,om⟩;rw[Yd]at BP;rcases Xq g ha with ⟨hp,_⟩|⟨m,hp,aO,hm,_⟩
  ·have e1:((-1:Int) != -1)=false:=vk
   rw[hp,if_pos vk,Gq]at BP;simp only[go_sem,tRw,QI,upz ha,hp,e1];refine anO ?_
   cases acc with
   |nil=>rw[<-BP];simp only[go_sem,Xm,X5];refine J3 sortNil ?_;simp only[go_sem,Hy,Xm,X5,Jau];exact⟨0,rfl⟩
   |cons x xs=>
    rw[<-BP];simp only[Gg]at Ad;have Ai:(x::xs).mergeSort (λx y=>decide (x<=y))≠[]:=by intro e;have:=congrArg Lb e;rw[Hd]at this;simp at this
    have Eu:(iz ((x::xs).mergeSort λx y=>decide (x<=y)))≠[]:=by simpa [iz]using Ai
    simp only[go_sem,Kt,YE,Ja0,Jf];refine Kq (.inl rfl) (sortRow (l:=x::xs) sM (by simp only[Gg];omega) rfl) λv H' ⟨h1,h2⟩=>?_
    subst h1 h2;simp only[go_sem];refine⟨0,by rw[Y4 Eu,Jf,Hd];rfl,by rw[YF Eu];rfl⟩
  ·have e1:((m:Int) != -1)=true:=bne_iff_ne.2 om;rw[hp,iN7,Gl,<-List.append_assoc]at BP;have Be:=decl_le ht (u:=m) (a:=a);simp only[go_sem,tRw,QI,upz ha,hp,e1];refine⟨om,om,?_⟩;refine J3 ((nDeclares g ht hm ha).fn rfl (Jh _)) ?_;generalize JcH t m a=xs at BP Be|-
   cases xs with
   |nil=>
    rw[Gq]at BP;simp only[go_sem,QI,upz ha,hp,Xm];refine⟨om,(f,m,acc),[0],⟨hm,by simp only;omega,BP,by simp only;omega⟩,by simp only;omega,rfl,?_,?_⟩
    ·simp only[KD,Gc,Gd,go_sem,Qv (Jb (Jh acc))]
    ·simp[forget,JG,ren,Jk,QK]
   |cons x xs=>
    simp only[Gg]at Be;simp only[go_sem,upz ha,hp,Kt,Jf,Jee,JA];refine⟨⟨om,om⟩,om,(f,m,acc++x::xs),[1],⟨hm,by simp only;omega,BP,by simp only[Gv,Gg];omega⟩,by simp only;omega,rfl,?_,?_⟩
    ·rw[K5,Kt,KL];simp only[KD,Gc,Gd,go_sem,Jo];simp[Jb (Jh acc),Jb (Jh xs),JG,ren]
    ·rw[K5,Kt,KJ];simp[forget,JG,ren,Jk,Jf]
end
theorem fixA_find:∀(l:Lu) (i:Nat),(XT q l i = -1/\l.find? q=none)\/∃j,j<l.length/\XT q l i=((i+j:Nat):Int)/\l.find? q=some (l.getD j 0)
 |[],i=>.inl ⟨rfl,rfl⟩
 |x::l,i=>by
  rw[XT,GH]
  cases hq:q x with
  |true=>exact .inr ⟨0,sM,sM,sM⟩
  |false=>
   rcases fixA_find l (i+1) with ⟨h1,h2⟩|⟨j,h1,h2,h3⟩
   ·exact .inl ⟨by simpa using h1,h2⟩
   ·exact .inr ⟨j+1,by simpa using h1,by simp[h2];omega,by simpa using h3⟩
theorem indexFI(l:Lu)(q:Int->Bool)(cap:Option Nat)(hF:Jd Gb f=some F)(CY:Jl l1=true)(Dg:Jl l2=true)
  (hq:∀p∈l,Fn Gb f (l1++[.int .i64 p]++l2) (.bool (q p))) (Ad:l.length<=1000000):Fn Gb 41 [.rslc 1 (iz l) cap,.fn f l1 l2] (.int .i64 (XT q l 0)):=by
 have Af:(iz l).length=l.length:=Jf;refine Jc c41_ok (by simp[Jl,CV.closed,CY,Dg]) rfl λN=>?_
 simp only[c41,go_sem,Af];refine JL (I:=λi:Nat=>i<=l.length/\XT q l 0=XT q (l.drop i) i) (inv:=λi=>gp [(0,.rslc 1 (iz l) cap),(0,.fn f l1 l2),(5,.int .i64 l.length),(0,.int .i64 i)] 10) (hp:=λ_=>[]) (μ:=λi=>l.length-i) 0 ⟨om,rfl⟩ ?_ rfl ?_
 ·simp[forget,gp]
 ·rintro i ⟨hi,Aa⟩;by_cases Ab:i<l.length
  ·have d1:=dtT i l.length;have Ay:=JF Ab;have BS:l[i]? = some (l.getD i 0):=by rw[Gm,Gp Ab];rfl
   have hm:l.getD i 0∈l:=Hu BS;rw[Xn BS]at Aa;simp only[go_sem,Af,d1,Ay];refine anO ?_;refine vr_fv (.inl rfl) rfl hF (Jcq pNames _) (hq _ hm) ?_
   cases hb:q (l.getD i 0) with
   |true=>rw[hb,if_pos rfl]at Aa;simp only[go_sem,Aa]
   |false=>rw[hb]at Aa;simp only[go_sem];refine⟨Jg,i+1,⟨om,by simpa using Aa⟩,om,?_⟩;simp[forget]
  ·have d1:=dfF i l.length;rw[Gs om]at Aa;simp only[go_sem,d1,Aa,XT]
theorem nNamed1 (t:Tr)(s:Lv)(hi:i<t.nodes.length):Fn Gb 173 [.int .i64 (i:Int),.rptr [.rptr (tRw t)],.rptr [S s]] (.bool ((nd t i).text == s)):=by
 have hg:=JZ hi;refine Jc c173_ok rfl rfl λN=>?_
 simp only[c173,go_sem];refine JP Jm vk ?_;simp only[go_sem,tRw,Ja,hg,Nd.cv];omega
theorem nNamed (t:Tr)(s:Lv)(l:Lu)(hl:∀d∈l,0<=d/\d<t.nodes.length)(Ad:l.length<=1000000):Fn Gb 130 [.rptr (tRw t),.rslc 1 (iz l) none,S s] (.int .i64 (JaL t l s)):=by
 have Af:(iz l).length=l.length:=Jf;unfold JaL;generalize hq:(λd:Int=>(nd t d.toNat).text == s)=q;refine Jc c130_ok rfl rfl λN=>?_
 simp only[c130,go_sem];refine Je (id:=0) (z:=1) (els:=[[.rptr (tRw t)]]) rfl rfl ?_;simp only[go_sem,JM,KA,frz,Kn,Gf];refine Je (id:=1) (z:=1) (els:=[[S s]]) rfl rfl ?_;simp only[go_sem,JM,KA,frz,Kn,Gf];refine J3 (indexFI l q none c173_ok rfl rfl (λp hp=>?_) Ad) ?_
 ·have hb:=hl p hp;obtain⟨p,rfl⟩:∃p':Nat,p=p':=⟨p.toNat,om⟩;have h:=nNamed1 t s (i:=p) om;rw[<-hq];simpa only[GA,G7,Gl]using h
 ·rcases fixA_find (q:=q) l 0 with ⟨h1,h2⟩|⟨j,h1,h2,h3⟩
  ·have e1:((-1:Int)<0)=True:=J5;simp only[go_sem,h1,h2,e1]
  ·rw[GN]at h2;have e1:((j:Int)<0)=False:=J7;have Bq:=JF h1;simp only[go_sem,h2,h3,e1,Af,Bq];omega
section
variable(g:GoodT t o)(ht:t.Fit)
include g ht
theorem nMeaning(hi:i<t.nodes.length):Fn Gb 82 [.rptr (tRw t),.int .i64 (i:Int)] (.tup [.int .i64 (J2 t o i),.bool (KH t i)]):=by
 have hg:=JZ hi;have Ag:=g.many;have aa:=ht.items;refine Jc c82_ok rfl rfl λN=>?_
 unfold J2 KH;by_cases h3:(nd t i).k=3
 ·have hm:=Jb1 g hi om;have hs:∀d∈QW t i,0<=d/\d<t.nodes.length:=λd hd=>KO.1 (GX.1 hd).1
  have CG:(QW t i).length<=1000000:=by
   have:=Gz (λd=>(Yd t t.nodes.length i).contains d) (Ql t);unfold QW;have h2:(Ql t).length=t.nodes.length:=by simp[Ql]
   omega
  have hN:=nNamed t (nd t i).text (QW t i) hs CG;rw[hm]at hN;simp only[c82,go_sem,tRw,Ja,hg,Nd.cv,kbE,h3];refine anO ?_;refine Je (id:=0) (z:=5) (els:=[(nd t i).cv]) (by simp only[Nd.cv,h3];rfl) rfl ?_;simp only[go_sem,JM,KA,frz,Kn,Gf];refine JP Jm vk ?_;simp only[go_sem,Nd.cv];refine J9 (.inl rfl) (nSight g ht hi) ?_;simp only[go_sem];refine J9 (.inl rfl) hN ?_;simp only[go_sem]
 have b3:((nd t i).k == 3)=false:=beq_eq_false_iff_ne.2 h3;rw[if_neg h3,b3,Gr];by_cases Db:(nd t i).k=26
 ·have hN:=nNamed t (nd t i).text t.items (λd hd=>by have:=g.itr hd;omega) om;rw[call_means g]at hN;simp only[c82,go_sem,tRw,Ja,hg,Nd.cv,kbE,Db];refine anO ?_;refine Je (id:=0) (z:=5) (els:=[(nd t i).cv]) (by simp only[Nd.cv,Db];rfl) rfl ?_;simp only[go_sem,JM,KA,frz,Kn,Gf];refine JP Jm vk ?_;simp only[go_sem,Nd.cv];refine J9 (.inl rfl) hN ?_;simp only[go_sem]
 have b26:((nd t i).k == 26)=false:=beq_eq_false_iff_ne.2 Db;rw[if_neg Db,b26,Gr];by_cases BB:(nd t i).k=44
 ·obtain⟨u,ML,EC,UN,Pg⟩:=QO g hi om;have hK:=Jaz ht (x:=(u:Int)) (k:=43);rw[Gl]at hK;have hN:=nNamed t (nd t i).text (Xw t u 43) (λd hd=>kidsK_rng g EC hd) om;rw[next_means g EC ML]at hN;simp only[c82,go_sem,tRw,Ja,hg,Nd.cv,kbE,BB];refine anO ?_;refine Je (id:=0) (z:=5) (els:=[(nd t i).cv]) (by simp only[Nd.cv,BB];rfl) rfl ?_;simp only[go_sem,JM,KA,frz,Kn,Gf];refine JP Jm vk ?_;simp only[go_sem,Nd.cv,QI,upz hi,ML];refine anO ?_;refine J9 (.inl rfl) (nKidsF g ht EC 43) ?_;simp only[go_sem];refine J9 (.inl rfl) hN ?_;simp only[go_sem]
 have b44:((nd t i).k == 44)=false:=beq_eq_false_iff_ne.2 BB;rw[if_neg BB,b44];simp only[c82,go_sem,tRw,Ja,hg,Nd.cv,kbE,b3,b26,b44];omega
def twQ (t:Tr)(i k:Nat):Bool:=(nd t k).text == (nd t i).text && (if (nd t i).k=44 then(nd t k).k == 44 && Kv t k == Kv t i else if (nd t i).k=65 then(nd t k).k == 65 else !((nd t k).k == 65) && (KU (nd t k).k && QR t k == QR t i))
omit g ht in
theorem nTwice1(hi:i<t.nodes.length)(hk:k<t.nodes.length):Fn Gb 133 [.int .i64 (k:Int),.rptr [.rptr (tRw t)],.rptr (nd t i).cv,.rptr [.int .i64 (i:Int)]] (.bool (twQ t i k)):=by
 have hg:=JZ hk;refine Jc c133_ok rfl rfl λN=>?_
 unfold twQ
 cases ht:(nd t k).text == (nd t i).text with
 |false=>simp only[c133,go_sem,tRw,Ja,hg,Nd.cv,ht,Gi,Gn];omega
 |true=>
  rw[Gj];by_cases BB:(nd t i).k=44
  ·rw[if_pos BB];simp only[c133,go_sem,tRw,Ja,hg,Nd.cv,ht,kbE,BB,Gh];refine anO ?_;refine Je (id:=0) (z:=5) (els:=[(nd t k).cv]) rfl rfl ?_;simp only[go_sem,JM,KA,frz,Kn,Gf,Nd.cv];refine JP Jm vk ?_
   cases Bz:(nd t k).k == 44 with
   |false=>simp only[go_sem,kbE,Bz,Gn]
   |true=>simp only[go_sem,kbE,Bz,QI,upz hi,upz hk,Gj];omega
  have b44:((nd t i).k == 44)=false:=beq_eq_false_iff_ne.2 BB;rw[if_neg BB];by_cases BA:(nd t i).k=65
  ·rw[if_pos BA];simp only[c133,go_sem,tRw,Ja,hg,Nd.cv,ht,kbE,BA,Gh];omega
  have b65:((nd t i).k == 65)=false:=beq_eq_false_iff_ne.2 BA;rw[if_neg BA];simp only[c133,go_sem,tRw,Ja,hg,Nd.cv,ht,kbE,b44,b65,Gh];refine anO ?_;refine Je (id:=0) (z:=5) (els:=[(nd t k).cv]) rfl rfl ?_;simp only[go_sem,JM,KA,frz,Kn,Gf,Nd.cv];refine JP Jm vk ?_
  cases Bz:(nd t k).k == 65 with
  |true=>simp only[go_sem,kbN,Bz,Gh,Gn]
  |false=>
   simp only[go_sem,kbN,Bz,Gi,Gj];refine J9 (gok rfl) (nIsDecl t hk) ?_
   cases hd:KU (nd t k).k with
   |false=>simp only[go_sem,Gn]
   |true=>have en:=JdE (QR t i) (QR t k);simp only[go_sem,itz_len,itz hi,itz hk,en,Gj];omega
end
theorem QB(h:i<n):(Ga n).drop i=i::(Ga n).drop (i+1):=by rw[GM (by simpa using h),List.getElem_range]
theorem any_skip {q:Nat->Bool}:∀(m:Nat),m<=n->(∀i,i<m->q i=false)->(Ga n).any q=((Ga n).drop m).any q
 |0,_,_=>by rw[Gf]
 |m+1,h,hq=>by rw[any_skip m om λi hi=>hq i om,QB om,Gx,hq m om,Gr]
theorem Ja3 (k:Nat):Fn Gb 97 [.int .u8 (k:Int)] (.bool (KU k)):=by
 refine Jc c97_ok rfl rfl λN=>?_
 cases h1:(k == 65) <;> cases h2:(k == 64) <;> cases h3:(k == 42) <;> cases h4:(k == 43) <;> cases h5:(k == 47) <;>
  simp only[c97,go_sem,kbE,h1,h2,h3,h4,h5,KU,GL,Hr]
theorem Jg9 (k:Nat):Fn Gb 57 [.int .u8 (k:Int)] (.bool (k == 3 || k == 26 || k == 44)):=by
 refine Jc c57_ok rfl rfl λN=>?_
 cases h1:(k == 3) <;> cases h2:(k == 26) <;> cases h3:(k == 44) <;>
  simp only[c57,go_sem,kbE,h1,h2,h3,GL,Hr]
theorem any_cg {q r:Nat->Bool}:∀{l:Lx},(∀x∈l,q x=r x)->l.any q=l.any r
 |[],_=>rfl
 |x::l,h=>by rw[Gx,Gx,h x sM,any_cg λy hy=>h y (by simp[hy])]
section
variable(g:GoodT t o)(ht:t.Fit)
include g ht
theorem Jah{j:Nat}(hi:i<t.nodes.length):Fn Gb 151 [t.cv,.int .i64 (j:Int),.int .i64 (i:Int)] (.bool (JbS o j i)):=by
 have h:=refIsBelow t ht g (j:Int) i hi
 rwa [show (decide ((j:Int)<=(i:Int)) && decide (fs o i<=(j:Int)))=JbS o j i by unfold JbS;rw[decide_eq_decide.2 (Int.ofNat_le (m:=j) (n:=i))]]at h
theorem Ja2(hn:n<t.nodes.length):Fn Gb 99 [t.cv,.int .i64 (n:Int)] (.int .i64 (Kv t n)):=refParent t ht g n hn
theorem Yk(hu:u<t.nodes.length)(Ad:0<(nd t u).kids.length):Fn Gb 111 [t.cv,.int .i64 (u:Int)] (.int .i64 (Ji t u:Int)):=by
 have hg:=JZ hu;have Aq:(iz (nd t u).kids).length=(nd t u).kids.length:=Jf;have AL:=lastz g hu Ad;have Bh:=(JbR ht hu).kidn;refine Jc c111_ok rfl rfl λN=>?_
 simp only[c111,go_sem,Tr.cv,Tr.row];refine Je (id:=0) (z:=2) (els:=[t.row]) rfl rfl ?_;simp only[go_sem,JM,KA,frz,Kn];refine JP Jm vk ?_;simp only[go_sem,Tr.row,Ja,hg,Nd.cv,Aq,AL];exact⟨om,om,Jg,om,om⟩
theorem refItemOf(hi:i<t.nodes.length):Fn Gb 100 [t.cv,.int .i64 (i:Int)] (.int .i64 (Y0 t o i)):=by
 have Af:(iz t.items).length=t.items.length:=Jf;have M3:=ht.items;unfold Y0;generalize hq:(λL:Int=>JbS o i L.toNat)=q;refine Jc c100_ok rfl rfl λN=>?_
 simp only[c100,go_sem,Tr.cv,Tr.row];refine Je (id:=0) (z:=2) (els:=[t.row]) rfl rfl ?_;simp only[go_sem,JM,KA,frz,Kn];refine JL (I:=λk:Nat=>k<=t.items.length/\t.items.find? q=(t.items.drop k).find? q) (inv:=λk=>gp [(1,.int .i64 (i:Int)),(0,.rptr t.row),(2,.int .i64 (k:Int))] 20) (hp:=λ_=>[.dead]) (μ:=λk=>t.items.length-k) 0 ⟨om,rfl⟩ ?_ rfl ?_
 ·simp[forget,gp]
 ·rintro k ⟨hk,Aa⟩;by_cases Ab:k<t.items.length
  ·have d1:=dtT k t.items.length;have Dz:=JF Ab;have AO:t.items.getD k 0∈t.items:=by rw[Gm,Gp Ab];exact Gw Ab
   have hr:=g.itr AO;rw[GM Ab,GH,show t.items[k]=t.items.getD k 0 by rw[Gm,Gp Ab];rfl]at Aa;generalize t.items.getD k 0=L at Dz hr Aa;obtain⟨L,rfl⟩:∃L':Nat,L=L':=⟨L.toNat,om⟩;have bR:q (L:Int)=JbS o i L:=by rw[<-hq];simp only[Gl]
   simp only[go_sem,Tr.row,Af,d1];refine JP Jm vk ?_;simp only[go_sem,Af,Dz];refine anO ?_;refine J9 (.inl rfl) (Jah g ht om) ?_
   cases hb:JbS o i L with
   |true=>rw[bR,hb]at Aa;simp only[go_sem,Af,Dz,Aa];omega
   |false=>rw[bR,hb]at Aa;simp only[go_sem];refine⟨Jg,k+1,⟨om,Aa⟩,om,?_⟩;simp[forget]
  ·have d1:=dfF k t.items.length;rw[Gs om,GI]at Aa;simp only[go_sem,Tr.row,Af,d1,Aa]
def bkQ (t:Tr)(o:Lu)(j u:Nat)(last:Bool)(i:Nat):Bool:=(last || decide (i+1<(nd t u).kids.length)) && JbS o j (Ju t u i)
omit g ht in
theorem bk_drop{j:Nat}{last:Bool}:bkB t o j u m last=((Ga (nd t u).kids.length).drop m).any (bkQ t o j u last):=by
 unfold bkB;by_cases Ch:m<=(nd t u).kids.length
 ·rw[any_skip m Ch λi hi=>by rw[decide_eq_false om];rfl];refine any_cg λi hi=>?_
  rw[List.range_eq_range',List.drop_range',List.mem_range'_1]at hi;rw[decide_eq_true om,Gj];rfl
 ·rw[Gs (by simp;omega),GD,List.any_eq_false];intro i hi;rw[decide_eq_false (by have:=List.mem_range.1 hi;omega)];simp
theorem Jdu{j:Nat}(hu:u<t.nodes.length)(hm:m<=100)(last:Bool):Fn Gb 152 [t.cv,.int .i64 (j:Int),.int .i64 (u:Int),.int .i64 (m:Int),.bool last] (.bool (bkB t o j u m last)):=by
 have hg:=JZ hu;have Aq:(iz (nd t u).kids).length=(nd t u).kids.length:=Jf;have Bh:=(JbR ht hu).kidn;rw[bk_drop];generalize hq:bkQ t o j u last=q;refine Jc c152_ok rfl rfl λN=>?_
 simp only[c152,go_sem,Tr.cv,Tr.row,Ja,hg,Nd.cv];refine anO ?_;refine Je (id:=0) (z:=2) (els:=[t.row]) rfl rfl ?_;simp only[go_sem,JM,KA,frz,Kn,Tr.row];refine JL (I:=λi:Nat=>((Ga (nd t u).kids.length).drop m).any q=((Ga (nd t u).kids.length).drop i).any q) (inv:=λi=>gp [(1,.int .i64 (j:Int)),(2,.bool last),(0,.rptr t.row),(5,.rslc 1 (iz (nd t u).kids) none),(0,.int .i64 (i:Int))] 30) (hp:=λ_=>[.dead]) (μ:=λi=>(nd t u).kids.length-i) m rfl ?_ rfl ?_
 ·simp[forget,gp,Tr.row]
 ·intro i Aa;by_cases Ab:i<(nd t u).kids.length
  ·have d1:=dtT i (nd t u).kids.length;have Ay:=JF Ab;obtain⟨k1,k2,_⟩:=Jz g hu Ab;have Mv:(nd t u).kids.getD i 0=(Ju t u i:Int):=by
    have hm:(nd t u).kids.getD i 0∈(nd t u).kids:=by rw[Gm,Gp Ab];exact Gw Ab
    have:=(g.kid hu hm).1;unfold Ju;omega
   rw[Mv]at Ay;have hB:=Jah g ht (j:=j) (i:=Ju t u i) om;have CS:q i=((last || decide (i+1<(nd t u).kids.length)) && JbS o j (Ju t u i)):=by rw[<-hq];rfl
   rw[QB Ab,Gx,CS]at Aa;simp only[go_sem,Aq,d1];refine JP Jm vk ?_
   cases last with
   |true=>
    rw[Gy,Gj]at Aa;simp only[go_sem,Tr.row,Gg,Gt,Aq,Ay];refine anO ?_;refine J9 (gok rfl) hB ?_
    cases hb:JbS o j (Ju t u i) with
    |true=>rw[hb,Gy]at Aa;simp only[go_sem,Aa]
    |false=>rw[hb,Gr]at Aa;simp only[go_sem];refine⟨Jg,i+1,Aa,om,?_⟩;simp[forget]
   |false=>
    rw[Gr]at Aa;by_cases hl:i+1<(nd t u).kids.length
    ·have e1:decide ((i:Int)<((nd t u).kids.length:Int)-1)=true:=decide_eq_true om;rw[decide_eq_true hl,Gj]at Aa;simp only[go_sem,Tr.row,Gg,Gt,Aq,Ay,e1];refine⟨Jg,om,?_⟩;refine J9 (gok rfl) hB ?_
     cases hb:JbS o j (Ju t u i) with
     |true=>rw[hb,Gy]at Aa;simp only[go_sem,Aa]
     |false=>rw[hb,Gr]at Aa;simp only[go_sem];refine⟨Jg,i+1,Aa,om,?_⟩;simp[forget]
    ·have e1:decide ((i:Int)<((nd t u).kids.length:Int)-1)=false:=decide_eq_false om;rw[decide_eq_false hl,Gn,Gr]at Aa;simp only[go_sem,Aq,e1];refine⟨Jg,Jg,i+1,Aa,om,?_⟩;simp[forget,Tr.row]
  ·have d1:=dfF i (nd t u).kids.length;rw[show (Ga (nd t u).kids.length).drop i=[] from Gs (by simp;omega),GD]at Aa;simp only[go_sem,Aq,d1,Aa]
theorem refInSight {d j:Nat}(hd:d<t.nodes.length)(hj:j<t.nodes.length):Fn Gb 98 [t.cv,.int .i64 (d:Int),.int .i64 (j:Int)] (.bool (inB t o d j)):=by
 have hg:=JZ hd;have hP:=Ja2 g ht hd;unfold inB;refine Jc c98_ok rfl rfl λN=>?_
 simp only[c98,go_sem,Tr.cv,Tr.row];refine Je (id:=0) (z:=2) (els:=[t.row]) rfl rfl ?_;simp only[go_sem,JM,KA,frz,Kn,Tr.row];refine J3 hP ?_;simp only[go_sem,Ja,hg,Nd.cv,kbE];refine anO ?_;by_cases BA:(nd t d).k=65
 ·simp only[BA,go_sem,if_true]
 have b65:((nd t d).k == 65)=false:=beq_eq_false_iff_ne.2 BA;rw[if_neg BA];by_cases Ea:(nd t d).k=64
 ·obtain⟨u,ML,EC,UN,Pg⟩:=QO g hd BA;have Ad:=Ha Pg;have Dc:=Jz g EC (i:=(nd t u).kids.length-1) om;simp only[Ea,go_sem,ML,if_true,Gl];refine JP Jm vk ?_;simp only[go_sem];refine J9 (.inl rfl) (Yk g ht EC Ad) ?_;simp only[go_sem];refine J9 (.inl rfl) (Jah g ht (show Ji t u<t.nodes.length by have:=Dc.2.1;unfold Ju at this;unfold Ji;omega)) ?_;simp only[go_sem]
 have b64:((nd t d).k == 64)=false:=beq_eq_false_iff_ne.2 Ea;rw[if_neg Ea];by_cases BR:(nd t d).k=43
 ·obtain⟨u,ML,EC,UN,Pg⟩:=QO g hd BA;have IV:(nd t u).k=28:=(YL (Jc6 g EC Pg)).2.1 (by rw[BR];rfl);obtain⟨a,b,ha,Su,Br,_⟩:=X7 g EC IV;have AV:(nd t u).n=(a:Int):=ha;have Bh:=(JbR ht EC).kidn;have aM:b<(nd t u).kids.length:=Br;have OT:=JZ EC;simp only[BR,go_sem,ML,if_true,Gl,AV];refine JP Jm vk ?_;simp only[go_sem,Ja,OT,Nd.cv,AV];refine anO ?_;refine J9 (.inl rfl) (Jdu g ht EC om true) ?_;simp only[go_sem]
 have b43:((nd t d).k == 43)=false:=beq_eq_false_iff_ne.2 BR;rw[if_neg BR];by_cases CE:(nd t d).k=47
 ·have Ad:(nd t d).kids.length=3:=(Jcg g hd CE).1;have Dc:=Jz g hd (i:=(nd t d).kids.length-1) om;simp only[CE,go_sem,if_true];refine JP Jm vk ?_;simp only[go_sem];refine J9 (.inl rfl) (Yk g ht hd om) ?_;simp only[go_sem];refine J9 (.inl rfl) (Jah g ht (show Ji t d<t.nodes.length by have:=Dc.2.1;unfold Ju at this;unfold Ji;omega)) ?_;simp only[go_sem]
 have b47:((nd t d).k == 47)=false:=beq_eq_false_iff_ne.2 CE;rw[if_neg CE];by_cases BZ:(nd t d).k=42
 ·obtain⟨u,ML,EC,UN,Pg⟩:=QO g hd BA;have IV:(nd t u).k=41:=(YL (Jc6 g EC Pg)).2.2.1 (by rw[BZ];rfl);obtain⟨v,MK,EB,jP,fe⟩:=QO g EC om;have Ce:(nd t v).k=40\/(nd t v).k=28:=(YL (Jc6 g EB fe)).2.2.2.1 (by rw[IV];rfl);have cz:=JZ EB;have dE:=Ja2 g ht EC;rw[MK]at dE;simp only[BZ,go_sem,ML,MK,if_true,Gl];refine J3 dE ?_;simp only[go_sem,Ja,cz,Nd.cv,kbE];refine anO ?_;by_cases Eo:(nd t v).k=40
  ·simp only[Eo,go_sem,if_true];refine J3 (Jah g ht EB) ?_;simp only[go_sem]
  ·have b40:((nd t v).k == 40)=false:=beq_eq_false_iff_ne.2 Eo;obtain⟨a,b,ha,Su,Br,_⟩:=X7 g EB (Ce.resolve_left Eo);have AV:(nd t v).n=(a:Int):=ha;have Bh:=(JbR ht EB).kidn;have aM:b<(nd t v).kids.length:=Br;simp only[b40,go_sem,if_neg Eo];refine JP Jm vk ?_;simp only[go_sem,Ja,cz,Nd.cv,AV];refine⟨om,Jg,?_⟩;have ed:=Jdu g ht (j:=j) EB (show a+1<=100 by omega) false;rw[Int.natCast_add,show ((1:Nat):Int)=1 from rfl]at ed;refine J9 (.inl rfl) ed ?_;simp only[go_sem]
 have b42:((nd t d).k == 42)=false:=beq_eq_false_iff_ne.2 BZ;rw[if_neg BZ];simp only[b65,b64,b43,b47,b42,go_sem]
end
theorem twN_eq:twN t i=if (nd t i).k≠44/\KU (nd t i).k=false then false else(Ga i).any (twQ t i):=rfl
theorem nTwice(Ag:t.nodes.length<=100000)(hi:i<t.nodes.length):Fn Gb 83 [.rptr (tRw t),.int .i64 (i:Int)] (.bool (twN t i)):=by
 have hg:=JZ hi;refine Jc c83_ok rfl rfl λN=>?_
 rw[twN_eq];simp only[c83,go_sem];refine Je (id:=0) (z:=1) (els:=[[.rptr (tRw t)]]) rfl rfl ?_;simp only[go_sem,JM,KA,frz,Kn,Gf];refine Je (id:=1) (z:=1) (els:=[[.int .i64 (i:Int)]]) rfl rfl ?_;simp only[go_sem,JM,KA,frz,Kn,Gf];refine Jas [false,false,false,false,false,false,false,false,true,true] Jm vM ?_;simp only[go_sem];refine vh_all (.rptr (tRw t)) (λ_=>rfl) trivial ?_;by_cases BB:(nd t i).k=44
 ·rw[if_neg (λh=>h.1 BB)];simp only[go_sem,tRw,Ja,hg,Nd.cv,kbN,BB];refine anO ?_;refine Je (id:=2) (z:=5) (els:=[(nd t i).cv]) (by simp only[Nd.cv,BB];rfl) rfl ?_;simp only[go_sem,JM,KA,frz,Kn,Gf];refine JL (I:=λk:Nat=>k<=i/\(Ga i).any (twQ t i)=((Ga i).drop k).any (twQ t i)) (inv:=λk=>gp [(6,.fn 133 [] [.rptr [.rptr (tRw t)],.rptr (nd t i).cv,.rptr [.int .i64 (i:Int)]]),(19,.int .i64 (i:Int)),(0,.int .i64 (k:Int))] 6) (hp:=λ_=>[.dead,.dead,.dead]) (μ:=λk=>i-k) 0 ⟨om,rfl⟩ ?_ rfl ?_
  ·simp[forget,gp,tRw]
  ·rintro k ⟨hk,Aa⟩;by_cases Ab:k<i
   ·have d1:=dtT k i;rw[QB Ab,Gx]at Aa;simp only[go_sem,d1];refine vr_fv (.inl rfl) rfl c133_ok (Jcq pNames _) (nTwice1 hi om) ?_
    cases hb:twQ t i k with
    |true=>rw[hb,Gy]at Aa;simp only[go_sem,Aa]
    |false=>rw[hb,Gr]at Aa;simp only[go_sem];refine⟨Jg,k+1,⟨om,Aa⟩,om,?_⟩;simp[forget]
   ·have d1:=dfF k i;rw[show (Ga i).drop k=[] from Gs (by simp;omega),GD]at Aa;simp only[go_sem,d1,Aa]
 ·have b44:((nd t i).k == 44)=false:=beq_eq_false_iff_ne.2 BB;simp only[go_sem,tRw,Ja,hg,Nd.cv,kbN,b44,Gi];refine anO ?_;refine Je (id:=2) (z:=5) (els:=[(nd t i).cv]) rfl rfl ?_;simp only[go_sem,JM,KA,frz,Kn,Gf];refine Kk (gok rfl) (nIsDecl t hi) ?_
  cases hd:KU (nd t i).k with
  |false=>simp only[go_sem];rw[if_pos BB]
  |true=>
   rw[if_neg (show ¬((nd t i).k≠44/\true=false) from λh=>by cases h.2)];simp only[go_sem];refine JL (I:=λk:Nat=>k<=i/\(Ga i).any (twQ t i)=((Ga i).drop k).any (twQ t i)) (inv:=λk=>gp [(6,.fn 133 [] [.rptr [.rptr (tRw t)],.rptr (nd t i).cv,.rptr [.int .i64 (i:Int)]]),(19,.int .i64 (i:Int)),(0,.int .i64 (k:Int))] 6) (hp:=λ_=>[.dead,.dead,.dead]) (μ:=λk=>i-k) 0 ⟨om,rfl⟩ ?_ rfl ?_
   ·simp[forget,gp,tRw]
   ·rintro k ⟨hk,Aa⟩;by_cases Ab:k<i
    ·have d1:=dtT k i;rw[QB Ab,Gx]at Aa;simp only[go_sem,d1];refine vr_fv (.inl rfl) rfl c133_ok (Jcq pNames _) (nTwice1 hi om) ?_
     cases hb:twQ t i k with
     |true=>rw[hb,Gy]at Aa;simp only[go_sem,Aa]
     |false=>rw[hb,Gr]at Aa;simp only[go_sem];refine⟨Jg,k+1,⟨om,Aa⟩,om,?_⟩;simp[forget]
    ·have d1:=dfF k i;rw[show (Ga i).drop k=[] from Gs (by simp;omega),GD]at Aa;simp only[go_sem,d1,Aa]
theorem Jfs{j:Nat}(h:j<t.nodes.length):(Ql t).drop j=(j:Int)::(Ql t).drop (j+1):=by
 have hl:(Ql t).length=t.nodes.length:=by simp[Ql]
 rw[GM om];simp[Ql]
theorem JhQ{j:Nat}(h:t.nodes.length<=j):(Ql t).drop j=[]:=Gs (by simp[Ql];omega)
section
variable(g:GoodT t o)(ht:t.Fit)
include g ht
theorem refMeans3(hi:i<t.nodes.length)(hk:(nd t i).k=3):Fn Gb 58 [t.cv,.int .i64 (i:Int)] (.int .i64 (Jf4 t o i)):=by
 have Ag:=g.many;have hg:=JZ hi;unfold Jf4;refine Jc c58_ok rfl rfl λN=>?_
 simp only[c58,go_sem,Tr.cv,Tr.row,Ja,hg,Nd.cv];refine anO ?_;refine Je (id:=0) (z:=2) (els:=[t.row]) rfl rfl ?_;simp only[go_sem,JM,KA,frz,Kn];refine Je (id:=1) (z:=5) (els:=[(nd t i).cv]) rfl rfl ?_;simp only[go_sem,JM,KA,frz,Kn,Gf];generalize hq:(λd:Int=>(nd t d.toNat).text == (nd t i).text && (KU (nd t d.toNat).k && (!((nd t d.toNat).k == 65) && inB t o d.toNat i)))=q;refine Jr (I:=λj:Nat=>j<=t.nodes.length/\(Ql t).find? q=((Ql t).drop j).find? q) (inv:=λj=>gp [(1,.int .i64 (i:Int)),(0,.rptr t.row),(2,.rptr (nd t i).cv),(0,.int .i64 (j:Int))] 64) (hp:=λ_=>[.dead,.dead]) (μ:=λj=>t.nodes.length-j) 0 [0,1] ⟨om,by rw[Gf]⟩ rfl ?_ rfl ?_
 ·simp[forget,JG,ren,gp,Tr.row]
 ·rintro j ⟨hj,Aa⟩;by_cases Ab:j<t.nodes.length
  ·have d1:=dtT j t.nodes.length;have Bq:=JZ Ab;have BK:q (j:Int)=((nd t j).text == (nd t i).text && (KU (nd t j).k && (!((nd t j).k == 65) && inB t o j i))):=by rw[<-hq];simp only[Gl]
   rw[Jfs Ab,GH]at Aa
   cases Ci:((nd t j).text == (nd t i).text) with
   |false=>rw[BK,Ci,Gn]at Aa;simp only[go_sem,Tr.row,Ja,d1,Bq,Nd.cv,Ci,Gi];refine⟨om,Jg,j+1,[0,1],⟨om,by rw[Aa]⟩,om,rfl,rfl,?_⟩;simp[forget,JG,ren,Jk]
   |true=>
    rw[BK,Ci,Gj]at Aa;simp only[go_sem,Tr.row,Ja,d1,Bq,Nd.cv,Ci,Gh];refine anO ?_;refine Kk (gok rfl) (Ja3 _) ?_
    cases hd:KU (nd t j).k with
    |false=>rw[hd,Gn]at Aa;simp only[go_sem,Gi];refine⟨Jg,j+1,[0,1],⟨om,by rw[Aa]⟩,om,rfl,rfl,?_⟩;simp[forget,JG,ren,Jk]
    |true=>
     rw[hd,Gj]at Aa
     cases BA:((nd t j).k == 65) with
     |true=>rw[BA,Gh,Gn]at Aa;simp only[go_sem,kbE,kbN,hk,BA,Gh];refine⟨Jg,j+1,[0,1],⟨om,by rw[Aa]⟩,om,rfl,rfl,?_⟩;simp[forget,JG,ren,Jk]
     |false=>
      rw[BA,Gi,Gj]at Aa;simp only[go_sem,kbE,kbN,hk,BA,Gi,Gh];refine Kk (gok rfl) (refInSight g ht Ab hi) ?_
      cases AR:inB t o j i with
      |true=>rw[AR]at Aa;simp only[go_sem,Aa]
      |false=>rw[AR]at Aa;simp only[go_sem];refine⟨Jg,j+1,[0,1],⟨om,by rw[Aa]⟩,om,rfl,rfl,?_⟩;simp[forget,JG,ren,Jk]
  ·have d1:=dfF j t.nodes.length;rw[JhQ om,GI]at Aa;simp only[go_sem,Tr.row,Ja,d1,Aa]
omit ht in
theorem refMeans26(hi:i<t.nodes.length)(hk:(nd t i).k=26):Fn Gb 58 [t.cv,.int .i64 (i:Int)] (.int .i64 (Jdy t i)):=by
 have Ag:=g.many;have hg:=JZ hi;unfold Jdy;refine Jc c58_ok rfl rfl λN=>?_
 simp only[c58,go_sem,Tr.cv,Tr.row,Ja,hg,Nd.cv];refine anO ?_;refine Je (id:=0) (z:=2) (els:=[t.row]) rfl rfl ?_;simp only[go_sem,JM,KA,frz,Kn];refine Je (id:=1) (z:=5) (els:=[(nd t i).cv]) rfl rfl ?_;simp only[go_sem,JM,KA,frz,Kn,Gf];generalize hq:(λd:Int=>(nd t d.toNat).text == (nd t i).text && (KU (nd t d.toNat).k && (nd t d.toNat).k == 65))=q;refine Jr (I:=λj:Nat=>j<=t.nodes.length/\(Ql t).find? q=((Ql t).drop j).find? q) (inv:=λj=>gp [(1,.int .i64 (i:Int)),(0,.rptr t.row),(2,.rptr (nd t i).cv),(0,.int .i64 (j:Int))] 64) (hp:=λ_=>[.dead,.dead]) (μ:=λj=>t.nodes.length-j) 0 [0,1] ⟨om,by rw[Gf]⟩ rfl ?_ rfl ?_
 ·simp[forget,JG,ren,gp,Tr.row]
 ·rintro j ⟨hj,Aa⟩;by_cases Ab:j<t.nodes.length
  ·have d1:=dtT j t.nodes.length;have Bq:=JZ Ab;have BK:q (j:Int)=((nd t j).text == (nd t i).text && (KU (nd t j).k && (nd t j).k == 65)):=by rw[<-hq];simp only[Gl]
   rw[Jfs Ab,GH]at Aa
   cases Ci:((nd t j).text == (nd t i).text) with
   |false=>rw[BK,Ci,Gn]at Aa;simp only[go_sem,Tr.row,Ja,d1,Bq,Nd.cv,Ci,Gi];refine⟨om,Jg,j+1,[0,1],⟨om,by rw[Aa]⟩,om,rfl,rfl,?_⟩;simp[forget,JG,ren,Jk]
   |true=>
    rw[BK,Ci,Gj]at Aa;simp only[go_sem,Tr.row,Ja,d1,Bq,Nd.cv,Ci,Gh];refine anO ?_;refine Kk (gok rfl) (Ja3 _) ?_
    cases hd:KU (nd t j).k with
    |false=>rw[hd,Gn]at Aa;simp only[go_sem,Gi];refine⟨Jg,j+1,[0,1],⟨om,by rw[Aa]⟩,om,rfl,rfl,?_⟩;simp[forget,JG,ren,Jk]
    |true=>
     rw[hd,Gj]at Aa
     cases BA:((nd t j).k == 65) with
     |true=>rw[BA]at Aa;simp only[go_sem,kbE,hk,BA,Gh,Aa]
     |false=>rw[BA]at Aa;simp only[go_sem,kbE,hk,BA,Gh];refine⟨Jg,j+1,[0,1],⟨om,by rw[Aa]⟩,om,rfl,rfl,?_⟩;simp[forget,JG,ren,Jk]
  ·have d1:=dfF j t.nodes.length;rw[JhQ om,GI]at Aa;simp only[go_sem,Tr.row,Ja,d1,Aa]
theorem refMeans44(hi:i<t.nodes.length)(hk:(nd t i).k=44):Fn Gb 58 [t.cv,.int .i64 (i:Int)] (.int .i64 (Jct t i)):=by
 have Ag:=g.many;have hg:=JZ hi;unfold Jct;refine Jc c58_ok rfl rfl λN=>?_
 simp only[c58,go_sem,Tr.cv,Tr.row,Ja,hg,Nd.cv];refine anO ?_;refine Je (id:=0) (z:=2) (els:=[t.row]) rfl rfl ?_;simp only[go_sem,JM,KA,frz,Kn];refine Je (id:=1) (z:=5) (els:=[(nd t i).cv]) rfl rfl ?_;simp only[go_sem,JM,KA,frz,Kn,Gf];generalize hq:(λd:Int=>(nd t d.toNat).text == (nd t i).text && (KU (nd t d.toNat).k && ((nd t d.toNat).k == 43 && Kv t d.toNat == Kv t i)))=q;refine Jr (I:=λj:Nat=>j<=t.nodes.length/\(Ql t).find? q=((Ql t).drop j).find? q) (inv:=λj=>gp [(1,.int .i64 (i:Int)),(0,.rptr t.row),(2,.rptr (nd t i).cv),(0,.int .i64 (j:Int))] 64) (hp:=λ_=>[.dead,.dead]) (μ:=λj=>t.nodes.length-j) 0 [0,1] ⟨om,by rw[Gf]⟩ rfl ?_ rfl ?_
 ·simp[forget,JG,ren,gp,Tr.row]
 ·rintro j ⟨hj,Aa⟩;by_cases Ab:j<t.nodes.length
  ·have d1:=dtT j t.nodes.length;have Bq:=JZ Ab;have BK:q (j:Int)=((nd t j).text == (nd t i).text && (KU (nd t j).k && ((nd t j).k == 43 && Kv t j == Kv t i))):=by rw[<-hq];simp only[Gl]
   rw[Jfs Ab,GH]at Aa
   cases Ci:((nd t j).text == (nd t i).text) with
   |false=>rw[BK,Ci,Gn]at Aa;simp only[go_sem,Tr.row,Ja,d1,Bq,Nd.cv,Ci,Gi];refine⟨om,Jg,j+1,[0,1],⟨om,by rw[Aa]⟩,om,rfl,rfl,?_⟩;simp[forget,JG,ren,Jk]
   |true=>
    rw[BK,Ci,Gj]at Aa;simp only[go_sem,Tr.row,Ja,d1,Bq,Nd.cv,Ci,Gh];refine anO ?_;refine Kk (gok rfl) (Ja3 _) ?_
    cases hd:KU (nd t j).k with
    |false=>rw[hd,Gn]at Aa;simp only[go_sem,Gi];refine⟨Jg,j+1,[0,1],⟨om,by rw[Aa]⟩,om,rfl,rfl,?_⟩;simp[forget,JG,ren,Jk]
    |true=>
     rw[hd,Gj]at Aa;simp only[go_sem,kbE,hk,Gh];refine Je (id:=2) (z:=5) (els:=[(nd t j).cv]) rfl rfl ?_;simp only[go_sem,JM,KA,frz,Kn,Gf,Nd.cv];refine JP Jm vk ?_
     cases BR:((nd t j).k == 43) with
     |false=>rw[BR,Gn]at Aa;simp only[go_sem,kbE,BR];refine⟨Jg,j+1,[0,1],⟨om,by rw[Aa]⟩,om,rfl,rfl,?_⟩;simp[forget,JG,ren]
     |true=>
      rw[BR,Gj]at Aa;simp only[go_sem,kbE,BR];refine J9 (gok rfl) (Ja2 g ht Ab) ?_;simp only[go_sem];refine J9 (gok rfl) (Ja2 g ht hi) ?_
      cases CU:(Kv t j == Kv t i) with
      |true=>rw[CU]at Aa;simp only[go_sem,CU,Aa]
      |false=>rw[CU]at Aa;simp only[go_sem,CU];refine⟨Jg,j+1,[0,1],⟨om,by rw[Aa]⟩,om,rfl,rfl,?_⟩;simp[forget,JG,ren]
  ·have d1:=dfF j t.nodes.length;rw[JhQ om,GI]at Aa;simp only[go_sem,Tr.row,Ja,d1,Aa]
theorem refMeans(hi:i<t.nodes.length)(hs:KH t i=true):Fn Gb 58 [t.cv,.int .i64 (i:Int)] (.int .i64 (J2 t o i)):=by
 unfold J2;unfold KH at hs;simp only[Bool.or_eq_true,beq_iff_eq]at hs;by_cases h3:(nd t i).k=3
 ·rw[if_pos h3];exact refMeans3 g ht hi h3
 ·rw[if_neg h3];by_cases Db:(nd t i).k=26
  ·rw[if_pos Db];exact refMeans26 g hi Db
  ·rw[if_neg Db,iP7];exact refMeans44 g ht hi om
def twRq (t:Tr)(o:Lu)(i k:Nat):Bool:=(nd t k).text == (nd t i).text && (if (nd t i).k=65 then(nd t k).k == 65 else if (nd t i).k=44 then(nd t k).k == 44 && Kv t k == Kv t i else KU (nd t k).k && (!((nd t k).k == 65) && Y0 t o k == Y0 t o i))
omit g ht in
theorem twR_eq:twR t o i=if (nd t i).k≠44/\KU (nd t i).k=false then false else(Ga i).any (twRq t o i):=rfl
theorem refTwice(hi:i<t.nodes.length):Fn Gb 59 [t.cv,.int .i64 (i:Int)] (.bool (twR t o i)):=by
 have Ag:=g.many;have hg:=JZ hi;rw[twR_eq];refine Jc c59_ok rfl rfl λN=>?_
 simp only[c59,go_sem,Tr.cv,Tr.row,Ja,hg,Nd.cv];refine anO ?_;refine Je (id:=0) (z:=2) (els:=[t.row]) rfl rfl ?_;simp only[go_sem,JM,KA,frz,Kn];refine Je (id:=1) (z:=5) (els:=[(nd t i).cv]) rfl rfl ?_;simp only[go_sem,JM,KA,frz,Kn,Gf,Nd.cv];refine J3 (Ja3 _) ?_;by_cases BB:(nd t i).k=44
 ·have hd:KU (nd t i).k=false:=by rw[BB];rfl
  have b44:((nd t i).k == 44)=true:=beq_iff_eq.2 BB;have b65:((nd t i).k == 65)=false:=beq_eq_false_iff_ne.2 om;rw[if_neg (show ¬((nd t i).k≠44/\KU (nd t i).k=false) from λh=>h.1 BB),hd];simp only[go_sem,kbN,b44,Gi,Gh];generalize hq:twRq t o i=q;refine Jr (I:=λj:Nat=>j<=i/\(Ga i).any q=((Ga i).drop j).any q) (inv:=λj=>gp [(1,.int .i64 (i:Int)),(0,.rptr t.row),(2,.rptr (nd t i).cv),(0,.int .i64 (j:Int))] 71) (hp:=λ_=>[.dead,.dead]) (μ:=λj=>i-j) 0 [0,1] ⟨om,by rw[Gf]⟩ rfl ?_ rfl ?_
  ·simp[forget,JG,ren,gp,Tr.row,Nd.cv]
  ·rintro j ⟨hj,Aa⟩;by_cases Ab:j<i
   ·have MZ:j<t.nodes.length:=om
    have d1:=dtT j i;have Bq:=JZ MZ;have BK:q j=twRq t o i j:=by rw[hq]
    unfold twRq at BK;rw[QB Ab,Gx]at Aa
    cases Ci:((nd t j).text == (nd t i).text) with
    |false=>rw[BK,Ci,Gn,Gr]at Aa;simp only[go_sem,Tr.row,Ja,d1,Bq,Nd.cv,Ci,Gi];refine⟨om,Jg,j+1,[0,1],⟨om,Aa⟩,om,rfl,rfl,?_⟩;simp[forget,JG,ren,Jk]
    |true=>
     rw[Ci,Gj]at BK;simp only[go_sem,Tr.row,Ja,d1,Bq,Nd.cv,Ci,Gh,kbE,b65,b44];refine anO ?_;rw[iN7,if_pos BB]at BK;refine Je (id:=2) (z:=5) (els:=[(nd t j).cv]) rfl rfl ?_;simp only[go_sem,JM,KA,frz,Kn,Gf,Nd.cv];refine JP Jm vk ?_
     cases h:((nd t j).k == 44) with
     |false=>rw[BK,h,Gn,Gr]at Aa;simp only[go_sem,kbE,h];refine⟨Jg,j+1,[0,1],⟨om,Aa⟩,om,rfl,rfl,?_⟩;simp[forget,JG,ren]
     |true=>
      rw[h,Gj]at BK;simp only[go_sem,kbE,h];refine J9 (gok rfl) (Ja2 g ht MZ) ?_;simp only[go_sem];refine J9 (gok rfl) (Ja2 g ht hi) ?_
      cases CU:(Kv t j == Kv t i) with
      |true=>rw[BK,CU,Gy]at Aa;simp only[go_sem,CU,Aa]
      |false=>rw[BK,CU,Gr]at Aa;simp only[go_sem,CU];refine⟨Jg,j+1,[0,1],⟨om,Aa⟩,om,rfl,rfl,?_⟩;simp[forget,JG,ren]
   ·have d1:=dfF j i;rw[show (Ga i).drop j=[] from Gs (by simp;omega),GD]at Aa;simp only[go_sem,d1,Aa]
 ·have b44:((nd t i).k == 44)=false:=beq_eq_false_iff_ne.2 BB
  cases hd:KU (nd t i).k with
  |false=>rw[if_pos ⟨BB,rfl⟩];simp only[go_sem,kbN,b44,Gi]
  |true=>
   rw[if_neg (show ¬((nd t i).k≠44/\true=false) from λh=>by cases h.2)];simp only[go_sem,Gh];by_cases BA:(nd t i).k=65
   ·have b65:((nd t i).k == 65)=true:=beq_iff_eq.2 BA;generalize hq:twRq t o i=q;refine Jr (I:=λj:Nat=>j<=i/\(Ga i).any q=((Ga i).drop j).any q) (inv:=λj=>gp [(1,.int .i64 (i:Int)),(0,.rptr t.row),(2,.rptr (nd t i).cv),(0,.int .i64 (j:Int))] 71) (hp:=λ_=>[.dead,.dead]) (μ:=λj=>i-j) 0 [0,1] ⟨om,by rw[Gf]⟩ rfl ?_ rfl ?_
    ·simp[forget,JG,ren,gp,Tr.row,Nd.cv]
    ·rintro j ⟨hj,Aa⟩;by_cases Ab:j<i
     ·have MZ:j<t.nodes.length:=om
      have d1:=dtT j i;have Bq:=JZ MZ;have BK:q j=twRq t o i j:=by rw[hq]
      unfold twRq at BK;rw[QB Ab,Gx]at Aa
      cases Ci:((nd t j).text == (nd t i).text) with
      |false=>rw[BK,Ci,Gn,Gr]at Aa;simp only[go_sem,Tr.row,Ja,d1,Bq,Nd.cv,Ci,Gi];refine⟨om,Jg,j+1,[0,1],⟨om,Aa⟩,om,rfl,rfl,?_⟩;simp[forget,JG,ren,Jk]
      |true=>
       rw[Ci,Gj]at BK;simp only[go_sem,Tr.row,Ja,d1,Bq,Nd.cv,Ci,Gh,kbE,b65];refine anO ?_;rw[if_pos BA]at BK
       cases h:((nd t j).k == 65) with
       |true=>rw[BK,h,Gy]at Aa;simp only[go_sem,Aa]
       |false=>rw[BK,h,Gr]at Aa;simp only[go_sem];refine⟨Jg,j+1,[0,1],⟨om,Aa⟩,om,rfl,rfl,?_⟩;simp[forget,JG,ren,Jk]
     ·have d1:=dfF j i;rw[show (Ga i).drop j=[] from Gs (by simp;omega),GD]at Aa;simp only[go_sem,d1,Aa]
   ·have b65:((nd t i).k == 65)=false:=beq_eq_false_iff_ne.2 BA;generalize hq:twRq t o i=q;refine Jr (I:=λj:Nat=>j<=i/\(Ga i).any q=((Ga i).drop j).any q) (inv:=λj=>gp [(1,.int .i64 (i:Int)),(0,.rptr t.row),(2,.rptr (nd t i).cv),(0,.int .i64 (j:Int))] 71) (hp:=λ_=>[.dead,.dead]) (μ:=λj=>i-j) 0 [0,1] ⟨om,by rw[Gf]⟩ rfl ?_ rfl ?_
    ·simp[forget,JG,ren,gp,Tr.row,Nd.cv]
    ·rintro j ⟨hj,Aa⟩;by_cases Ab:j<i
     ·have MZ:j<t.nodes.length:=om
      have d1:=dtT j i;have Bq:=JZ MZ;have BK:q j=twRq t o i j:=by rw[hq]
      unfold twRq at BK;rw[QB Ab,Gx]at Aa
      cases Ci:((nd t j).text == (nd t i).text) with
      |false=>rw[BK,Ci,Gn,Gr]at Aa;simp only[go_sem,Tr.row,Ja,d1,Bq,Nd.cv,Ci,Gi];refine⟨om,Jg,j+1,[0,1],⟨om,Aa⟩,om,rfl,rfl,?_⟩;simp[forget,JG,ren,Jk]
      |true=>
       rw[Ci,Gj]at BK;simp only[go_sem,Tr.row,Ja,d1,Bq,Nd.cv,Ci,Gh,kbE,b65,b44];refine anO ?_;rw[if_neg BA,if_neg BB]at BK;refine Je (id:=2) (z:=5) (els:=[(nd t j).cv]) rfl rfl ?_;simp only[go_sem,JM,KA,frz,Kn,Gf,Nd.cv];refine JP Jm vk ?_;simp only[go_sem];refine J9 (.inl rfl) (Ja3 _) ?_
       cases aB:KU (nd t j).k with
       |false=>rw[BK,aB,Gn,Gr]at Aa;simp only[go_sem];refine⟨Jg,j+1,[0,1],⟨om,Aa⟩,om,rfl,rfl,?_⟩;simp[forget,JG,ren]
       |true=>
        rw[aB,Gj]at BK
        cases h:((nd t j).k == 65) with
        |true=>rw[BK,h,Gh,Gn,Gr]at Aa;simp only[go_sem,kbN,h,Gh];refine⟨Jg,j+1,[0,1],⟨om,Aa⟩,om,rfl,rfl,?_⟩;simp[forget,JG,ren]
        |false=>
         rw[h,Gi,Gj]at BK;simp only[go_sem,kbN,h,Gi];refine J9 (gok rfl) (refItemOf g ht MZ) ?_;simp only[go_sem];refine J9 (gok rfl) (refItemOf g ht hi) ?_
         cases CU:(Y0 t o j == Y0 t o i) with
         |true=>rw[BK,CU,Gy]at Aa;simp only[go_sem,CU,Aa]
         |false=>rw[BK,CU,Gr]at Aa;simp only[go_sem,CU];refine⟨Jg,j+1,[0,1],⟨om,Aa⟩,om,rfl,rfl,?_⟩;simp[forget,JG,ren]
     ·have d1:=dfF j i;rw[show (Ga i).drop j=[] from Gs (by simp;omega),GD]at Aa;simp only[go_sem,d1,Aa]
end
def RowC (z:Nat)(els:LM)(v:CV)(H':Lt):Prop:=RowR z els v H'\/∃id es,v=.slc id 0 els.length none/\H'[id]? = some (.arr z es)/\es.take els.length=els/\els≠[]
theorem fnRow_cut{args:Ls}(h:CallsC P Env.none f args [] (RowC z els))(ha:Jl args=true)(hc:Jq els=true):JdJ P f args z els:=
 Je1 (h.trunc (id:=0) (j:=0) (v:=.un) λv H' hv=>by
  rcases hv with hv|⟨id,es,rfl,h2,h3,h4⟩
  ·exact .inl hv
  ·exact .inr ⟨id,z,es,els.length,h2,.row (id:=id) (Y4 h4).symm (by rw[YF h4,h3,List.getElem?_set_self (List.getElem?_eq_some_iff.1 h2).1])⟩) ha hc
structure OfOk (t:Tr)(of:Lu):Prop where
 len:of.length=t.nodes.length
 rng:∀i,i<of.length->-1<=of.getD i 0/\of.getD i 0<t.nodes.length
theorem OfOk.dft{of:Lu}(h:OfOk t of)(hi:i<of.length):of.getD i (-1)=of.getD i 0:=by simp[Gm,Gp hi]
def rRw (t:Tr)(of:Lu):Ls:=[.rptr (tRw t),.rslc 1 (iz of) none]
section
variable(g:GoodT t o)(ht:t.Fit)
include g ht
theorem nNeeds {of:Lu}(ho:OfOk t of){s:Nat}(hs:s<t.nodes.length)(hk:(nd t s).k=41):JdJ Gb 136 [.agg (rRw t of),.int .i64 (s:Int)] 1 (iz (XI t o of s)):=by
 have Ag:=g.many;have Ba:(iz of).length=t.nodes.length:=by rw[Jf,ho.len]
 rw[<-need_done g];refine fnRow_cut (Ke c136_ok λN=>?_) rfl (Jh _);simp only[c136,go_sem,rRw,Ba];refine Je (id:=0) (z:=2) (els:=[rRw t of]) rfl rfl ?_;simp only[go_sem,JM,KA,frz,Kn,Gf];refine YD ?_;simp only[go_sem,G7,GA];refine Jr (I:=λi:Nat=>i<=t.nodes.length) (inv:=λi=>gp [(1,.int .i64 (s:Int)),(0,.rptr (rRw t of)),(1,Qq 1 (iz (XJ t o of s (Ga i)))),(4,.rslc 1 (iz of) none),(0,.int .i64 (t.nodes.length:Int)),(0,.int .i64 (i:Int))] 70) (hp:=λi=>[.dead,Xj 1 (iz (XJ t o of s (Ga i)))]) (μ:=λi=>t.nodes.length-i) 0 [0,1] om rfl ?_ rfl ?_
 ·simp[forget,JG,ren,gp,rRw,Qq,iz,XJ]
 ·intro i hi;by_cases Ab:i<t.nodes.length
  ·have d1:=dtT i t.nodes.length;have Ay:=JF (l:=of) (i:=i) (by rw[ho.len];exact Ab);have UZ:=ho.rng i (by rw[ho.len];exact Ab);have Al:XJ t o of s (Ga (i+1))=XJ t o of s (Ga i)++XJ t o of s [i]:=by rw[Hf,needC_app]
   have Aw:=JeQ (t:=t) (o:=o) (of:=of) (s:=s) (Ga i);rw[He]at Aw;have aA:=ho.dft (i:=i) (by rw[ho.len];exact Ab);have h1:XJ t o of s [i]=if (decide (0<=of.getD i 0) && ((nd t (of.getD i 0).toNat).k == 42 && ((nd t i).k == 3 && (JbS o i s && (Kv t (Kv t (of.getD i 0).toNat).toNat == Kv t s && !buL t (upL t (Ji t s) t.nodes.length i) false)))))=true then [Kv t (of.getD i 0).toNat] else []:=by rw[XJ,aA];rfl
   generalize XJ t o of s (Ga i)=acc at Al Aw|-;generalize of.getD i 0=m at Ay UZ h1;rcases Lc m 0 with RF|RF
   ·obtain rfl:m = -1:=om
    have e1:((-1:Int) == -1)=true:=vk
    have AX:XJ t o of s [i]=[]:=by rw[h1,if_neg sM]
    simp only[go_sem,d1,Ba,Ay,e1];refine anO ?_;refine⟨Jg,i+1,[0,1],om,om,rfl,?_,?_⟩
    ·rw[Al,AX,Gq];simp only[KD,Gc,Gd,go_sem,Qv (Jb (Jh acc)),Jn]
    ·rw[Al,AX,Gq];simp[forget,JG,ren,Jk,QK,rRw]
   obtain⟨m,rfl⟩:∃m':Nat,m=m':=⟨m.toNat,om⟩;have FU:m<t.nodes.length:=om
   have e1:((m:Int) == -1)=false:=beq_eq_false_iff_ne.2 om;rw[decide_eq_true RF,Gj,Gl]at h1;simp only[go_sem,d1,Ba,Ay,e1,rRw];refine anO ?_;refine Kk (gok rfl) (nKind t FU) ?_
   cases IA:(nd t m).k == 42 with
   |false=>
    have AX:XJ t o of s [i]=[]:=by rw[h1,IA,if_neg sM]
    simp only[go_sem,kbN,IA,Gi];refine⟨Jg,i+1,[0,1],om,om,rfl,?_,?_⟩
    ·rw[Al,AX,Gq];simp only[KD,Gc,Gd,go_sem,Qv (Jb (Jh acc)),Jn]
    ·rw[Al,AX,Gq];simp[forget,JG,ren,Jk,QK]
   |true=>
    rw[IA,Gj]at h1;simp only[go_sem,kbN,IA,Gh];refine Kk (gok rfl) (nKind t Ab) ?_
    cases F9:(nd t i).k == 3 with
    |false=>
     have AX:XJ t o of s [i]=[]:=by rw[h1,F9,if_neg sM]
     simp only[go_sem,kbN,F9,Gi];refine⟨Jg,i+1,[0,1],om,om,rfl,?_,?_⟩
     ·rw[Al,AX,Gq];simp only[KD,Gc,Gd,go_sem,Qv (Jb (Jh acc)),Jn]
     ·rw[Al,AX,Gq];simp[forget,JG,ren,Jk,QK]
    |true=>
     rw[F9,Gj]at h1;simp only[go_sem,kbN,F9,Gh];refine Kk (gok rfl) (nBelow g Ab hs) ?_
     cases hb:JbS o i s with
     |false=>
      have AX:XJ t o of s [i]=[]:=by rw[h1,hb,if_neg sM]
      simp only[go_sem,Gi];refine⟨Jg,i+1,[0,1],om,om,rfl,?_,?_⟩
      ·rw[Al,AX,Gq];simp only[KD,Gc,Gd,go_sem,Qv (Jb (Jh acc)),Jn]
      ·rw[Al,AX,Gq];simp[forget,JG,ren,Jk,QK]
     |true=>
      rw[hb,Gj]at h1;have BZ:(nd t m).k=42:=beq_iff_eq.1 IA;have h3:(nd t i).k=3:=beq_iff_eq.1 F9;obtain⟨v,MK,EB,_,_⟩:=QO g FU om;have hL:=nLate g ht hs hk ((JdO g hs hk om).1 (QZ.1 hb));rw[MK,Gl]at h1;simp only[go_sem,Gh,tRw,QI,upz FU,MK];refine anO ?_;refine JP Jm vk ?_
      cases CU:(Kv t v == Kv t s) with
      |false=>
       have AX:XJ t o of s [i]=[]:=by rw[h1,CU,if_neg sM]
       simp only[go_sem,QI,upz EB,upz hs,CU];refine⟨om,om,?_⟩;refine⟨Jg,i+1,[0,1],om,om,rfl,?_,?_⟩
       ·rw[Al,AX,Gq];simp only[KD,Gc,Gd,go_sem,Qv (Jb (Jh acc)),Jn]
       ·rw[Al,AX,Gq];simp[forget,JG,ren,Jk,QK]
      |true=>
       rw[CU,Gj]at h1;simp only[go_sem,QI,upz EB,upz hs,CU];refine⟨om,om,?_⟩;refine J9 (gok rfl) hL ?_
       cases hl:buL t (upL t (Ji t s) t.nodes.length i) false with
       |true=>
        have AX:XJ t o of s [i]=[]:=by rw[h1,hl,if_neg sM]
        simp only[go_sem,Gh];refine⟨Jg,i+1,[0,1],om,om,rfl,?_,?_⟩
        ·rw[Al,AX,Gq];simp only[KD,Gc,Gd,go_sem,Qv (Jb (Jh acc)),Jn]
        ·rw[Al,AX,Gq];simp[forget,JG,ren,Jk,QK]
       |false=>
        have Bi:XJ t o of s [i]=[(v:Int)]:=by rw[h1,hl,if_pos sM]
        simp only[go_sem,Gi,Jf,JA];refine⟨⟨om,om⟩,Jg,i+1,[0,3],om,om,rfl,?_,?_⟩
        ·rw[Al,Bi,Qo,KL];simp only[KD,Gc,Gd,go_sem,Jo,Jn];simp[Jb (Jh acc),JG,ren]
        ·rw[Al,Bi,Qo,KJ];simp[forget,JG,ren,Jk,Jf]
  ·have d1:=dfF i t.nodes.length;obtain rfl:i=t.nodes.length:=om
   have Aw:=JeQ (t:=t) (o:=o) (of:=of) (s:=s) (Ga t.nodes.length);rw[He]at Aw;generalize XJ t o of s (Ga t.nodes.length)=acc at Aw|-
   cases acc with
   |nil=>simp only[go_sem,d1,Xm,X5];refine J3 sortNil ?_;simp only[go_sem];refine J3 compactNil ?_;simp only[go_sem];rw[show Lib.compact (([]:Lu).mergeSort λx y=>decide (x<=y))=[] by rw[Hy];rfl];exact .inl .nil
   |cons x xs=>
    simp only[go_sem,d1,Kt,YE,Ja0,Jf];refine Kq (.inl rfl) (sortRow (l:=x::xs) sM om rfl) λv H' ⟨h1,h2⟩=>?_
    subst h1 h2;simp only[go_sem];have CG:((x::xs).mergeSort λx y=>decide (x<=y)).length=xs.length+1:=by rw[Hd];rfl
    generalize ((x::xs).mergeSort λx y=>decide (x<=y))=S at CG|-;have dA:S≠[]:=by rintro rfl;simp at CG
    rw[<-CG];refine Kq (.inl rfl) (compactRow (l:=S) dA (by simp only[Gg]at Aw;omega) rfl) λv H' ⟨h1,h2⟩=>?_
    subst h1 h2;simp only[go_sem];have Pw:Lib.compact S≠[]:=by obtain⟨y,hy⟩:=List.exists_mem_of_ne_nil _ dA;exact List.ne_nil_of_mem (Jfe.2 hy)
    refine .inr ⟨1,_,by rw[Jf],rfl,?_,by simpa [iz]using Pw⟩;rw[K5,List.take_left' rfl]
end
def nz (l:Lx):Lu:=l.map λx:Nat=>(x:Int)
theorem nz_len {l:Lx}:(nz l).length=l.length:=by simp[nz]
theorem nz_cons {x:Nat}{l:Lx}:nz (x::l)=(x:Int)::nz l:=rfl
theorem nz_get {l:Lx}(h:i<l.length):(nz l).getD i 0=(l.getD i 0:Nat):=by simp[nz,Gm,Gp h]
theorem nzz_get {l:Lx}(h:i<l.length):(iz (nz l)).getD i []=[.int .i64 (l.getD i 0:Nat)]:=by rw[JF (by rw[nz_len];exact h),nz_get h]
theorem Xu {l:Lx}:(iz (nz l)).length=l.length:=by rw[Jf,nz_len]
section
variable(g:GoodT t o)(ht:t.Fit)
include g ht
theorem refWay{top:Nat}(Bu:top<t.nodes.length)(Fz:blw o a0 top):Fn Gb 186 [t.cv,.int .i64 (top:Int),.int .i64 (a0:Int)] (.rslc 1 (iz (nz (upL t top t.nodes.length a0).reverse)) none):=by
 have Ag:=g.many;have Ua:=up_len g (f:=t.nodes.length) Bu Fz om;have Al:=way_start (t:=t) (top:=top) (f:=t.nodes.length) (a:=a0);generalize hR:(upL t top t.nodes.length a0).reverse=R at Al|-;have Sy:R.length<=t.nodes.length:=by rw[<-hR,Hw];omega
 refine Jal ?_ rfl rfl;refine Ke c186_ok λN=>?_
 simp only[c186,go_sem,Tr.cv,Tr.row];refine Je (id:=0) (z:=2) (els:=[t.row]) rfl rfl ?_;simp only[go_sem,JM,KA,frz,Kn,Gc,Gd];refine Jr (σ:=Nat×Nat×Lx×Option Nat) (I:=λs=>blw o s.2.1 top/\t.nodes.length<=s.2.1+s.1/\R=(upL t top s.1 s.2.1).tail.reverse++s.2.2.1/\s.2.2.1≠[]) (inv:=λs=>gp [(1,.int .i64 (top:Int)),(0,.int .i64 (s.2.1:Int)),(0,.rptr t.row),(3,.slc 1 0 s.2.2.1.length s.2.2.2)] 13) (hp:=λs=>[.dead,.arr 1 (iz (nz s.2.2.1))]) (μ:=λs=>t.nodes.length-s.2.1) (t.nodes.length,a0,[a0],some 1) [0,1] ⟨Fz,by simp only;omega,Al,sM⟩ rfl ?_ ?_ ?_
 ·simp[forget,JG,ren,Jk,gp,Tr.row]
 ·simp[KD,JG,ren,Xk,iz,nz]
 ·rintro⟨f,a,w,cap⟩ ⟨hb,hf,hw,Ai⟩
  dsimp only at hb hf hw Ai
  have ha:a<t.nodes.length:=by have:=hb.1;omega
  by_cases he:a=top
  ·subst he;rw[way_end,List.reverse_nil,GA]at hw;have e1:((a:Int) != (a:Int))=false:=sM
   simp only[go_sem,e1];refine .step 1 1 (iz (nz w)) rfl (Jh _) (.done ?_);have hx:G8 w.length (iz (nz w))=iz (nz w):=Gu (by rw[Xu];omega);simp only[frz,if_true,GN,Xu,GQ,Gf,hx];rw[hw];exact wk.refl _
  ·have e1:((a:Int) != (top:Int))=true:=bne_iff_ne.2 om;obtain⟨m,f',h1,h2,h3,h4,h5,h6⟩:=way_step g Bu hb hf he;rw[h6]at hw;have eQ:w.length+1<=R.length:=by rw[hw,Gv,Gg];omega
   have hP:=Ja2 g ht ha;rw[h1]at hP;obtain⟨y,ys,rfl⟩:=List.exists_cons_of_ne_nil Ai;simp only[Gg]at eQ;have BV:G8 (ys.length+1) (([CV.int .i64 (y:Int)])::iz (nz ys))=[CV.int .i64 (y:Int)]::iz (nz ys):=Gu (by simp[Xu]);simp only[go_sem,e1,Tr.row];refine J3 hP ?_;simp only[go_sem,nz_cons,Kt,Gg,BV,Xu,JA,Gf];refine⟨⟨om,om,om⟩,(f',m,m::y::ys,none),[0,3],⟨h4,h5,hw,sM⟩,by simp only;omega,rfl,?_,?_⟩
   ·have Aw:=Jb (ρ:=[0,3]) (Jh (nz ys));simp[KD,JG,ren,Xk,nz_cons,Kt,Aw]
   ·simp[forget,JG,ren,Jk];omega
theorem refLate{s:Nat}(hs:s<t.nodes.length)(hk:(nd t s).k=41)(Fz:blw o a0 (Ji t s)):Fn Gb 153 [t.cv,.int .i64 (a0:Int),.int .i64 (s:Int)] (.bool (tdL t (upL t (Ji t s) t.nodes.length a0).reverse false)):=by
 have Ag:=g.many;have P9:=set_kid g hs hk;have DF:Ji t s<t.nodes.length:=by have:=(JX g hs P9.1).2;omega
 have Ua:=up_len g (f:=t.nodes.length) DF Fz om;have hW:=refWay g ht DF Fz;have Mf:=up_rng g t.nodes.length a0 (Ji t s) DF Fz;have Fq:=up_kids g t.nodes.length a0 (Ji t s) DF Fz;have bS:∀i,i+1<(upL t (Ji t s) t.nodes.length a0).reverse.length->((((upL t (Ji t s) t.nodes.length a0).reverse.getD (i+1) 0:Nat):Int)∈(nd t ((upL t (Ji t s) t.nodes.length a0).reverse.getD i 0)).kids/\(upL t (Ji t s) t.nodes.length a0).reverse.getD i 0<t.nodes.length):=λi hi=>pairs_rev Fq hi
 have MP:∀x∈(upL t (Ji t s) t.nodes.length a0).reverse,x<t.nodes.length:=λx hx=>Mf x (List.mem_reverse.1 hx)
 have Sy:(upL t (Ji t s) t.nodes.length a0).reverse.length<=t.nodes.length:=by rw[Hw];omega
 generalize (upL t (Ji t s) t.nodes.length a0).reverse=R at hW bS MP Sy|-;refine Jc c153_ok rfl rfl λN=>?_
 simp only[c153,go_sem,Tr.cv,Tr.row];refine Je (id:=0) (z:=2) (els:=[t.row]) rfl rfl ?_;simp only[go_sem,JM,KA,frz,Kn,Gc,Gd];refine JP Jm vk ?_;simp only[go_sem,Tr.row];refine J9 (.inl rfl) (Yk g ht hs P9.2) ?_;simp only[go_sem];refine J9 (.inl rfl) hW ?_;simp only[go_sem];generalize hD:tdL t R false=D;refine Jr (I:=λi:Nat=>i<=R.length/\D=tdL t (R.drop i) false) (inv:=λi=>gp [(3,.rptr t.row),(3,.rslc 1 (iz (nz R)) none),(0,.int .i64 (i:Int))] 54) (hp:=λ_=>[.dead]) (μ:=λi=>R.length-i) 0 [0] ⟨om,by rw[Gf,hD]⟩ rfl ?_ rfl ?_
 ·simp[forget,JG,ren,gp,Tr.row]
 ·rintro i ⟨hi,Aa⟩;by_cases Ab:i+1<R.length
  ·have d1:((i:Int)+1<(R.length:Int))=True:=J5;rw[tdL_drop Ab]at Aa;obtain⟨hc,hu⟩:=bS i Ab;have FZ:=nzz_get (l:=R) (i:=i) om;have M8:=nzz_get Ab;have Pw:R.getD (i+1) 0<t.nodes.length:=MP _ (by rw[Gm,Gp Ab];exact Gw Ab);generalize R.getD i 0=u at Aa hc hu FZ;generalize R.getD (i+1) 0=c at Aa hc M8 Pw;have OT:=JZ hu;have D5:=JZ Pw;have MX:=Ha hc;have IW:((i:Int)+1).toNat=i+1:=om
   simp only[go_sem,Xu,d1];refine⟨Jg,?_⟩;refine Jas [false,false,false,false,false,false,false,false,true,true] Jm vM ?_;by_cases h4:(nd t u).k=4
   ·have Fa:JhS t u c=some true:=by unfold JhS;rw[if_pos h4]
    rw[Fa]at Aa;simp only[go_sem,Tr.row,Ja,Xu,FZ,OT,Nd.cv,kbE,h4];exact⟨om,om,by rw[Aa]⟩
   have b4:((nd t u).k == 4)=false:=beq_eq_false_iff_ne.2 h4;by_cases bH:(nd t u).k=46
   ·have Fa:JhS t u c=some (c == Ji t u):=by unfold JhS;rw[if_neg h4,if_pos (.inl bH)]
    have b46:((nd t u).k == 46)=true:=beq_iff_eq.2 bH;rw[Fa]at Aa;simp only[go_sem,Tr.row,Ja,Xu,FZ,OT,Nd.cv,kbE,b4,b46];refine⟨om,om,?_⟩;refine JP Jm vk ?_;simp only[go_sem,Xu,IW,FZ,M8];refine⟨Jg,om,om,?_⟩;refine J9 (.inl rfl) (Yk g ht hu MX) ?_;have en:=JdE (Ji t u) c;simp only[go_sem,en,Aa]
   have b46:((nd t u).k == 46)=false:=beq_eq_false_iff_ne.2 bH;by_cases CE:(nd t u).k=47
   ·have Fa:JhS t u c=some (c == Ji t u):=by unfold JhS;rw[if_neg h4,if_pos (.inr CE)]
    have b47:((nd t u).k == 47)=true:=beq_iff_eq.2 CE;rw[Fa]at Aa;simp only[go_sem,Tr.row,Ja,Xu,FZ,OT,Nd.cv,kbE,b4,b46,b47];refine⟨om,om,?_⟩;refine JP Jm vk ?_;simp only[go_sem,Xu,IW,FZ,M8];refine⟨Jg,om,om,?_⟩;refine J9 (.inl rfl) (Yk g ht hu MX) ?_;have en:=JdE (Ji t u) c;simp only[go_sem,en,Aa]
   have b47:((nd t u).k == 47)=false:=beq_eq_false_iff_ne.2 CE;by_cases Eb:(nd t u).k=28
   ·have b28:((nd t u).k == 28)=true:=beq_iff_eq.2 Eb;simp only[go_sem,Tr.row,Ja,Xu,FZ,OT,Nd.cv,kbE,b4,b46,b47,b28];refine⟨om,om,?_⟩;refine JP Jm vk ?_;by_cases BR:(nd t c).k=43
    ·have Fa:JhS t u c=none:=by unfold JhS;rw[if_neg h4,iN7,if_pos Eb,if_pos BR]
     have b43:((nd t c).k == 43)=true:=beq_iff_eq.2 BR;rw[Fa]at Aa;simp only[go_sem,Xu,IW,M8,Ja,D5,Nd.cv,kbN,b43,Gh];refine⟨Jg,om,om,Jg,i+1,[0],⟨om,Aa⟩,om,rfl,rfl,?_⟩;simp[forget,JG,ren,Jk]
    ·have Fa:JhS t u c=some false:=by unfold JhS;rw[if_neg h4,iN7,if_pos Eb,if_neg BR]
     have b43:((nd t c).k == 43)=false:=beq_eq_false_iff_ne.2 BR;rw[Fa]at Aa;simp only[go_sem,Xu,IW,M8,Ja,D5,Nd.cv,kbN,b43,Gi];exact⟨Jg,om,om,by rw[Aa]⟩
   have b28:((nd t u).k == 28)=false:=beq_eq_false_iff_ne.2 Eb;have Fa:JhS t u c=none:=by unfold JhS;rw[if_neg h4,iN7,if_neg Eb]
   rw[Fa]at Aa;simp only[go_sem,Tr.row,Ja,Xu,FZ,OT,Nd.cv,kbE,b4,b46,b47,b28];refine⟨om,om,Jg,i+1,[0],⟨om,Aa⟩,om,rfl,rfl,?_⟩;simp[forget,JG,ren,Jk]
  ·have d1:((i:Int)+1<(R.length:Int))=False:=J7;rw[tdL_end om]at Aa;simp only[go_sem,Xu,d1,Aa];exact Jg
end
theorem indexO{id:Nat}(hl:l.length<=1000000)(hH:H[id]? = some (.arr 1 (iz l))):CallsC Gb E 135 [.slc id 0 l.length none,.int .i64 x] H λv H'=>v=.int .i64 (XT (λy=>x == y) l 0)/\H'=H:=by
 have Af:(iz l).length=l.length:=Jf;refine Ke c135_ok λN=>?_
 simp only[c135,go_sem];refine JL (I:=λi:Nat=>i<=l.length/\XT (λy=>x == y) l 0=XT (λy=>x == y) (l.drop i) i) (inv:=λi=>gp [(0,.slc id 0 l.length none),(0,.int .i64 x),(5,.int .i64 (l.length:Int)),(0,.int .i64 (i:Int))] 10) (hp:=λ_=>H) (μ:=λi=>l.length-i) 0 ⟨om,rfl⟩ ?_ rfl ?_
 ·simp[forget,gp]
 ·rintro i ⟨hi,Aa⟩;by_cases Ab:i<l.length
  ·have d1:=dtT i l.length;have Ay:=JF Ab;have BS:l[i]? = some (l.getD i 0):=by rw[Gm,Gp Ab];rfl
   rw[Xn BS]at Aa;simp only[go_sem,d1,hH,Af,Ay];generalize l.getD i 0=y at Aa Ay|-;refine⟨om,om,?_⟩
   cases he:(x == y) with
   |true=>rw[he,if_pos rfl]at Aa;simp only[go_sem,Aa]
   |false=>rw[he]at Aa;simp only[go_sem];refine⟨Jg,i+1,⟨om,by simpa using Aa⟩,om,?_⟩;simp[forget]
  ·have d1:=dfF i l.length;rw[Gs om]at Aa;simp only[go_sem,d1,Aa,XT]
theorem containsO{id:Nat}(hl:l.length<=100000)(hH:H[id]? = some (Xj 1 (iz l))):CallsC Gb E 85 [Qq id (iz l),.int .i64 x] H λv H'=>v=.bool (l.contains x)/\H'=H:=by
 cases l with
 |nil=>exact(containsI [] x sM).args (args':=[.nils,.int .i64 x]) ⟨wk.nils,wk.refl _,trivial⟩ E H
 |cons y l=>
  rw[Kt,Ja0,<-Kt]at hH;have hc:=indexO (E:=E) (x:=x) (l:=y::l) om hH;rw[show Qq id (iz (y::l))=.slc id 0 (y::l).length none by rw[Kt,YE,Jf];rfl];generalize y::l=L at *;refine Ke c85_ok λN=>?_
  simp only[c85,go_sem];refine Kq (.inl rfl) hc λv H' ⟨h1,h2⟩=>?_
  subst h1 h2;have e:decide (0<=XT (λy=>x == y) L 0)=L.contains x:=by rw[JaD,Ht]
  simp only[go_sem,e]
theorem Jhn:(iz l).drop n=iz (l.drop n):=by simp[iz]
def todoV (els:Lu)(off:Nat):CV:=match els with
 |[]=>.nils
 |_::_=>.slc 2 off (els.length-off) none
theorem JfG {els:Lu}:todoV els 0=Qq 2 (iz els):=by cases els <;> simp[todoV,iz,Qq]
theorem JgO {els:Lu}{off:Nat}(h:els≠[]):todoV els off=.slc 2 off (els.length-off) none:=by cases els <;> simp_all [todoV]
theorem Jcw:∀{l out:Lu},YT l out<=l.length
 |[],_=>GQ _
 |y::l,out=>by
  have:=Jcw (l:=l) (out:=out);simp only[YT,Gg]
  split <;> omega
theorem needN_ok{of:Lu}:∀x∈Ql t,(∀y∈XI t o of x.toNat,y∈Ql t)/\(XI t o of x.toNat).length<=(Ql t).length:=λx _=>⟨λy hy=>(GX.1 hy).1,Gz _ _⟩
section
variable(g:GoodT t o)(ht:t.Fit)
include g ht
theorem nAll {of:Lu}(ho:OfOk t of){s:Nat}(hs:s<t.nodes.length)(hk:(nd t s).k=41):JdJ Gb 86 [.agg (rRw t of),.int .i64 (s:Int)] 1 (iz (bfs (λx=>XI t o of x.toNat) (Ql t) (XI t o of s) [])):=by
 have Ag:=g.many;have Am:(Ql t).length=t.nodes.length:=by simp[Ql]
 refine Je1 (Ke c86_ok λN=>?_) rfl (Jh _);simp only[c86,go_sem,rRw];refine Je (id:=0) (z:=2) (els:=[rRw t of]) rfl rfl ?_;simp only[go_sem,JM,KA,frz,Kn,Gf];refine YD ?_;simp only[go_sem,G7,GA];refine JfD (.inl rfl) (nNeeds g ht ho hs hk) ?_;simp only[go_sem];have BG:∀s':Nat,∀x∈XI t o of s',0<=x/\x<t.nodes.length/\(nd t x.toNat).k=41:=λs' x hx=>JdW g hx
 generalize hN:(λx:Int=>XI t o of x.toNat)=Nf;have Fe:∀x∈Ql t,(∀y∈Nf x,y∈Ql t)/\(Nf x).length<=(Ql t).length:=by rw[<-hN];exact needN_ok
 have Ik:∀x,∀y∈Nf x,0<=y/\y<t.nodes.length/\(nd t y.toNat).k=41:=λx y hy=>by rw[<-hN]at hy;exact BG _ y hy
 have h0:=BG s;have Iz:(XI t o of s).length<=t.nodes.length:=by rw[<-Am];exact Gz _ _
 generalize XI t o of s=T0 at h0 Iz|-;generalize hR:bfs Nf (Ql t) T0 []=R;have Al:YT (Ql t) []*((Ql t).length+1)<=700*701:=Lf (GK Jcw om) om;refine Jr (σ:=Lu×Nat×Lu) (I:=λs'=>s'.2.1<=s'.1.length/\(∀x∈s'.1,0<=x/\x<t.nodes.length/\(nd t x.toNat).k=41)/\bfs Nf (Ql t) (s'.1.drop s'.2.1) s'.2.2=R/\muB (Ql t) (s'.1.drop s'.2.1) s'.2.2<=1000000/\s'.2.2.length+YT (Ql t) s'.2.2<=700)
  (inv:=λs'=>gp [(2,.rptr (rRw t of)),(1,Qq 1 (iz s'.2.2)),(0,todoV s'.1 s'.2.1)] 26) (hp:=λs'=>[.dead,Xj 1 (iz s'.2.2),Xj 1 (iz s'.1)]) (μ:=λs'=>muB (Ql t) (s'.1.drop s'.2.1) s'.2.2) (T0,0,[]) [0,1,2] ⟨sM,h0,by simpa using hR,by simp only[Gf,muB];omega,by have:=Jcw (l:=Ql t) (out:=[]);simp only[Gt];omega⟩ rfl ?_ ?_ ?_
 ·simp[forget,JG,ren,Jk,gp,rRw,JfG,QK,X5,Xm]
 ·simp only[KD,Gc,Gd,go_sem,Qv (Jb (Jh T0)),Jn,Xm,Jau]
 ·rintro⟨els,off,out⟩ ⟨Mj,hP,hB,Mo,AZ⟩
  dsimp only at Mj hP hB Mo AZ
  by_cases Ai:els=[]
  ·subst Ai;rw[List.drop_nil,bfs_nil]at hB;have d1:((0:Int) > 0)=False:=J7;have d2:((0:Int)<0)=False:=J7;simp only[go_sem,todoV,d1];rw[<-hB];exact .row (id:=1) rfl rfl
  ·have U1:Xj 1 (iz els)=.arr 1 (iz els):=YF (by simpa [iz]using Ai);have EG:(iz els).length=els.length:=Jf;rw[U1,JgO Ai];by_cases Ab:off<els.length
   ·have d1:((0:Int)<((els.length-off:Nat):Int))=True:=J5;have d2:(((els.length-off:Nat):Int) > 0)=True:=J5;have Ay:=JF Ab;have F5:els.drop off=els.getD off 0::els.drop (off+1):=by rw[GM Ab,Gm,Gp Ab];rfl
    have AO:els.getD off 0∈els:=by rw[Gm,Gp Ab];exact Gw Ab
    have SA:=hP _ AO;have Aj:∀y∈els.drop off,y∈Ql t:=λy hy=>by have:=hP y (G5 hy);exact KO.2 ⟨this.1,this.2.1⟩
    rw[F5]at hB Aj Mo|-;have OH:=Mo;simp only[muB,Gg]at OH;generalize hx:els.getD off 0=x at Ay SA hB Aj Mo|-;have bX:(((els.length-off:Nat):Int)).toNat-(1:Int).toNat=els.length-(off+1):=om
    simp only[go_sem,d1,EG,Ay,Hl];refine⟨om,⟨om,GJ _⟩,?_⟩;have PM:x∈Ql t:=Aj x sM;have Ba:out.length<=700:=om
    refine Kq (.inl rfl) (containsO (id:=1) (l:=out) (x:=x) om rfl) λv H' ⟨h1,h2⟩=>?_
    subst h1 h2
    cases hc:out.contains x with
    |true=>
     rw[bfs_old Fe Aj hc]at hB;simp only[go_sem,Gh];refine⟨(els,off+1,out),[0,1,2],⟨by simp only;omega,hP,hB,by simp only[muB];omega,AZ⟩,by simp only[muB,Gg];omega,rfl,?_,?_⟩
     ·simp only[KD,Gc,Gd,go_sem,Qv (Jb (Jh out)),Jo,Jb (Jh els),Jn,U1]
     ·simp[forget,JG,ren,Jk,QK,rRw,JgO Ai];omega
    |false=>
     rw[bfs_new Fe Aj hc]at hB;have Cx:=Jak PM hc;have Z5:=Ld ((Ql t).length+1) (show YT (Ql t) (out++[x])+1<=YT (Ql t) out from Cx);rw[Ho,Hm]at Z5;have Dl:=(Fe x PM).2;obtain⟨xn,rfl⟩:∃x':Nat,x=x':=⟨x.toNat,om⟩;have F6:=SA.2.2;rw[Gl]at F6;have aX:XI t o of xn=Nf (xn:Int):=by rw[<-hN];simp only[Gl]
     have PX:=Ik (xn:Int);have SB:=(nNeeds g ht ho (show xn<t.nodes.length by omega) F6).fn rfl (Jh _);rw[aX]at SB;simp only[go_sem,Gi,Jf,JA,rRw];refine⟨⟨om,om⟩,?_⟩;refine J3 SB ?_;generalize Nf (xn:Int)=M at Dl PX hB|-;have OY:off+1+(els.length-off-1)=els.length:=om
     have OX:(off+1+(els.length-off-1)=els.length)=True:=eq_true OY;have hd:=HZ (i:=off+1) (l:=els)
     cases M with
     |nil=>
      simp only[go_sem,Xm];rw[Gq]at hB;refine⟨(els,off+1,out++[(xn:Int)]),[0,4,2],⟨by simp only;omega,hP,hB,by simp only[muB];omega,by simp only[Gv,Gg,Gt];omega⟩,by simp only[muB,Gg];omega,rfl,?_,?_⟩
      ·rw[U1,Qo,KL];simp only[KD,Gc,Gd,go_sem,Jo,Jb (Jh els),Jn];simp[Jb (Jh out),JG,ren]
      ·rw[JgO Ai,Qo,KJ];simp[forget,JG,ren,Jk,Jf];omega
     |cons y ys=>
      simp only[go_sem,Kt,EG,OX,Jf,JA];simp only[Gg]at Dl;refine⟨⟨om,om⟩,(els.drop (off+1)++y::ys,0,out++[(xn:Int)]),[0,4,5],⟨sM,λz hz=>?_,by simpa using hB,by simp only[Gf,muB,Gv,Gg];omega,by simp only[Gv,Gg,Gt];omega⟩,by simp only[Gf,muB,Gv,Gg];omega,rfl,?_,?_⟩
      ·rcases Hg.1 hz with h|h
       ·exact hP z (G5 h)
       ·exact PX z h
      ·rw[Qo,KL,K5,Kt,KL,<-Jhn];simp only[KD,Gc,Gd,go_sem,Jo,Jn];rw[Jhn];simp[Jb (Jh out),Jb (Jh (els.drop (off+1))),Jb (Jh ys),JG,ren]
      ·rw[JfG,Qo,KJ,K5,Kt,KJ];simp[forget,JG,ren,Jk,Jf];omega
   ·obtain rfl:off=els.length:=om
    rw[H6,bfs_nil]at hB;have d1:((0:Int)<((els.length-els.length:Nat):Int))=False:=J7;have d2:(((els.length-els.length:Nat):Int) > 0)=False:=J7;simp only[go_sem,d1];rw[<-hB];exact .row (id:=1) rfl rfl
end
def q2Ok (l:LB)(es:List Lx)(bs bs2:LH)(i j:Nat)(p q:Lx):Bool:=
 (!(i == j) && decide (i<es.length) && decide (j<es.length)) && (Jdv l.length p q &&
 ((l.length == bs.length && (JaG l.length (Jao es j i) (clo (Jao es j i)) && Qe l (clo (Jao es j i)) (bs.map QX))) &&
 ((prl p l).length == bs2.length && (JaG (prl p l).length (pre p q (Jao es i j)) (clo (pre p q (Jao es i j))) && Qe (prl p l) (clo (pre p q (Jao es i j))) (bs2.map QX)))))
theorem vr_dregQ{N:Fr}{k:LJ}{l:LB}{es:List Lx}(i j:Nat)(p q:Lx)(bs bs2:LH)(T':Ls)(H':Lt)(hm:P.follows .mixedOrders=true)(AJ:q2Ok l es bs bs2 i j p q=true)
  (h1:vdk P E (leads P E n0 N Q T' H') l bs T H) (h2:vdk P E (leads P E n0 N Q T' H') (prl p l) bs2 T H) (Az:Ky P E n0 N Q k T' H'):Ok P E n0 N Q (.code (.dreg l es)::k) T H:=by
 unfold q2Ok at AJ;obtain⟨g0,r1⟩:=G9.1 AJ;obtain⟨g1,r2⟩:=G9.1 r1;obtain⟨g2,g3⟩:=G9.1 r2;exact JgA hm (JcF i j g0 (Yc bs T' H' g2 (JC _ _ _ Az) h1) (JcE p q g1 (Yc bs2 T' H' g3 (JC _ _ _ Az) h2)))
theorem nOpenE (t:Tr)(ht:t.Fit)(h:chk t≠0):Fn Gb 81 [t.cv] (.tup [.nilp,.int .i64 (chk t)]):=by
 have e:(chk t != 0)=true:=by simpa using h
 refine Jc c81_ok rfl rfl λN=>?_
 simp only[c81,go_sem,Tr.cv,Tr.row];refine J3 (JfW t ht) ?_;simp only[go_sem,e]
theorem iz_set{v:Int}:(iz l).set i [.int .i64 v]=iz (l.set i v):=by simp[iz,La]
def oT (t:Tr):Ls:=[.rslc 5 (ndz t.nodes) none,.rslc 1 (iz t.items) none,.slc 1 0 t.nodes.length none,.slc 2 0 t.nodes.length (some t.nodes.length)]
section
variable(g:GoodT t o)(ht:t.Fit)
include g ht
theorem nOpen:Fn Gb 81 [t.cv] (.tup [.rptr (tRw t),.int .i64 0]):=by
 have Ag:=g.many;have aa:=g.items;have hc:chk t=0:=(Jd7 t).2 ⟨o,g⟩;have e:(chk t != 0)=false:=by simp[hc]
 refine Jal ?_ rfl rfl;refine Ke c81_ok λN=>?_
 simp only[c81,go_sem,Tr.cv,Tr.row];refine Je (id:=0) (z:=2) (els:=[t.row]) rfl rfl ?_;simp only[go_sem,JM,KA,frz,Kn,Tr.row];refine J3 (JfW t ht) ?_;simp only[go_sem,e];have hz:GY t.nodes.length [CV.int .i64 0]=iz (X9 t 0):=by rw[itemTo_zero];simp[iz]
 have hR:=repeatO (-1) t.nodes.length om;rw[<-upTo_zero g]at hR;have ZA:=Jb (ρ:=[0,2,1,3]) (Jh (X9 t 0));have gI:=Jb (ρ:=[0,2,1,3]) (Jh (upTo t 0));refine vr_dregQ 5 9 [0,1,2,3,4,6,7,8,9,5,10,11,12] [0,1,2,3,4,9,5,6,7,8,10,11,12] [false,false,false,false,false,true,false,false,false,true,false,true,false] [false,false,false,false,false,false,false,false,true,true,false,true,false] (gp [(1,.rptr t.row),(3,.ptr 3 0 0)] 71) [.dead,.arr 1 (iz (upTo t 0)),.arr 1 (iz (X9 t 0)),.arr 4 [oT t]] Jm vM ?_ ?_ ?_
 ·simp only[go_sem,Tr.row];refine⟨_,_,hs_row (iz [-1]) rfl rfl rfl rfl,?_⟩;simp only[go_sem,Ja];refine⟨_,_,JeV (.inl rfl) (hR _ _),?_⟩;simp only[go_sem,Ja,hz];exact⟨⟨om,GJ _,om,om⟩,Jp (by simp[forget])⟩
 ·simp only[prl,Q4,Gg,Gt,Gc,Gd,List.getD_cons_zero,List.getD_cons_succ,go_sem,Tr.row];refine⟨_,_,hs_row (iz [-1]) rfl rfl rfl rfl,?_⟩;simp only[go_sem,Ja,hz];refine⟨⟨om,GJ _,om,om⟩,?_⟩;refine⟨_,_,JeV (.inl rfl) (hR _ _),?_⟩;simp only[go_sem];refine Jhl [0,2,1,3] rfl (by simp[forget,JG,ren,Jk]) ?_;simp only[KD,Gc,Gd,go_sem,Jo,Jn,ZA,gI];simp[JG,ren,Jk,oT]
 ·simp only[gp,GY];simp only[go_sem,Tr.row,Ja];refine Jr (I:=λi:Nat=>i<=t.nodes.length) (inv:=λi=>gp [(1,.rptr t.row),(3,.ptr 3 0 0),(24,.rslc 5 (ndz t.nodes) none),(0,.int .i64 (t.nodes.length:Int)),(0,.int .i64 (i:Int))] 44) (hp:=λi=>[.dead,.arr 1 (iz (upTo t i)),.arr 1 (iz (X9 t 0)),.arr 4 [oT t]]) (μ:=λi=>t.nodes.length-i) 0 [0,1,2,3] om rfl ?_ ?_ ?_
  ·simp[forget,JG,ren,Jk,gp,Tr.row]
  ·simp only[KD,Gc,Gd,go_sem,Jo,Jn,Jb (Jh _)];simp[JG,ren,Jk,oT]
  ·intro i hi;by_cases Ab:i<t.nodes.length
   ·have d1:=dtT i t.nodes.length;have hg:=JZ Ab;have Aq:(iz (nd t i).kids).length=(nd t i).kids.length:=Jf;have Bh:=(JbR ht Ab).kidn;have fo:=upTo_succ g Ab;simp only[go_sem,d1,Ja,hg,Nd.cv,Aq];refine anO ?_;refine Je (id:=4) (z:=5) (els:=[(nd t i).cv]) rfl rfl ?_;simp only[go_sem,JM,KA,frz,Kn,oT,Gf,JI (Jh _),Gc,Gd];refine JL (I:=λk:Nat=>k<=(nd t i).kids.length) (inv:=λk=>gp [(1,.rptr t.row),(3,.ptr 3 0 0),(0,.int .i64 (i:Int)),(23,.rslc 5 (ndz t.nodes) none),(0,.int .i64 (t.nodes.length:Int)),(0,.int .i64 (i:Int)),(5,.rslc 1 (iz (nd t i).kids) none),(0,.int .i64 ((nd t i).kids.length:Int)),(0,.int .i64 (k:Int))] 36) (hp:=λk=>[.dead,.arr 1 (iz (Xz i (upTo t i) ((nd t i).kids.take k))),.arr 1 (iz (X9 t 0)),.arr 4 [oT t],.dead]) (μ:=λk=>(nd t i).kids.length-k) 0 om ?_ rfl ?_
    ·simp[forget,gp,Tr.row]
    ·intro k hk;by_cases Dc:k<(nd t i).kids.length
     ·have d2:=dtT k (nd t i).kids.length;have Dz:=JF Dc;have AO:(nd t i).kids.getD k 0∈(nd t i).kids:=by rw[Gm,Gp Dc];exact Gw Dc
      have hr:=g.kid Ab AO;have BD:Xz (i:Int) (upTo t i) ((nd t i).kids.take (k+1))=(Xz (i:Int) (upTo t i) ((nd t i).kids.take k)).set ((nd t i).kids.getD k 0).toNat i:=by rw[GZ Dc,JbW,Gm,Gp Dc];rfl
      have CG:(Xz (i:Int) (upTo t i) ((nd t i).kids.take k)).length=t.nodes.length:=by rw[Jbt,YW]
      generalize (nd t i).kids.getD k 0=c at Dz hr BD;obtain⟨c,rfl⟩:∃c':Nat,c=c':=⟨c.toNat,om⟩;rw[Gl]at BD;generalize Xz (i:Int) (upTo t i) ((nd t i).kids.take k)=r at BD CG|-;have Pi:(iz r).length=t.nodes.length:=by rw[Jf,CG]
      have Pq:=JF (l:=r) (i:=c) om;simp only[go_sem,d2,Aq,Dz,oT,Pi,Pq,Gg,Gt,GR,Gf,iz_set];refine⟨om,om,om,Jg,k+1,om,om,?_,?_⟩
      ·rw[BD]
      ·simp[forget,Tr.row]
     ·have d2:=dfF k (nd t i).kids.length;rw[Gu om,<-fo];simp only[go_sem,d2];refine⟨Jg,i+1,[0,1,2,3],om,om,rfl,?_,?_⟩
      ·simp only[KD,Gc,Gd,go_sem,Jo,Jn,Jb (Jh _)];simp[JG,ren,Jk,oT]
      ·simp[forget,JG,ren,Jk,Tr.row]
   ·have d1:=dfF i t.nodes.length;obtain rfl:i=t.nodes.length:=om
    rw[upTo_all g];simp only[go_sem,d1,Tr.row,Ja];refine Jr (I:=λi:Nat=>i<=t.nodes.length/\(i=0\/i<=t.nodes.length)/\QR t i<=t.items.length) (inv:=λi=>gp [(1,.rptr t.row),(3,.ptr 3 0 0),(4,.int .i64 (QR t i:Int)),(44,.int .i64 (t.nodes.length:Int)),(0,.int .i64 (i:Int))] 20) (hp:=λi=>[.dead,.arr 1 (iz (upT t)),.arr 1 (iz (X9 t i)),.arr 4 [oT t]]) (μ:=λi=>t.nodes.length-i) 0 [0,1,2,3] ⟨om,.inl rfl,by rw[Jga g];omega⟩ rfl ?_ ?_ ?_
    ·simp[forget,JG,ren,Jk,gp,Tr.row,Jga g]
    ·simp only[KD,Gc,Gd,go_sem,Jo,Jn,Jb (Jh _)];simp[JG,ren,Jk,oT]
    ·rintro i ⟨hi,_,AR⟩;by_cases Ab:i<t.nodes.length
     ·have d1:=dtT i t.nodes.length;obtain⟨L,h1,h2,h3,h4,h5⟩:=itemN_step g Ab;have Ov:=itemTo_succ Ab;have Pi:(iz (X9 t i)).length=t.nodes.length:=by rw[Jf,Jf9 om]
      have Pq:=JF (l:=X9 t i) (i:=i) (by rw[Jf9 om];exact Ab);have Ay:=JF (l:=t.items) h1;rw[h2]at Ay;have Af:(iz t.items).length=t.items.length:=Jf;by_cases he:i=L
      ·have e1:((i:Int) == (L:Int))=true:=by simp[he]
       rw[if_pos he]at h5;simp only[go_sem,d1,Tr.row,oT,Pi,Pq,Af,Ay,e1,Gg,Gt,GR,Gf,iz_set];refine⟨om,om,om,Jg,Jg,i+1,[0,1,2,3],⟨om,.inr om,om⟩,om,rfl,?_,?_⟩
       ·rw[<-Ov];simp only[KD,Gc,Gd,go_sem,Jo,Jn,Jb (Jh _)];simp[JG,ren,Jk]
       ·rw[h5];simp[forget,JG,ren,Jk]
      ·have e1:((i:Int) == (L:Int))=false:=beq_eq_false_iff_ne.2 om;rw[if_neg he]at h5;simp only[go_sem,d1,Tr.row,oT,Pi,Pq,Af,Ay,e1,Gg,Gt,GR,Gf,iz_set];refine⟨om,om,om,Jg,i+1,[0,1,2,3],⟨om,.inr om,om⟩,om,rfl,?_,?_⟩
       ·rw[<-Ov];simp only[KD,Gc,Gd,go_sem,Jo,Jn,Jb (Jh _)];simp[JG,ren,Jk]
       ·rw[h5];simp[forget,JG,ren,Jk]
     ·have d1:=dfF i t.nodes.length;obtain rfl:i=t.nodes.length:=om
      rw[itemTo_all];simp only[go_sem,d1];refine .step 1 1 (iz (upT t)) rfl (Jh _) (.step 2 1 (iz (JdG t)) ?_ (Jh _) (.step 3 4 [tRw t] ?_ rfl (.done ?_)))
      ·simp only[KA,Kn,JM,frz,oT,Gc,Gd,GV,GU,List.getElem?_cons_succ,List.getElem?_cons_zero,JI (Jh _)]
      ·have q1:(iz (upT t)).take t.nodes.length=iz (upT t):=Gu (by rw[Jf,Jee];omega);have q2:(iz (JdG t)).take t.nodes.length=iz (JdG t):=Gu (by rw[Jf,Jcy];omega);simp[KA,Kn,JM,frz,oT,tRw,Jf,Jee,Jcy,q1,q2]
      ·simp[frz,JM];exact wk.refl _
end
theorem JhA(h:∀x∈l,0<=x/\x<n) : -1<=(match l.find? q with|some d=>d|none=>-1)/\(match l.find? q with|some d=>d|none=>-1)<(n:Int):=by
 cases hf:l.find? q with
 |none=>simp;omega
 |some d=>have:=h d (List.mem_of_find?_eq_some hf);simp only;omega
theorem Jhi : -1<=J2 t o i/\J2 t o i<t.nodes.length:=by
 unfold J2 Jf4 Jdy Jct;have h:∀x∈Ql t,0<=x/\x<(t.nodes.length:Int):=λx hx=>KO.1 hx
 split
 ·exact JhA h
 ·split
  ·exact JhA h
  ·split
   ·exact JhA h
   ·omega
theorem QL:(ofL t o).length=t.nodes.length:=by simp[ofL]
theorem JeO(h:i<t.nodes.length):(ofL t o).getD i 0=J2 t o i:=by simp[ofL,Gm,h]
theorem ofL_take(h:i<t.nodes.length):(ofL t o).take (i+1)=(ofL t o).take i++[J2 t o i]:=by rw[GZ (by rw[QL];exact h)];simp[ofL]
theorem ofL_ok:OfOk t (ofL t o):=⟨QL,λi hi=>by rw[QL]at hi;rw[JeO hi];exact Jhi⟩
def resV (t:Tr)(o:Lu):CV:=match JaO t o 6 10 (Ga t.nodes.length) with
 |some r=>.tup [.agg [.rptr (tRw t),.rslc 1 (iz ((ofL t o).take r.1)) none],.int .i64 (r.1:Int),.int .i64 r.2]
 |none=>match (Ga t.nodes.length).find? (stN t o) with
  |some i=>.tup [.agg (rRw t (ofL t o)),.int .i64 (i:Int),.int .i64 9]
  |none=>.tup [.agg (rRw t (ofL t o)),.int .i64 0,.int .i64 0]
theorem resV_closed:(resV t o).closed=true:=by
 unfold resV
 split
 ·rfl
 ·split <;> rfl
theorem frzs_row{id:Nat}{x:CV}{ys:Ls}(hx:x.closed=true)(hy:Jl ys=true)(h:H[id]? = some (Xj 1 (iz l))):Frzs (.tup (.agg [x,.rslc 1 (iz l) none]::ys)) (.tup (.agg [x,Qq id (iz l)]::ys)) H:=by
 cases l with
 |nil=>exact .done (Jac ⟨Jdm ⟨wk.refl _,wk.nils,trivial⟩,wks.refl _⟩)
 |cons a l=>
  refine .step id 1 (iz (a::l)) h (Jh _) (.done ?_);have e:frz id 1 (iz (a::l)) (Qq id (iz (a::l)))=.rslc 1 (iz (a::l)) none:=by rw[Kt,YE];simp[frz]
  simp only[frz,JM,e,XZ x hx,QP ys hy];exact wk.refl _
theorem bfs_len {N:Int->Lu}(hN:∀x∈l,∀y∈N x,y∈l):∀(f:Nat) (todo out:Lu),(∀x∈todo,x∈l)->(bfsF N f todo out).length<=out.length+YT l out
 |0,_,out,_=>Le _ _
 |f+1,[],out,_=>Le _ _
 |f+1,x::todo,out,h=>by
  rw[bfsF]
  cases hc:out.contains x with
  |true=>rw[if_pos rfl];exact bfs_len hN f todo out λy hy=>h y (by simp[hy])
  |false=>
   rw[if_neg sM];have hx:=h x sM;have h1:=bfs_len hN f (todo++N x) (out++[x]) λy hy=>by
    rcases Hg.1 hy with h2|h2
    ·exact h y (by simp[h2])
    ·exact hN x hx y h2
   have h2:=Jak hx hc;simp only[Gv,Gg,Gt]at h1;omega
theorem nResolveE0 (t:Tr)(ht:t.Fit)(h:chk t≠0):Fn Gb 51 [t.cv] (.tup [.agg [.nilp,.nils],.int .i64 0,.int .i64 (chk t)]):=by
 have e:(chk t != 0)=true:=by simpa using h
 refine Jc c51_ok rfl rfl λN=>?_
 simp only[c51,go_sem,Tr.cv,Tr.row];refine J3 (nOpenE t ht h) ?_;simp only[go_sem,e]
section
variable(g:GoodT t o)(ht:t.Fit)
include g ht
theorem nResolve0:Fn Gb 51 [t.cv] (resV t o):=by
 have Ag:=g.many;refine Jal ?_ rfl resV_closed;refine Ke c51_ok λN=>?_
 simp only[c51,go_sem,Tr.cv,Tr.row];refine Je (id:=0) (z:=2) (els:=[t.row]) rfl rfl ?_;simp only[go_sem,JM,KA,frz,Kn,Tr.row];refine J3 (nOpen g ht) ?_;simp only[go_sem,tRw,Ja];refine YD ?_;simp only[go_sem,G7,GA];refine Jr (I:=λi:Nat=>i<=t.nodes.length/\JaO t o 6 10 (Ga t.nodes.length)=JaO t o 6 10 ((Ga t.nodes.length).drop i)) (inv:=λi=>gp [(2,.ptr 1 0 0),(2,.rptr (tRw t)),(20,.int .i64 (t.nodes.length:Int)),(0,.int .i64 (i:Int))] 53) (hp:=λi=>[.dead,.arr 2 [[.rptr (tRw t),Qq 2 (iz ((ofL t o).take i))]],Xj 1 (iz ((ofL t o).take i))]) (μ:=λi=>t.nodes.length-i) 0 [0,1,2] ⟨om,by rw[Gf]⟩ rfl ?_ ?_ ?_
 ·simp[forget,JG,ren,Jk,gp,tRw]
 ·simp[KD,JG,ren,Xk,Qq,Xj,iz,tRw]
 ·rintro i ⟨hi,Aa⟩;have BP:((ofL t o).take i).length=i:=by rw[G6,QL];omega
  by_cases Ab:i<t.nodes.length
  ·have d1:=dtT i t.nodes.length;have FP:=ofL_take (o:=o) Ab;rw[QB Ab,JaO]at Aa;have Cr:∀a:Int,JaO t o 6 10 (Ga t.nodes.length)=some (i,a)->resV t o=.tup [.agg [.rptr (tRw t),.rslc 1 (iz ((ofL t o).take i)) none],.int .i64 (i:Int),.int .i64 a]:=λa h=>by unfold resV;rw[h]
   generalize (ofL t o).take i=acc at BP FP Cr|-;simp only[go_sem,d1];refine J3 (nMeaning g ht Ab) ?_;simp only[go_sem];refine J3 (nTwice om Ab) ?_
   cases ED:twN t i with
   |true=>rw[ED,if_pos rfl]at Aa;rw[Cr 6 Aa];simp only[go_sem];exact frzs_row rfl rfl rfl
   |false=>
    rw[ED]at Aa
    cases FK:KH t i with
    |false=>
     rw[if_neg sM,if_neg (by rw[FK];simp)]at Aa;simp only[go_sem,Jf,JA];refine⟨⟨om,om⟩,Jg,i+1,[0,1,4],⟨om,Aa⟩,om,rfl,?_,?_⟩
     ·rw[FP,Qo,KL,KJ];simp only[KD,Gc,Gd,go_sem,Jo,Jn];simp[Jb (Jh acc),JG,ren,Jk,Jf]
     ·simp[forget,JG,ren,Jk]
    |true=>
     cases Uk:(J2 t o i == -1) with
     |true=>rw[if_neg sM,if_pos (by rw[FK,Uk];rfl)]at Aa;rw[Cr 10 Aa];simp only[go_sem,Uk];exact frzs_row rfl rfl rfl
     |false=>
      rw[if_neg sM,if_neg (by rw[FK,Uk];simp)]at Aa;simp only[go_sem,Uk,Jf,JA];refine⟨⟨om,om⟩,Jg,i+1,[0,1,4],⟨om,Aa⟩,om,rfl,?_,?_⟩
      ·rw[FP,Qo,KL,KJ];simp only[KD,Gc,Gd,go_sem,Jo,Jn];simp[Jb (Jh acc),JG,ren,Jk,Jf]
      ·simp[forget,JG,ren,Jk]
  ·have d1:=dfF i t.nodes.length;obtain rfl:i=t.nodes.length:=om
   rw[show (Ga t.nodes.length).drop t.nodes.length=[] from Gs sM,JaO]at Aa;have Cr:resV t o=match (Ga t.nodes.length).find? (stN t o) with|some i=>.tup [.agg (rRw t (ofL t o)),.int .i64 (i:Int),.int .i64 9]|none=>.tup [.agg (rRw t (ofL t o)),.int .i64 0,.int .i64 0]:=by unfold resV;rw[Aa]
   rw[Cr,Gu (by rw[QL];omega)];by_cases h0:t.nodes.length=0
   ·have CK:ofL t o=[]:=List.length_eq_zero_iff.1 (by rw[QL];exact h0);have d2:((0:Int)<(t.nodes.length:Int))=False:=J7;have MR:Ga t.nodes.length=[]:=by rw[h0];rfl
    rw[CK,Xm,X5,Jau,MR,GI];simp only[go_sem,d1,tRw,Ja];refine JL (σ:=Unit) (I:=λ_=>True) (inv:=λ_=>gp [(2,.ptr 1 0 0),(2,.rptr (tRw t)),(56,.int .i64 (t.nodes.length:Int)),(0,.int .i64 0)] 17) (hp:=λ_=>[.dead,.arr 2 [[.rptr (tRw t),.nils]],.dead]) (μ:=λ_=>0) () trivial ?_ rfl ?_
    ·simp[forget,gp,tRw]
    ·intro _ _;simp only[go_sem,d2];exact .done (Jac ⟨Jdm ⟨wk.refl _,wk.nils,trivial⟩,wks.refl _⟩)
   ·have Rs:iz (ofL t o)≠[]:=by intro e;have:=congrArg Lb e;rw[Jf,QL]at this;exact h0 (by simpa using this)
    have Bj:=QL (t:=t) (o:=o);rw[Y4 Rs,YF Rs,Jf,Bj];simp only[go_sem,d1,tRw,Ja];refine Je (id:=2) (z:=1) (els:=iz (ofL t o)) rfl (Jh _) ?_;have EY:G8 t.nodes.length (iz (ofL t o))=iz (ofL t o):=Gu (by rw[Jf,Bj];omega);simp only[go_sem,JM,KA,frz,Kn,Gc,Gd,Gf,GN,if_true,Jf,Bj,GQ,EY,GV,GU];refine Jr (I:=λi:Nat=>i<=t.nodes.length/\(Ga t.nodes.length).find? (stN t o)=((Ga t.nodes.length).drop i).find? (stN t o)) (inv:=λi=>gp [(2,.ptr 1 0 0),(2,.rptr (tRw t)),(56,.int .i64 (t.nodes.length:Int)),(0,.int .i64 (i:Int))] 17) (hp:=λ_=>[.dead,.arr 2 [rRw t (ofL t o)],.dead]) (μ:=λi=>t.nodes.length-i) 0 [0,1,2] ⟨om,by rw[Gf]⟩ rfl ?_ ?_ ?_
    ·simp[forget,JG,ren,Jk,gp,tRw]
    ·simp[KD,JG,ren,Xk,rRw,tRw]
    ·rintro i ⟨hi,Aa⟩;by_cases Ab:i<t.nodes.length
     ·have d1:=dtT i t.nodes.length;rw[QB Ab,GH]at Aa;simp only[go_sem,d1];refine J3 (nKind t Ab) ?_
      cases hk:((nd t i).k == 41) with
      |false=>
       have Al:stN t o i=false:=by unfold stN;rw[hk];rfl
       rw[Al]at Aa;simp only[go_sem,kbE,hk];refine⟨Jg,i+1,[0,1,2],⟨om,Aa⟩,om,rfl,?_,?_⟩
       ·simp[KD,JG,ren,Xk,rRw]
       ·simp[forget,JG,ren,Jk]
      |true=>
       have Al:stN t o i=(bfs (λx=>XI t o (ofL t o) x.toNat) (Ql t) (XI t o (ofL t o) i) []).contains (i:Int):=by unfold stN;rw[hk,Gj]
       have hA:=(nAll g ht (ofL_ok (o:=o)) Ab (beq_iff_eq.1 hk)).fn rfl (Jh _);have Br:(bfs (λx=>XI t o (ofL t o) x.toNat) (Ql t) (XI t o (ofL t o) i) []).length<=100000:=by
        have h1:=bfs_len (N:=λx=>XI t o (ofL t o) x.toNat) (l:=Ql t) (λx hx=>(needN_ok x hx).1) (muB (Ql t) (XI t o (ofL t o) i) []+1) (XI t o (ofL t o) i) [] (λx hx=>(GX.1 hx).1);have h2:=Jcw (l:=Ql t) (out:=[]);have h3:(Ql t).length=t.nodes.length:=by simp[Ql]
        simp only[Gt]at h1;show (bfsF _ _ _ _).length<=_;omega
       generalize bfs (λx=>XI t o (ofL t o) x.toNat) (Ql t) (XI t o (ofL t o) i) []=B at Al hA Br;simp only[go_sem,kbE,hk,rRw];refine Kk (gok rfl) hA ?_;simp only[go_sem];refine Kk (gok rfl) (containsI B (i:Int) Br) ?_
       cases hc:B.contains (i:Int) with
       |false=>
        rw[Al,hc]at Aa;simp only[go_sem];refine⟨Jg,i+1,[0,1,2],⟨om,Aa⟩,om,rfl,?_,?_⟩
        ·simp[KD,JG,ren,Xk]
        ·simp[forget,JG,ren,Jk]
       |true=>rw[Al,hc]at Aa;rw[Aa];simp only[go_sem];exact .done (wk.refl _)
     ·have d1:=dfF i t.nodes.length;rw[show (Ga t.nodes.length).drop i=[] from Gs (by simp;omega),GI]at Aa;rw[Aa];simp only[go_sem,d1,rRw];exact .done (wk.refl _)
theorem nResolve:Fn Gb 29 [t.cv] (if (YP t o).2=0 then .tup [.agg [.rslc 1 (iz (ofL t o)) none],.int .i64 0,.int .i64 0] else .tup [.agg [.nils],.int .i64 ((YP t o).1:Int),.int .i64 (YP t o).2]):=by
 have hV:=nResolve0 g ht;refine Jc c29_ok rfl (by split <;> rfl) λN=>?_
 simp only[c29,go_sem,Tr.cv,Tr.row];refine J3 hV ?_;unfold YP resV
 cases hs:JaO t o 6 10 (Ga t.nodes.length) with
 |some r=>
  have hr:∀l:Lx,JaO t o 6 10 l=some r->r.2=6\/r.2=10:=by
   intro l
   induction l with
   |nil=>intro h;cases h
   |cons x l ih=>
    intro h;rw[JaO]at h
    split at h
    ·cases h;exact .inl rfl
    ·split at h
     ·cases h;exact .inr rfl
     ·exact ih h
  have h2:=hr _ hs;have e1:(r.2 != 0)=true:=bne_iff_ne.2 om;simp only;rw[iN7];simp only[go_sem,e1]
 |none=>
  simp only
  cases hf:(Ga t.nodes.length).find? (stN t o) with
  |some i=>simp only;rw[if_neg vk];simp only[go_sem,rRw]
  |none=>simp only[if_true];simp only[go_sem,rRw]
end
theorem nResolveE (t:Tr)(ht:t.Fit)(h:chk t≠0):Fn Gb 29 [t.cv] (.tup [.agg [.nils],.int .i64 0,.int .i64 (chk t)]):=by
 have e:(chk t != 0)=true:=by simpa using h
 refine Jc c29_ok rfl rfl λN=>?_
 simp only[c29,go_sem,Tr.cv,Tr.row];refine J3 (nResolveE0 t ht h) ?_;simp only[go_sem,e]
section
variable(g:GoodT t o)(ht:t.Fit)
include g ht
end
theorem vr_pc{N:Fr}{k:LJ}{d:Option Nat}{g:Option (Nat×Bool)}{xa:LK}{l:LB}{v:CV}(hg:GOk T g)(Ah:Pure P E f (xa.map (Kb T)) H v)(h:Ky P E n0 N Q (.ops l::k) (put T d v) H):Ok P E n0 N Q (.ops (⟨d,.call f xa,g⟩::l)::k) T H:=Kq hg Ah λv' H' ⟨h1,h2⟩=>by rw[h1,h2];exact h
theorem indexFP(l:Lu)(q:Int->Bool)(hF:Jd Gb f=some F)
  (hq:∀p∈l,Pure Gb E f (l1++[.int .i64 p]++l2) H (.bool (q p))) (Ad:l.length<=1000000):Pure Gb E 41 [.rslc 1 (iz l) none,.fn f l1 l2] H (.int .i64 (XT q l 0)):=by
 have Af:(iz l).length=l.length:=Jf;refine Ke c41_ok λN=>?_
 simp only[c41,go_sem,Af];refine JL (I:=λi:Nat=>i<=l.length/\XT q l 0=XT q (l.drop i) i) (inv:=λi=>gp [(0,.rslc 1 (iz l) none),(0,.fn f l1 l2),(5,.int .i64 l.length),(0,.int .i64 i)] 10) (hp:=λ_=>H) (μ:=λi=>l.length-i) 0 ⟨om,rfl⟩ ?_ rfl ?_
 ·simp[forget,gp]
 ·rintro i ⟨hi,Aa⟩;by_cases Ab:i<l.length
  ·have d1:=dtT i l.length;have Ay:=JF Ab;have BS:l[i]? = some (l.getD i 0):=by rw[Gm,Gp Ab];rfl
   have hm:l.getD i 0∈l:=Hu BS;rw[Xn BS]at Aa;simp only[go_sem,Af,d1,Ay];refine anO ?_;refine vr_pcallv (.inl rfl) rfl hF (Jcq pNames _) (hq _ hm) ?_
   cases hb:q (l.getD i 0) with
   |true=>rw[hb,if_pos rfl]at Aa;simp only[go_sem,Aa]
   |false=>rw[hb]at Aa;simp only[go_sem];refine⟨Jg,i+1,⟨om,by simpa using Aa⟩,om,?_⟩;simp[forget]
  ·have d1:=dfF i l.length;rw[Gs om]at Aa;simp only[go_sem,d1,Aa,XT]
theorem containsFP(l:Lu)(q:Int->Bool)(hF:Jd Gb f=some F)
  (hq:∀p∈l,Pure Gb E f (l1++[.int .i64 p]++l2) H (.bool (q p))) (Ad:l.length<=1000000):Pure Gb E 44 [.rslc 1 (iz l) none,.fn f l1 l2] H (.bool (l.any q)):=by
 refine Ke c44_ok λN=>?_
 simp only[c44,go_sem];refine vr_pc (.inl rfl) (indexFP l q hF hq Ad) ?_;simp only[go_sem,JaD]
section
variable(g:GoodT t o)(ht:t.Fit)
include g ht
end
def bb (l:LH):LM:=l.map λb=>[.bool b]
theorem bb_len {l:LH}:(bb l).length=l.length:=by simp[bb]
theorem bb_get {l:LH}(h:i<l.length):(bb l).getD i []=[.bool (l.getD i false)]:=by simp[bb,Gm,Gp h]
theorem Xo:∀(l:LH),Jq (bb l)=true
 |[]=>rfl
 |x::l=>by simp[bb,Jq,Jl,CV.closed];exact Xo l
theorem bb_set {l:LH}{b:Bool}:(bb l).set i [.bool b]=bb (l.set i b):=by simp[bb,La]
theorem bb_rep:GY n [CV.bool false]=bb (GY n false):=by simp[bb]
def JdC (l:LH)(i:Nat):Lu:=((Ga i).filter λj=>l.getD j false).map λj:Nat=>(j:Int)
theorem setTo_succ {l:LH}:JdC l (i+1)=JdC l i++if l.getD i false=true then [(i:Int)] else []:=by
 unfold JdC;rw[Hf,Hz,H7,H5,H9]
 split <;> rfl
theorem setTo_len {l:LH}:(JdC l i).length<=i:=by unfold JdC;rw[H8];exact GK (Gz _ _) sM
theorem refSet (l:LH)(hl:l.length<=100000):Jfu Gb 102 [.rslc 1 (bb l) none] 1 (iz (setL l)):=by
 have Br:(bb l).length=l.length:=bb_len;refine Je2 (Ke c102_ok λN=>?_) rfl (Jh _);simp only[c102,go_sem];refine Jr (I:=λi:Nat=>i<=l.length) (inv:=λi=>gp [(0,.rslc 1 (bb l) none),(2,.slc 0 0 (iz (JdC l i)).length (Jd8 (iz (JdC l i)))),(0,.int .i64 (i:Int))] 16) (hp:=λi=>[.arr 1 (iz (JdC l i))]) (μ:=λi=>l.length-i) 0 [0] om rfl ?_ ?_ ?_
 ·simp[forget,JG,ren,Jk,gp,JdC,iz,Jd8]
 ·simp[KD,Xk,JdC,iz]
 ·intro i hi;by_cases Ab:i<l.length
  ·have d1:=dtT i l.length;have Ay:=bb_get Ab;have Al:=setTo_succ (l:=l) (i:=i);have CG:=setTo_len (l:=l) (i:=i);have Aw:=Jb (ρ:=[0]) (Jh (JdC l i));have aF:=Jb (ρ:=[2]) (Jh (JdC l i))
   cases hb:l.getD i false with
   |false=>
    rw[hb,if_neg sM,Gq]at Al;rw[hb]at Ay;simp only[go_sem,Br,d1,Ay];refine⟨om,Jg,i+1,[0],om,om,rfl,?_,?_⟩
    ·rw[Al];simp only[KD,Gc,Gd,go_sem,Jo,Aw]
    ·rw[Al];simp[forget,JG,ren,Jk]
   |true=>
    rw[hb,if_pos rfl]at Al;rw[hb]at Ay;simp only[go_sem,Br,d1,Ay,JA,Jf];refine⟨om,⟨om,om⟩,Jg,i+1,[2],om,om,rfl,?_,?_⟩
    ·rw[Al,Qo];simp only[KD,Gc,Gd,go_sem,Jo];simp[aF,JG,ren]
    ·rw[Al,Qo,Yv];simp[forget,JG,ren,Jk]
  ·have d1:=dfF i l.length;obtain rfl:i=l.length:=om
   simp only[go_sem,Br,d1];exact⟨0,rfl,rfl⟩
theorem refHas3 (l:Lu)(x:Int)(hl:l.length<=100000):Fn Gb 60 [.rslc 1 (iz l) none,.int .i64 x] (.bool (l.contains x)):=by
 have Af:(iz l).length=l.length:=Jf;refine Jc c60_ok rfl rfl λN=>?_
 simp only[c60,go_sem];refine JL (I:=λi:Nat=>i<=l.length/\l.contains x=(l.drop i).contains x) (inv:=λi=>gp [(0,.rslc 1 (iz l) none),(0,.int .i64 x),(3,.int .i64 (i:Int))] 12) (hp:=λ_=>[]) (μ:=λi=>l.length-i) 0 ⟨om,rfl⟩ ?_ rfl ?_
 ·simp[forget,gp]
 ·rintro i ⟨hi,Aa⟩;by_cases Ab:i<l.length
  ·have d1:=dtT i l.length;have Ay:=JF Ab;rw[GM Ab,HV,show l[i]=l.getD i 0 by rw[Gm,Gp Ab];rfl]at Aa;generalize l.getD i 0=y at Aa Ay;have hc:(x == y)=(y == x):=by rw[Hq,beq_iff_eq,beq_iff_eq];exact⟨Eq.symm,Eq.symm⟩
   rw[hc]at Aa
   cases he:(y == x) with
   |true=>rw[he,Gy]at Aa;simp only[go_sem,Af,d1,Ay,he,Aa];omega
   |false=>rw[he,Gr]at Aa;simp only[go_sem,Af,d1,Ay,he];refine⟨om,Jg,i+1,⟨om,Aa⟩,om,?_⟩;simp[forget]
  ·have d1:=dfF i l.length;rw[show l.drop i=[] from Gs om,HY]at Aa;simp only[go_sem,Af,d1,Aa]
section
variable(g:GoodT t o)(ht:t.Fit)
include g ht
theorem refNeeds {of:Lu}(ho:OfOk t of){s:Nat}(hs:s<t.nodes.length)(hk:(nd t s).k=41):Jfu Gb 101 [t.cv,.rslc 1 (iz of) none,.int .i64 (s:Int)] 1 (iz (YS t o of s)):=by
 have Ag:=g.many;have Ba:(iz of).length=t.nodes.length:=by rw[Jf,ho.len]
 have P9:=set_kid g hs hk;have DF:Ji t s<t.nodes.length:=by have:=(JX g hs P9.1).2;omega
 rw[needR_eq];refine Je2 (Ke c101_ok λN=>?_) rfl (Jh _);simp only[c101,go_sem,Tr.cv,Tr.row];refine Je (id:=0) (z:=2) (els:=[t.row]) rfl rfl ?_;simp only[go_sem,JM,KA,frz,Kn,Gc,Gd];refine Jas [false,false,false,true,false,false,false,false,false] Jm vM ?_;simp only[go_sem,Tr.row,Ja];refine⟨⟨om,GJ _,om,om⟩,?_⟩;refine vh_f (Ja2 g ht hs) ?_;simp only[go_sem];rw[bb_rep,<-JdB];have O0:∀(i:Nat) (p:Nat->Bool),(Ga (i+1)).any p=((Ga i).any p || p i):=λi p=>by rw[Hf,List.any_append,Gx,GD,GL]
 refine Jr (I:=λi:Nat=>i<=t.nodes.length) (inv:=λi=>gp [(1,.rslc 1 (iz of) none),(0,.int .i64 (s:Int)),(0,.rptr t.row),(3,.slc 1 0 t.nodes.length (some t.nodes.length)),(0,.int .i64 (Kv t s)),(0,.int .i64 (i:Int))] 73) (hp:=λi=>[.dead,.arr 1 (bb (KT t.nodes.length λx=>(Ga i).any (JbK t o of s x)))]) (μ:=λi=>t.nodes.length-i) 0 [0,1] om rfl ?_ ?_ ?_
 ·simp[forget,JG,ren,Jk,gp,Tr.row]
 ·simp only[KD,Gc,Gd,go_sem,Jo,Jn,Jb (Xo _)];rfl
 ·intro i hi;have Aw:=Jb (ρ:=[0,1]) (Xo (KT t.nodes.length λx=>(Ga i).any (JbK t o of s x)));by_cases Ab:i<t.nodes.length
  ·have d1:=dtT i t.nodes.length;have Ay:=JF (l:=of) (i:=i) (by rw[ho.len];exact Ab);have Ps:=JZ Ab;have UZ:=ho.rng i (by rw[ho.len];exact Ab);have aA:=ho.dft (i:=i) (by rw[ho.len];exact Ab);have hQ:∀x,JbK t o of s x i=((nd t i).k == 3 && (decide (0<=of.getD i 0) && (JbS o i (Ji t s) && ((nd t (of.getD i 0).toNat).k == 42 && (Kv t (of.getD i 0).toNat == x && (Kv t x.toNat == Kv t s && !tdL t (upL t (Ji t s) t.nodes.length i).reverse false)))))):=λx=>by unfold JbK;rw[aA]
   have Cg:(∀x,JbK t o of s x i=false)->(KT t.nodes.length λx=>(Ga (i+1)).any (JbK t o of s x))=KT t.nodes.length λx=>(Ga i).any (JbK t o of s x):=λh=>boolsN_congr λj hj=>by rw[O0,h,GL]
   generalize of.getD i 0=m at Ay UZ hQ;simp only[go_sem,d1,Tr.row,Ja];refine JP Jm vk ?_
   cases h3:((nd t i).k == 3) with
   |false=>
    have AX:=Cg λx=>by rw[hQ,h3,Gn]
    simp only[go_sem,Ja,Ps,Nd.cv,kbN,h3,Gi];refine⟨om,Jg,i+1,[0,1],om,om,rfl,?_,?_⟩
    ·rw[AX];simp only[KD,Gc,Gd,go_sem,Jo,Aw,Jn]
    ·simp[forget,JG,ren,Jk]
   |true=>
    rcases Lc m 0 with RF|RF
    ·have e1:decide (m<0)=true:=decide_eq_true RF;have AX:=Cg λx=>by rw[hQ,decide_eq_false om,Gn,GG]
     simp only[go_sem,Ja,Ps,Nd.cv,kbN,h3,Gh,Ba,Ay,e1];refine⟨om,om,Jg,i+1,[0,1],om,om,rfl,?_,?_⟩
     ·rw[AX];simp only[KD,Gc,Gd,go_sem,Jo,Aw,Jn]
     ·simp[forget,JG,ren,Jk]
    ·have e1:decide (m<0)=false:=decide_eq_false om;obtain⟨m,rfl⟩:∃m':Nat,m=m':=⟨m.toNat,om⟩;have FU:m<t.nodes.length:=om
     have M7:=JZ FU;simp only[go_sem,Ja,Ps,Nd.cv,kbN,h3,Gh,Ba,Ay,e1];refine⟨om,om,?_⟩;refine J9 (gok rfl) (Yk g ht hs P9.2) ?_;simp only[go_sem];refine J9 (gok rfl) (Jah g ht DF) ?_
     cases hb:JbS o i (Ji t s) with
     |false=>
      have AX:=Cg λx=>by rw[hQ,hb,Gn,GG,GG]
      simp only[go_sem,Gi];refine⟨Jg,i+1,[0,1],om,om,rfl,?_,?_⟩
      ·rw[AX];simp only[KD,Gc,Gd,go_sem,Jo,Aw,Jn]
      ·simp[forget,JG,ren,Jk]
     |true=>
      cases BZ:((nd t m).k == 42) with
      |false=>
       have AX:=Cg λx=>by rw[hQ,Gl,BZ,Gn,GG,GG,GG]
       simp only[go_sem,Gh,Ja,Ba,Ay,M7,Nd.cv,kbN,BZ,Gi];refine⟨om,om,Jg,i+1,[0,1],om,om,rfl,?_,?_⟩
       ·rw[AX];simp only[KD,Gc,Gd,go_sem,Jo,Aw,Jn]
       ·simp[forget,JG,ren,Jk]
      |true=>
       have k42:(nd t m).k=42:=beq_iff_eq.1 BZ;obtain⟨v,MK,EB,_,_⟩:=QO g FU om;have dF:=Ja2 g ht FU;rw[MK]at dF;have Uw:∀x,JbK t o of s x i=(((v:Int) == x) && (Kv t x.toNat == Kv t s && !tdL t (upL t (Ji t s) t.nodes.length i).reverse false)):=λx=>by rw[hQ,h3,hb,Gl,BZ,MK,decide_eq_true om];rfl
       simp only[go_sem,Gh,Ja,Ba,Ay,M7,Nd.cv,kbN,BZ];refine⟨om,om,?_⟩;refine JP Jm vk ?_;simp only[go_sem,Ba,Ay];refine anO ?_;refine J9 (.inl rfl) dF ?_;simp only[go_sem];refine J3 (Ja2 g ht EB) ?_
       cases CU:(Kv t v == Kv t s) with
       |false=>
        have AX:=Cg λx=>by
         rw[Uw]
         cases hx:((v:Int) == x) with
         |false=>rfl
         |true=>have:=beq_iff_eq.1 hx;rw[<-this,Gl,CU];rfl
        simp only[go_sem,CU];refine⟨Jg,i+1,[0,1],om,om,rfl,?_,?_⟩
        ·rw[AX];simp only[KD,Gc,Gd,go_sem,Jo,Aw,Jn]
        ·simp[forget,JG,ren,Jk]
       |true=>
        simp only[go_sem,CU];refine Kk (gok rfl) (refLate g ht hs hk (QZ.1 hb)) ?_
        cases hl:tdL t (upL t (Ji t s) t.nodes.length i).reverse false with
        |true=>
         have AX:=Cg λx=>by rw[Uw,hl];simp
         simp only[go_sem,Gh];refine⟨Jg,i+1,[0,1],om,om,rfl,?_,?_⟩
         ·rw[AX];simp only[KD,Gc,Gd,go_sem,Jo,Aw,Jn]
         ·simp[forget,JG,ren,Jk]
        |false=>
         have BG:(KT t.nodes.length λx=>(Ga i).any (JbK t o of s x)).set v true=KT t.nodes.length λx=>(Ga (i+1)).any (JbK t o of s x):=by
          refine Jgo EB (λj hj Ai=>?_) ?_
          ·rw[O0,Uw,beq_eq_false_iff_ne.2 (show (v:Int)≠(j:Int) by omega),Gn,GL]
          ·rw[O0,Uw,Gl,CU,hl];simp
         have Br:(bb (KT t.nodes.length λx=>(Ga i).any (JbK t o of s x))).length=t.nodes.length:=by rw[bb_len,QV]
         have I4:=bb_get (l:=KT t.nodes.length λx=>(Ga i).any (JbK t o of s x)) (i:=v) (by rw[QV];exact EB);simp only[go_sem,Gi,Br,I4,Gg,Gt,GR,Gf,bb_set,BG];refine⟨om,om,Jg,i+1,[0,1],om,om,rfl,?_,?_⟩
         ·simp only[KD,Gc,Gd,go_sem,Jo,Jb (Xo _),Jn]
         ·simp[forget,JG,ren,Jk]
  ·have d1:=dfF i t.nodes.length;obtain rfl:i=t.nodes.length:=om
   have Br:(bb (KT t.nodes.length λx=>(Ga t.nodes.length).any (JbK t o of s x))).length=t.nodes.length:=by rw[bb_len,QV]
   simp only[go_sem,d1,Tr.row,Ja];refine Je (id:=1) (z:=1) (els:=bb (KT t.nodes.length λx=>(Ga t.nodes.length).any (JbK t o of s x))) rfl (Xo _) ?_;have EY:=Gu (l:=bb (KT t.nodes.length λx=>(Ga t.nodes.length).any (JbK t o of s x))) (i:=t.nodes.length) (by rw[Br];omega);simp only[go_sem,JM,KA,frz,Kn,Gc,Gd,Gf,GN,if_true,Br,GQ,EY,GV,GU];refine vr_rowW (.inl rfl) (refSet _ (by rw[QV];omega)) ?_;simp only[go_sem];exact⟨2,rfl,rfl⟩
end
theorem needR_ok{of:Lu}:∀x∈Ql t,(∀y∈YS t o of x.toNat,y∈Ql t)/\(YS t o of x.toNat).length<=(Ql t).length:=λx _=>⟨λy hy=>(GX.1 hy).1,Gz _ _⟩
def todoW (els:Lu)(off:Nat):CV:=.slc 2 off (els.length-off) (Jd8 (iz els))
theorem Jfk {els:Lu}(h:els≠[]):Jd8 (iz els)=none:=by cases els with
 |nil=>exact absurd rfl h
 |cons x l=>rfl
section
variable(g:GoodT t o)(ht:t.Fit)
include g ht
theorem refReached {of:Lu}(ho:OfOk t of){s:Nat}(hs:s<t.nodes.length)(hk:(nd t s).k=41):Jfu Gb 61 [t.cv,.rslc 1 (iz of) none,.int .i64 (s:Int)] 1 (iz ((Ql t).filter λx=>(bfs (λx=>YS t o of x.toNat) (Ql t) (YS t o of s) []).contains x)):=by
 have Ag:=g.many;have Am:(Ql t).length=t.nodes.length:=by simp[Ql]
 refine Je2 (Ke c61_ok λN=>?_) rfl (Jh _);simp only[c61,go_sem,Tr.cv,Tr.row,Ja];refine⟨⟨om,GJ _,om,om⟩,?_⟩;refine Je (id:=0) (z:=2) (els:=[t.row]) rfl rfl ?_;simp only[go_sem,JM,KA,frz,Kn,Gc,Gd,List.map_replicate,Tr.row];refine vr_rowW (.inl rfl) (refNeeds g ht ho hs hk) ?_;simp only[go_sem];have BG:∀s':Nat,s' < t.nodes.length->(nd t s').k=41->∀x∈YS t o of s',0<=x/\x<t.nodes.length/\(nd t x.toNat).k=41:=λs' h1 h2 x hx=>by rw[<-need_eq g h1 h2]at hx;exact JdW g hx
 generalize hN:(λx:Int=>YS t o of x.toNat)=Nf;have Fe:∀x∈Ql t,(∀y∈Nf x,y∈Ql t)/\(Nf x).length<=(Ql t).length:=by rw[<-hN];exact needR_ok
 have Ik:∀x:Nat,x<t.nodes.length->(nd t x).k=41->∀y∈Nf x,0<=y/\y<t.nodes.length/\(nd t y.toNat).k=41:=λx h1 h2 y hy=>by rw[<-hN]at hy;simp only[Gl]at hy;exact BG x h1 h2 y hy
 have h0:=BG s hs hk;have Iz:(YS t o of s).length<=t.nodes.length:=by rw[<-Am];exact Gz _ _
 generalize YS t o of s=T0 at h0 Iz|-;generalize hR:bfs Nf (Ql t) T0 []=R;have Al:YT (Ql t) []*((Ql t).length+1)<=700*701:=Lf (GK Jcw om) om;have iL:(KT t.nodes.length λx=>([]:Lu).contains x)=GY t.nodes.length false:=by rw[<-JdB];rfl
 rw[bb_rep,<-iL];refine Jr (σ:=Lu×Nat×Lu) (I:=λs'=>s'.2.1<=s'.1.length/\(∀x∈s'.1,0<=x/\x<t.nodes.length/\(nd t x.toNat).k=41)/\bfs Nf (Ql t) (s'.1.drop s'.2.1) s'.2.2=R/\muB (Ql t) (s'.1.drop s'.2.1) s'.2.2<=1000000)
  (inv:=λs'=>gp [(1,.rslc 1 (iz of) none),(1,.rptr t.row),(3,.slc 1 0 t.nodes.length (some t.nodes.length)),(0,todoW s'.1 s'.2.1)] 33) (hp:=λs'=>[.dead,.arr 1 (bb (KT t.nodes.length λx=>s'.2.2.contains x)),.arr 1 (iz s'.1)]) (μ:=λs'=>muB (Ql t) (s'.1.drop s'.2.1) s'.2.2) (T0,0,[]) [0,1,2] ⟨sM,h0,by simpa using hR,by simp only[Gf,muB];omega⟩ rfl ?_ ?_ ?_
 ·simp[forget,JG,ren,Jk,gp,todoW,rowW,Tr.row,Jf]
 ·simp only[KD,Gc,Gd,go_sem,Jo,Jb (Jh T0),Jb (Xo _),Jn]
 ·rintro⟨els,off,out⟩ ⟨Mj,hP,hB,Mo⟩
  dsimp only at Mj hP hB Mo
  have EG:(iz els).length=els.length:=Jf;by_cases Ab:off<els.length
  ·have Ai:els≠[]:=by rintro rfl;simp at Ab
   have d1:((0:Int)<((els.length-off:Nat):Int))=True:=J5;have d2:(((els.length-off:Nat):Int) > 0)=True:=J5;have Ay:=JF Ab;have F5:els.drop off=els.getD off 0::els.drop (off+1):=by rw[GM Ab,Gm,Gp Ab];rfl
   have AO:els.getD off 0∈els:=by rw[Gm,Gp Ab];exact Gw Ab
   have SA:=hP _ AO;have Aj:∀y∈els.drop off,y∈Ql t:=λy hy=>by have:=hP y (G5 hy);exact KO.2 ⟨this.1,this.2.1⟩
   rw[F5]at hB Aj Mo|-;have OH:=Mo;simp only[muB,Gg]at OH;generalize hx:els.getD off 0=x at Ay SA hB Aj Mo|-;obtain⟨xn,rfl⟩:∃x':Nat,x=x':=⟨x.toNat,om⟩;have PM:(xn:Int)∈Ql t:=Aj xn sM;have F6:=SA.2.2;rw[Gl]at F6;have FD:xn<t.nodes.length:=om
   have Br:(bb (KT t.nodes.length λx=>out.contains x)).length=t.nodes.length:=by rw[bb_len,QV]
   have I4:=bb_get (l:=KT t.nodes.length λx=>out.contains x) (i:=xn) (by rw[QV];exact FD);rw[Jgp FD]at I4
   cases hc:out.contains (xn:Int) with
   |true=>
    rw[hc]at I4;rw[bfs_old Fe Aj hc]at hB;simp only[go_sem,todoW,Jfk Ai,d1,EG,Ay,Hl,Br,I4,Gh];refine⟨om,⟨om,GJ _⟩,om,om,(els,off+1,out),[0,1,2],⟨by simp only;omega,hP,hB,by simp only[muB];omega⟩,by simp only[muB,Gg];omega,rfl,?_,?_⟩
    ·simp only[KD,Gc,Gd,go_sem,Jo,Jb (Jh els),Jb (Xo _),Jn]
    ·simp[forget,JG,ren,Jk,Jfk Ai];omega
   |false=>
    rw[hc]at I4;rw[bfs_new Fe Aj hc]at hB;have Cx:=Jak PM hc;have Z5:=Ld ((Ql t).length+1) (show YT (Ql t) (out++[(xn:Int)])+1<=YT (Ql t) out from Cx);rw[Ho,Hm]at Z5;have Dl:=(Fe xn PM).2;have aX:YS t o of xn=Nf (xn:Int):=by rw[<-hN];simp only[Gl]
    have PX:=Ik xn FD F6;have SB:=(refNeeds g ht ho FD F6).fn rfl (Jh _);rw[aX]at SB;have Rb:(KT t.nodes.length λx=>out.contains x).set xn true=KT t.nodes.length λx=>(out++[(xn:Int)]).contains x:=by refine Jgo FD (λj hj Ai=>?_) sM;have:((j:Int) == (xn:Int))=false:=beq_eq_false_iff_ne.2 om;simp[];omega
    simp only[go_sem,todoW,Jfk Ai,d1,EG,Ay,Hl,Br,I4,Gi,Gg,Gt,GR,Gf,bb_set,Rb,Tr.row];refine⟨om,⟨om,GJ _⟩,om,om,om,om,?_⟩;refine J3 SB ?_;generalize Nf (xn:Int)=M at Dl PX hB|-;have OY:off+1+(els.length-off-1)=els.length:=om
    have OX:(off+1+(els.length-off-1)=els.length)=True:=eq_true OY;have hd:=HZ (i:=off+1) (l:=els)
    cases M with
    |nil=>
     simp only[go_sem,Xm];rw[Gq]at hB;refine⟨(els,off+1,out++[(xn:Int)]),[0,1,2],⟨by simp only;omega,hP,hB,by simp only[muB];omega⟩,by simp only[muB,Gg];omega,rfl,?_,?_⟩
     ·simp only[KD,Gc,Gd,go_sem,Jo,Jb (Jh els),Jb (Xo _),Jn]
     ·simp[forget,JG,ren,Jk,Jfk Ai];omega
    |cons y ys=>
     simp only[go_sem,Kt,EG,OX,Jf,JA];simp only[Gg]at Dl;refine⟨⟨om,om⟩,(els.drop (off+1)++y::ys,0,out++[(xn:Int)]),[0,1,3],⟨sM,λz hz=>?_,by simpa using hB,by simp only[Gf,muB,Gv,Gg];omega⟩,by simp only[Gf,muB,Gv,Gg];omega,rfl,?_,?_⟩
     ·rcases Hg.1 hz with h|h
      ·exact hP z (G5 h)
      ·exact PX z h
     ·rw[K5,Kt,<-Jhn];simp only[KD,Gc,Gd,go_sem,Jo,Jn,Jb (Xo _)];rw[Jhn];simp[Jb (Jh (els.drop (off+1))),Jb (Jh ys),JG,ren]
     ·rw[Jfk (show els.drop (off+1)++y::ys≠[] by simp)];simp[forget,JG,ren,Jk];omega
  ·obtain rfl:off=els.length:=om
   rw[H6,bfs_nil]at hB;have Br:(bb (KT t.nodes.length λx=>out.contains x)).length=t.nodes.length:=by rw[bb_len,QV]
   have d1:((0:Int)<((els.length-els.length:Nat):Int))=False:=J7;have d2:(((els.length-els.length:Nat):Int) > 0)=False:=J7;simp only[go_sem,todoW,d1];refine Je (id:=1) (z:=1) (els:=bb (KT t.nodes.length λx=>out.contains x)) rfl (Xo _) ?_;have EY:=Gu (l:=bb (KT t.nodes.length λx=>out.contains x)) (i:=t.nodes.length) (by rw[Br];omega);simp only[go_sem,JM,KA,frz,Kn,Gc,Gd,Gf,GN,if_true,Br,GQ,EY,GV,GU,JI (Jh _)];refine vr_rowW (.inl rfl) (refSet _ (by rw[QV];omega)) ?_;rw[<-hB,<-JfM (t:=t) (f:=λx=>out.contains x)];simp only[go_sem];exact⟨3,rfl,rfl⟩
theorem refResolve:Fn Gb 33 [t.cv] (if (resR t o).2=0 then .tup [.rslc 1 (iz (ofL t o)) none,.int .i64 0,.int .i64 0] else .tup [.rslc 1 [] none,.int .i64 ((resR t o).1:Int),.int .i64 (resR t o).2]):=by
 have Ag:=g.many;have aH:chk t=0:=(Jd7 t).2 ⟨o,g⟩;have e0:(chk t != 0)=false:=by simp[aH]
 refine Jal ?_ rfl (by split <;> rfl);refine Ke c33_ok λN=>?_
 simp only[c33,go_sem,Tr.cv,Tr.row];refine Je (id:=0) (z:=2) (els:=[t.row]) rfl rfl ?_;simp only[go_sem,JM,KA,frz,Kn,Gc,Gd,Tr.row];refine J3 (refCheck t ht) ?_;simp only[go_sem,e0];have AP:∀{k:Nat} {y:Ls} {H:Lt},H[k]? = some (.arr 1 [])->Jl y=true->Frzs (.tup (.rslc 1 [] none::y)) (.tup (.slc k 0 0 (some 0)::y)) H:=λh hy=>.step _ 1 [] h rfl (.done (by simp only[frz,JM,if_true,QP _ hy];exact wk.refl _))
 have Bw:∀(i:Nat) (a:Int),a≠0->resR t o=(i,a)->(if (resR t o).2=0 then CV.tup [.rslc 1 (iz (ofL t o)) none,.int .i64 0,.int .i64 0] else .tup [.rslc 1 [] none,.int .i64 ((resR t o).1:Int),.int .i64 (resR t o).2])=.tup [.rslc 1 [] none,.int .i64 (i:Int),.int .i64 a]:=λi a ha h=>by rw[h,if_neg ha]
 refine Jr (I:=λi:Nat=>i<=t.nodes.length/\JgU t o 6 10 (Ga t.nodes.length)=JgU t o 6 10 ((Ga t.nodes.length).drop i)) (inv:=λi=>gp [(1,.rptr t.row),(4,.slc 1 0 (iz ((ofL t o).take i)).length (Jd8 (iz ((ofL t o).take i)))),(0,.int .i64 (i:Int))] 64) (hp:=λi=>[.dead,.arr 1 (iz ((ofL t o).take i))]) (μ:=λi=>t.nodes.length-i) 0 [0,1] ⟨om,by rw[Gf]⟩ rfl ?_ ?_ ?_
 ·simp[forget,JG,ren,Jk,gp,Tr.row,iz,Jd8]
 ·simp[KD,Xk,iz]
 ·rintro i ⟨hi,Aa⟩;have BP:((ofL t o).take i).length=i:=by rw[G6,QL];omega
  by_cases Ab:i<t.nodes.length
  ·have d1:=dtT i t.nodes.length;have Ay:=JZ Ab;have FP:=ofL_take (o:=o) Ab;rw[QB Ab,JgU]at Aa;have Cr:∀a:Int,JgU t o 6 10 (Ga t.nodes.length)=some (i,a)->resR t o=(i,a):=λa h=>by unfold resR;rw[h]
   have Aw:=Jb (ρ:=[0,3]) (Jh ((ofL t o).take i));generalize (ofL t o).take i=acc at BP FP Aw|-;simp only[go_sem,d1,Tr.row,Ja,Ay,Nd.cv];refine anO ?_;refine J3 (Jg9 _) ?_;have FK:((nd t i).k == 3 || (nd t i).k == 26 || (nd t i).k == 44)=KH t i:=rfl;rw[FK]
   cases hs:KH t i with
   |true=>
    simp only[go_sem];refine J3 (refMeans g ht Ab hs) ?_;by_cases hm:J2 t o i<0
    ·have e1:(J2 t o i<0)=True:=eq_true hm;rw[hs,decide_eq_true hm,Gj,if_pos rfl]at Aa;rw[Bw i 10 vk (Cr 10 Aa)];simp only[go_sem,e1];exact AP (k:=2) rfl rfl
    ·have e1:(J2 t o i<0)=False:=eq_false hm;rw[hs,decide_eq_false hm,GG,if_neg sM]at Aa;simp only[go_sem,e1];refine J3 (refTwice g ht Ab) ?_
     cases ED:twR t o i with
     |true=>rw[ED,if_pos rfl]at Aa;rw[Bw i 6 vk (Cr 6 Aa)];simp only[go_sem];exact AP (k:=2) rfl rfl
     |false=>
      rw[ED,if_neg sM]at Aa;simp only[go_sem,JA,Jf];refine⟨⟨om,om⟩,Jg,i+1,[0,3],⟨om,Aa⟩,om,rfl,?_,?_⟩
      ·rw[FP,Qo];simp only[KD,Gc,Gd,go_sem,Jo,Jn];simp[Aw,JG,ren]
      ·rw[FP,Qo,Yv];simp[forget,JG,ren,Jk]
   |false=>
    have FX:J2 t o i = -1:=by unfold KH at hs;simp only[Bool.or_eq_false_iff,beq_eq_false_iff_ne]at hs;unfold J2;rw[if_neg hs.1.1,if_neg hs.1.2,if_neg hs.2]
    rw[hs,Gn,if_neg sM]at Aa;rw[FX]at FP;simp only[go_sem];refine J3 (refTwice g ht Ab) ?_
    cases ED:twR t o i with
    |true=>rw[ED,if_pos rfl]at Aa;rw[Bw i 6 vk (Cr 6 Aa)];simp only[go_sem];exact AP (k:=2) rfl rfl
    |false=>
     rw[ED,if_neg sM]at Aa;simp only[go_sem,JA,Jf];refine⟨⟨om,om⟩,Jg,i+1,[0,3],⟨om,Aa⟩,om,rfl,?_,?_⟩
     ·rw[FP,Qo];simp only[KD,Gc,Gd,go_sem,Jo,Jn];simp[Aw,JG,ren]
     ·rw[FP,Qo,Yv];simp[forget,JG,ren,Jk]
  ·have d1:=dfF i t.nodes.length;obtain rfl:i=t.nodes.length:=om
   rw[show (Ga t.nodes.length).drop t.nodes.length=[] from Gs sM,JgU]at Aa;have Cr:resR t o=match (Ga t.nodes.length).find? (stR t o) with|some i=>(i,9)|none=>(0,0):=by unfold resR;simp only[Aa];cases (Ga t.nodes.length).find? (stR t o) <;> rfl
   rw[Gu (by rw[QL];omega)];simp only[go_sem,d1,Tr.row,Ja];refine Je (id:=1) (z:=1) (els:=iz (ofL t o)) rfl (Jh _) ?_;have Bj:=QL (t:=t) (o:=o);have EY:G8 t.nodes.length (iz (ofL t o))=iz (ofL t o):=Gu (by rw[Jf,Bj];omega);simp only[go_sem,JM,KA,frz,Kn,Gc,Gd,Gf,GN,if_true,Jf,Bj,GQ,EY,GV,GU];refine Jr (I:=λi:Nat=>i<=t.nodes.length/\(Ga t.nodes.length).find? (stR t o)=((Ga t.nodes.length).drop i).find? (stR t o)) (inv:=λi=>gp [(1,.rptr t.row),(4,.rslc 1 (iz (ofL t o)) none),(2,.int .i64 (i:Int))] 62) (hp:=λ_=>[.dead,.dead]) (μ:=λi=>t.nodes.length-i) 0 [0,1] ⟨om,by rw[Gf]⟩ rfl ?_ rfl ?_
   ·simp[forget,JG,ren,gp,Tr.row]
   ·rintro i ⟨hi,Aa⟩;by_cases Ab:i<t.nodes.length
    ·have d1:=dtT i t.nodes.length;have Ay:=JZ Ab;rw[QB Ab,GH]at Aa
     cases hk:((nd t i).k == 41) with
     |false=>
      have Al:stR t o i=false:=by unfold stR;rw[hk];rfl
      rw[Al]at Aa;simp only[go_sem,d1,Tr.row,Ja,Ay,Nd.cv,kbE,hk];refine⟨om,Jg,i+1,[0,1],⟨om,Aa⟩,om,rfl,rfl,?_⟩;simp[forget,JG,ren]
     |true=>
      have Al:stR t o i=((Ql t).filter λx=>(bfs (λx=>YS t o (ofL t o) x.toNat) (Ql t) (YS t o (ofL t o) i) []).contains x).contains (i:Int):=by unfold stR;rw[hk,Gj]
      have hA:=(refReached g ht (ofL_ok (o:=o)) Ab (beq_iff_eq.1 hk)).fn rfl (Jh _);have Br:((Ql t).filter λx=>(bfs (λx=>YS t o (ofL t o) x.toNat) (Ql t) (YS t o (ofL t o) i) []).contains x).length<=100000:=by refine GK (Gz _ _) ?_;simp only[Ql,H8,He];omega
      generalize (Ql t).filter (λx=>(bfs (λx=>YS t o (ofL t o) x.toNat) (Ql t) (YS t o (ofL t o) i) []).contains x)=B at Al hA Br;simp only[go_sem,d1,Tr.row,Ja,Ay,Nd.cv,kbE,hk];refine anO ?_;refine Kk (gok rfl) hA ?_;simp only[go_sem];refine Kk (gok rfl) (refHas3 B (i:Int) Br) ?_
      cases hc:B.contains (i:Int) with
      |false=>rw[Al,hc]at Aa;simp only[go_sem];refine⟨Jg,i+1,[0,1],⟨om,Aa⟩,om,rfl,rfl,?_⟩;simp[forget,JG,ren]
      |true=>rw[Al,hc]at Aa;rw[Aa]at Cr;rw[Bw i 9 vk Cr];simp only[go_sem];exact AP (k:=2) rfl rfl
    ·have d1:=dfF i t.nodes.length;rw[show (Ga t.nodes.length).drop i=[] from Gs (by simp;omega),GI]at Aa;rw[Aa]at Cr;rw[Cr,if_pos rfl];simp only[go_sem,d1,Tr.row,Ja];exact .done (wk.refl _)
end
theorem refResolveE (t:Tr)(ht:t.Fit)(h:chk t≠0):Fn Gb 33 [t.cv] (.tup [.rslc 1 [] none,.int .i64 0,.int .i64 (chk t)]):=by
 have e:(chk t != 0)=true:=by simpa using h
 refine Jal ?_ rfl rfl;refine Ke c33_ok λN=>?_
 simp only[c33,go_sem,Tr.cv,Tr.row];refine J3 (refCheck t ht) ?_;simp only[go_sem,e];refine .step 1 1 [] rfl rfl (.done ?_);simp only[frz,JM,if_true];exact wk.refl _
end Go.Cm
end
end
