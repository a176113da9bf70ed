/-
  A part of the proof. Conditions: none.
-/
import Derived.Test.YtdnnimemociklaaGreatDoorVT2
set_option linter.unusedSimpArgs false
set_option linter.unusedVariables false
open Int renaming cast_ofNat_Int->Ga,toNat_natCast->Gl
open List renaming getD_eq_getElem?_getD->Gb,set_cons_succ->Gc,set_cons_zero->Gd,length_cons->Gf,length_nil->Gg,replicate->Gh,getElem?_eq_getElem->Gx,map_cons->Gi,map_nil->Gj,drop_zero->Gq,range->Gm,getElem?_replicate->Gz,getElem?_eq_some_iff->GG,getD_cons_zero->GH,getElem_range->GI,mem_range->GA,all_eq_false->GJ,length_take->GK,getElem_map->GL,ext_getElem->GM,take_of_length_le->GY,length_set->GN,take_zero->GQ,drop_succ_cons->GZ,foldl_append->G5,mem_map->GR,not_mem_nil->G6,length_drop->G7,range_succ->G8,getElem?_take_of_lt->Hd,mem_cons->G9,getElem?_eq_none->He,mem_singleton->Hf,isEmpty_nil->Hg,isEmpty_iff->Hl,getElem_set->Hm,getElem_mem->Ho,nil_append->Hq,append_nil->Hr,all_append->Ht,all_cons->Hu,all_nil->Hw
open Bool renaming and_true->Gt,true_and->Gy,false_and->GU,not_false->Ha,not_true->Hy,false_or->Hz,true_or->HV
open Nat renaming zero_add->Gr,le_refl->Gu,le_of_ble_eq_true->GV,reduceEqDiff->GD,sub_zero->GX
open Go.Proofs.Tryz renaming prog->Gs
open Option renaming isSome_some->Gn,getD_some->Gp,isSome_none->Gv,getD_none->Gw,isSome_iff_exists->HY
noncomputable section
section
set_option maxRecDepth 100000
set_option maxHeartbeats 4000000
open Go.Proofs
namespace Go.Cm
variable {K:FT0}{Z:FS}{fi o up:Lu}{f i m n n0 z:Nat}{t:Tr}{got:List TL}{P:Program}{E:Env}{N:Fr}{Q:Exit->Ls->Lt->Prop}{H H' X:Lt}{T:Ls}{k:LJ}{l:TL}{res v v0:CV}{e els:LM}{r:Option TL}
section
variable(g:GoodT K.t o)(ht:K.t.Fit)
include g ht
omit ht in
theorem great1(hi:i<K.t.nodes.length)(hk:19<=(nd K.t i).k/\(nd K.t i).k<=25)(hl:Z.got.length=K.t.nodes.length)(hf:∀j,Qf (Jt Z.got j)=true):Ans K Z 89 [.int .i64 (i:Int)] (Qh K.t m Z.got i):=by
 have Ag:=g.many;have hg:=JZ hi;have AL:(gz Z.got).length=K.t.nodes.length:=by rw[QH,hl]
 have hp:=Jdg g hi (Xt g hi (.inl hk));have Aq:(nd K.t i).kids.length=1:=by rw[hp];rfl
 have h0:=Jz g hi (i:=0) om;have k0:=XV g (got:=Z.got) hi (j:=0) om (JE g hi om);rw[Gl]at k0;have Ca:=Ym g hi;generalize iP:Ju K.t i 0=a at *;have Am:a<K.t.nodes.length:=om
 have CX:=Qc (l:=Z.got) (i:=a) om;have hB:=λw=>fmAre (K:=K) (Z:=Z) (w:=tyT w) (ks:=[(a:Int)]) hl (by simp;omega) sM
 simp only[JaI,Gl]at hB;have jF:=hB .int;have O9:=hB .bool;have Sv:=Jgj (K:=K) Am hl (hf a);have bD:=fmArrayed (K:=K) Am hl (hf a);clear hB;rcases (show (nd K.t i).k=19\/(nd K.t i).k=20\/(nd K.t i).k=21\/(nd K.t i).k=23\/(nd K.t i).k=24\/(nd K.t i).k=22\/(nd K.t i).k=25 by omega) with hk|hk|hk|hk|hk|hk|hk
 ·refine Ans.of (txV [.bool]) (by rw[JV,hk,rk_not,k0]) rfl (λ_=>rfl) ?_;refine Ki (vfS c89_ok λN=>?_);simp only[c89,go_sem,hpF,fRow,Ja,hg,Nd.cv,hk,hp,Ga]
  repeat refine anO ?_
  refine KF O9 (.inl rfl) rfl rfl rfl rfl ?_;simp only[go_sem];exact .one 1 rfl rfl rfl (wk.refl _)
 ·refine Ans.of (txV [.int]) (by rw[JV,hk,rk_neg,k0]) rfl (λ_=>rfl) ?_;refine Ki (vfS c89_ok λN=>?_);simp only[c89,go_sem,hpF,fRow,Ja,hg,Nd.cv,hk,hp,Ga]
  repeat refine anO ?_
  refine KF jF (.inl rfl) rfl rfl rfl rfl ?_;simp only[go_sem];exact .one 1 rfl rfl rfl (wk.refl _)
 ·refine Ans.of (.rslc 1 [[S (opT (prt (Ku (Jt Z.got a))))]] none) (by rw[JV,hk,Jg3,k0]) rfl (λh=>?_) ?_
  ·obtain⟨e,he⟩:=JeU.1 h;rw[he];rfl
  refine Ki (vfS c89_ok λN=>?_);simp only[c89,go_sem,hpF,fRow,Ja,hg,Nd.cv,hk,hp,Ga,Kt,Xm,Gf,Gg]
  repeat refine anO ?_
  refine KF Sv (.inl rfl) rfl rfl rfl rfl ?_;simp only[go_sem,hpF];exact .one 1 rfl rfl rfl (wk.refl _)
 ·refine Ans.of (txV [.bool]) (by rw[JV,hk,JdS,k0]) rfl (λ_=>rfl) ?_;refine Ki (vfS c89_ok λN=>?_);simp only[c89,go_sem,hpF,fRow,Ja,hg,Nd.cv,hk,hp,Ga,Kt,Xm,Gf,Gg]
  repeat refine anO ?_
  refine KF Sv (.inl rfl) rfl rfl rfl rfl ?_;simp only[go_sem,hpF];exact .one 1 rfl rfl rfl (wk.refl _)
 ·refine Ans.of (txV [.int]) (by rw[JV,hk,Jg0,k0]) rfl (λ_=>rfl) ?_;refine Ki (vfS c89_ok λN=>?_);simp only[c89,go_sem,hpF,fRow,Ja,hg,Nd.cv,hk,hp,Ga,Kt,Xm,Gf,Gg]
  repeat refine anO ?_
  refine KF bD (.inl rfl) rfl rfl rfl rfl ?_;simp only[go_sem,hpF];exact .one 1 rfl rfl rfl (wk.refl _)
 ·refine Ans.of (txV (Jt Z.got a)) (by rw[JV,hk,JgZ,k0]) rfl (λ_=>rfl) ?_;refine Ki (vfS c89_ok λN=>?_);simp only[c89,go_sem,hpF,fRow,Ja,hg,Nd.cv,hk,hp,Ga,Kt,Xm,Gf,Gg]
  repeat refine anO ?_
  refine KF Sv (.inl rfl) rfl rfl rfl rfl ?_;simp only[go_sem,hpF,fRow];refine JJ [0,0,0,1,0,0,0,1,1,0,0,0] Jm vM ?_;simp only[go_sem,CX,AL,Gf,Gg]
  repeat refine anO ?_
  exact .out (wk.refl _) rfl
 ·obtain⟨_,_,q3,q4⟩:=Ca (.inl hk);have Ct:=XW (t:=K.t) (i:=a) om;refine Ans.of (b:=true) (l:=[.str (tyN K.t a)]) (txV [.str (tyN K.t a)]) (by rw[JV,hk,rk_nil,iP];rfl) rfl (λ_=>rfl) ?_;refine Ki (vfS c89_ok λN=>?_);simp only[c89,go_sem,hpF,fRow,Ja,hg,Nd.cv,hk,hp,Ga,Kt,Xm,Gf,Gg]
  repeat refine anO ?_
  refine KF (XK g a Am q3 q4) (.inl rfl) rfl rfl rfl rfl ?_;simp only[go_sem];refine J3 (Jeg _ om) ?_;simp only[go_sem,hpF];exact .one 1 rfl rfl rfl (wk.refl _)
theorem great2(hi:i<K.t.nodes.length)(hk:26<=(nd K.t i).k/\(nd K.t i).k<=29)(hl:Z.got.length=K.t.nodes.length)(hf:∀j,Qf (Jt Z.got j)=true)(Bd:Ln Z.got)(Ba:K.of.length=K.t.nodes.length)(hm:(nd K.t i).k=26->K.of.getD i 0=(m:Int)/\m<K.t.nodes.length/\(nd K.t m).k=65):Ans K Z 89 [.int .i64 (i:Int)] (Qh K.t m Z.got i):=by
 have Ag:=g.many;have hg:=JZ hi;have AL:(gz Z.got).length=K.t.nodes.length:=by rw[QH,hl]
 have Af:(iz (nd K.t i).kids).length=(nd K.t i).kids.length:=Jf;have Bh:=(JbR ht hi).kidn;have hK:∀j,j<(nd K.t i).kids.length->∃c:Nat,(iz (nd K.t i).kids).getD j []=[.int .i64 (c:Int)]/\c<K.t.nodes.length/\KK K.t Z.got i j=Jt Z.got c:=λj hj=>by have h1:=Jz g hi (i:=j) hj;exact⟨Ju K.t i j,by rw[JF hj,JE g hi hj],om,by rw[XV g hi hj (JE g hi hj),Gl]⟩
 have hB:=λ(c:Nat) (hc:c<K.t.nodes.length)=>fmAre (K:=K) (Z:=Z) (w:=tyT .bool) (ks:=[(c:Int)]) hl (by simp;omega) sM
 simp only[JaI,Gl]at hB;rcases (show (nd K.t i).k=26\/(nd K.t i).k=27\/(nd K.t i).k=28\/(nd K.t i).k=29 by omega) with hk|hk|hk|hk
 ·obtain⟨m1,m2,m3⟩:=hm hk;obtain⟨x,Bg,Bf,hC⟩:=fmCall g ht (Z:=Z) hi hk Ba m1 m2 m3 hl;refine⟨x,Bg,Bf,?_⟩;refine Ki (vfS c89_ok λN=>?_);simp only[c89,go_sem,hpF,fRow,Ja,hg,Nd.cv,hk,Ga]
  repeat refine anO ?_
  refine KF hC (.inl rfl) rfl rfl rfl (by simp only[CV.closed,Jl,Bg,Gt]) ?_;simp only[go_sem];exact .out (wk.refl _) (by simp only[CV.closed,Jl,Bg,Gt])
 ·have h3:=kids_if g hi hk;obtain⟨a,a1,a2,a3⟩:=hK 0 om;obtain⟨b,b1,b2,b3⟩:=hK 1 om;obtain⟨c,c1,c2,c3⟩:=hK 2 om;rw[h3]at Af;have CX:=Qc (l:=Z.got) (i:=a) om;have IX:=Qc (l:=Z.got) (i:=b) om;have D5:=Qc (l:=Z.got) (i:=c) om;have hE:=equalTx (Jt Z.got b) (Jt Z.got c) (by have:=Bd b;omega);refine Ans.of (txV (Jt Z.got b)) (by rw[JV,hk,rk_if,a3,b3,c3]) rfl (λ_=>rfl) ?_;refine Ki (vfS c89_ok λN=>?_);simp only[c89,go_sem,hpF,fRow,Ja,hg,Nd.cv,hk,Ga]
  repeat refine anO ?_
  refine JJ [0,0,0,1,0,0,0,1,1,0,0,0,0,0,1,0,0,0,0,1,0,0,0,1,1,0,0,0,1,0,0,0,1,1,0,0,0,0] Jm vM ?_;simp only[go_sem,Af,a1,b1,IX,AL]
  repeat refine anO ?_
  refine YC (iz [(a:Int)]) (.inl rfl) rfl rfl rfl rfl ?_;simp only[go_sem];refine vy_p (.inl rfl) ((hB a a2).on rfl rfl) ?_
  cases hx:(Jt Z.got a == [TyX.bool]) with
  |false=>simp only[go_sem,GU];exact .out (wk.refl _) rfl
  |true=>
   simp only[go_sem,Af,b1,c1,IX,D5,AL,Gy]
   repeat refine anO ?_
   refine JdL (gok rfl) hE ?_;simp only[go_sem];exact .out (wk.refl _) rfl
 ·obtain⟨n,b,n1,n2,n3,_⟩:=X7 g hi hk;change (nd K.t i).n=n at n1;change b<(nd K.t i).kids.length at n3;obtain⟨a,a1,a2,a3⟩:=hK n om;obtain⟨c,c1,c2,c3⟩:=hK ((nd K.t i).kids.length-1) om;have D5:=Qc (l:=Z.got) (i:=c) om;refine Ans.of (txV (Jt Z.got c)) (by rw[JV,hk,Jg2,n1,Gl,a3,c3]) rfl (λ_=>rfl) ?_;refine Ki (vfS c89_ok λN=>?_);simp only[c89,go_sem,hpF,fRow,Ja,hg,Nd.cv,hk,Ga]
  repeat refine anO ?_
  refine JJ [0,0,0,1,0,0,0,0,0,0,1,1,0,0,0,1,0,0,0,1,0,0] Jm vM ?_;simp only[go_sem,Af,c1,D5,AL,n1,a1]
  repeat refine And.intro (by first|omega|exact⟨om,om⟩|exact Jg) ?_
  refine YC (iz [(a:Int)]) (.inl rfl) rfl rfl rfl rfl ?_;simp only[go_sem];refine vy_p (.inl rfl) ((hB a a2).on rfl rfl) ?_;simp only[go_sem];exact .out (wk.refl _) rfl
 ·obtain⟨x,Bg,Bf,hC⟩:=fmCells g ht (m:=m) hi hk hl hf;refine⟨x,Bg,Bf,?_⟩;refine Ki (vfS c89_ok λN=>?_);rw[Nd.cv,hk]at hC;simp only[c89,go_sem,hpF,fRow,Ja,hg,Nd.cv,hk,Ga]
  repeat refine anO ?_
  refine KF hC (.inl rfl) rfl rfl rfl (by simp only[CV.closed,Jl,Bg,Gt]) ?_;simp only[go_sem];exact .out (wk.refl _) (by simp only[CV.closed,Jl,Bg,Gt])
end
theorem Jd2(g:GoodT t o)(hi:i<t.nodes.length):gvn got ((nd t i).kids.drop n)=YK ((Gm ((nd t i).kids.length-n)).map λj=>KK t got i (n+j)):=by
 unfold gvn
 congr 1
 refine GM sM λj h1 h2=>?_
 simp only[List.length_map,G7]at h1;simp only[GL,List.getElem_drop,GI];have h3:=XV g (got:=got) hi (j:=n+j) om (JE g hi om);have h4:(nd t i).kids[n+j]=(nd t i).kids.getD (n+j) 0:=by rw[Gb,Gx om];rfl
 rw[h3,h4,JE g hi om]
section
variable(g:GoodT K.t o)(ht:K.t.Fit)
include g ht
theorem part1(hi:i<K.t.nodes.length)(hk:30<=(nd K.t i).k/\(nd K.t i).k≠41)(hl:Z.got.length=K.t.nodes.length)(hf:∀j,Qf (Jt Z.got j)=true)(Bd:Ln Z.got)(Ba:K.of.length=K.t.nodes.length)(hm:(nd K.t i).k=44->K.of.getD i 0=(m:Int)/\m<K.t.nodes.length):Ans K Z 90 [.int .i64 (i:Int)] (Qh K.t m Z.got i):=by
 have Ag:=g.many;have hg:=JZ hi;have AL:(gz Z.got).length=K.t.nodes.length:=by rw[QH,hl]
 have Af:(iz (nd K.t i).kids).length=(nd K.t i).kids.length:=Jf;have Bh:=(JbR ht hi).kidn;have Ca:=Ym g hi;have hK:∀j,j<(nd K.t i).kids.length->∃c:Nat,(iz (nd K.t i).kids).getD j []=[.int .i64 (c:Int)]/\c<K.t.nodes.length/\KK K.t Z.got i j=Jt Z.got c/\Ju K.t i j=c:=λj hj=>by have h1:=Jz g hi (i:=j) hj;exact⟨Ju K.t i j,by rw[JF hj,JE g hi hj],om,by rw[XV g hi hj (JE g hi hj),Gl],rfl⟩
 have Mf:∀k∈(nd K.t i).kids,0<=k/\k<K.t.nodes.length:=λk hk=>by have:=g.kid hi hk;omega
 by_cases Eo:(nd K.t i).k=40
 ·obtain⟨n,n1,n2,_⟩:=Jgq g hi Eo;change (nd K.t i).n=n at n1;change n<=(nd K.t i).kids.length at n2;obtain⟨x,Bg,Bf,hC⟩:=fmGiven (K:=K) (Z:=Z) (ks:=(nd K.t i).kids.drop n) hl (λk hk=>Mf k (List.mem_of_mem_drop hk)) (by rw[G7];omega);have Be:(iz ((nd K.t i).kids.drop n)).take ((nd K.t i).kids.length-n)=iz ((nd K.t i).kids.drop n):=GY (by rw[Jf,G7];omega);have hr:Qh K.t m Z.got i=gvn Z.got ((nd K.t i).kids.drop n):=by rw[JV,Eo,rk_block,Jd2 g hi,n1,Gl]
  rw[hr];refine⟨x,Bg,Bf,?_⟩;refine Ki (vfS c90_ok λN=>?_);simp only[c90,go_sem,hpF,fRow,Ja,hg,Nd.cv,Eo,n1,Ga,Af,JhJ,Be]
  repeat refine And.intro (by first|omega|exact⟨om,om⟩|exact⟨om,om,om⟩) ?_
  refine KF hC (.inl rfl) rfl rfl rfl (by simp only[CV.closed,Jl,Bg,Gt]) ?_;simp only[go_sem];exact .out (wk.refl _) (by simp only[CV.closed,Jl,Bg,Gt])
 by_cases bI:(nd K.t i).k=45
 ·obtain⟨x,Bg,Bf,hC⟩:=fmGiven (K:=K) (Z:=Z) (ks:=(nd K.t i).kids) hl Mf om;have hr:Qh K.t m Z.got i=gvn Z.got (nd K.t i).kids:=by have:=Jd2 g (got:=Z.got) (n:=0) hi;rw[Gq]at this;rw[JV,bI,rk_give,this];simp only[GX,Gr]
  rw[hr];refine⟨x,Bg,Bf,?_⟩;refine Ki (vfS c90_ok λN=>?_);simp only[c90,go_sem,hpF,fRow,Ja,hg,Nd.cv,bI,Ga]
  repeat refine anO ?_
  refine KF hC (.inl rfl) rfl rfl rfl (by simp only[CV.closed,Jl,Bg,Gt]) ?_;simp only[go_sem];exact .out (wk.refl _) (by simp only[CV.closed,Jl,Bg,Gt])
 by_cases BZ:(nd K.t i).k=42
 ·have hB:=fmBare (K:=K) (Z:=Z) hi;by_cases hn:(nd K.t i).kids=[]
  ·rw[hn]at hB;refine Ans.of (b:=true) (l:=[]) (txV []) (by rw[JV,BZ,Jc2,if_pos hn];rfl) rfl (λ_=>rfl) ?_;refine Ki (vfS c90_ok λN=>?_);simp only[c90,go_sem,hpF,fRow,Ja,hg,Nd.cv,BZ,Ga]
   repeat refine anO ?_
   refine KF hB (.inl rfl) rfl rfl rfl rfl ?_;simp only[go_sem,Hg];exact .out (Jac ⟨wk.nils,wk.refl _,trivial⟩) rfl
  ·obtain⟨q1,q2,q3,q4⟩:=Ca (.inr (.inr ⟨BZ,hn⟩));obtain⟨a,a1,a2,a3,a4⟩:=hK 0 q1;rw[a4]at q3 q4;have Ai:(nd K.t i).kids.isEmpty=false:=by cases h:(nd K.t i).kids <;> simp_all
   rw[Ai]at hB;refine Ans.of (b:=true) (l:=[tyN K.t a]) (txV [tyN K.t a]) (by rw[JV,BZ,Jc2,if_neg hn,a4];rfl) rfl (λ_=>rfl) ?_;refine Ki (vfS c90_ok λN=>?_);simp only[c90,go_sem,hpF,fRow,Ja,hg,Nd.cv,BZ,Ga]
   repeat refine anO ?_
   refine KF hB (.inl rfl) rfl rfl rfl rfl ?_;simp only[go_sem,Af,a1];refine anO ?_;refine KF (XK g a a2 q3 q4) (.inl rfl) rfl rfl rfl rfl ?_;simp only[go_sem,hpF];exact .one 1 rfl rfl rfl (wk.refl _)
 by_cases Ea:(nd K.t i).k=64
 ·obtain⟨q1,q2,q3,q4⟩:=Ca (.inr (.inl om));obtain⟨a,a1,a2,a3,a4⟩:=hK 0 q1;rw[a4]at q3 q4;refine Ans.of (b:=true) (l:=[tyN K.t a]) (txV [tyN K.t a]) (by rw[JV,Ea,rk_param,a4];rfl) rfl (λ_=>rfl) ?_;refine Ki (vfS c90_ok λN=>?_);simp only[c90,go_sem,hpF,fRow,Ja,hg,Nd.cv,Ea,Ga,Af,a1]
  repeat refine anO ?_
  refine KF (XK g a a2 q3 q4) (.inl rfl) rfl rfl rfl rfl ?_;simp only[go_sem,hpF];exact .one 1 rfl rfl rfl (wk.refl _)
 by_cases BR:(nd K.t i).k=43
 ·have h1:=Xt g hi (.inr (.inl BR));obtain⟨a,a1,a2,a3,a4⟩:=hK 0 om;refine Ans.of (.rslc 1 [[S (opT (Ku (Jt Z.got a)))]] none) (by rw[JV,BR,rk_init,a3]) rfl (λh=>?_) ?_
  ·cases ho:Ku (Jt Z.got a) with
   |none=>rw[ho]at h;cases h
   |some e=>rfl
  refine Ki (vfS c90_ok λN=>?_);simp only[c90,go_sem,hpF,fRow,Ja,hg,Nd.cv,BR,Ga,Af,a1]
  repeat refine anO ?_
  refine KF (fmOne (Z:=Z) a2 hl) (.inl rfl) rfl rfl rfl rfl ?_;simp only[go_sem,hpF];exact .one 1 rfl rfl rfl (wk.refl _)
 by_cases BB:(nd K.t i).k=44
 ·have h1:=Xt g hi (.inr (.inr (.inl BB)));obtain⟨a,a1,a2,a3,a4⟩:=hK 0 om;obtain⟨m1,m2⟩:=hm BB;have OB:(iz K.of).getD i []=[.int .i64 (m:Int)]:=by rw[JF om,m1]
  have Bj:(iz K.of).length=K.t.nodes.length:=by rw[Jf,Ba]
  have hA:=fmAre (K:=K) (Z:=Z) (w:=opT (Ku (Jt Z.got m))) (ks:=[(a:Int)]) hl (by simp;omega) sM;have hb:areB Z.got (opT (Ku (Jt Z.got m))) [(a:Int)]=((Ku (Jt Z.got m)).isSome && Jt Z.got a == [(Ku (Jt Z.got m)).getD .int]):=by
   cases Ku (Jt Z.got m) with
   |none=>rw[show opT none=[] from rfl,are_none];rfl
   |some e=>rw[show opT (some e)=tyT e from rfl,JaI,Gl];rfl
  rw[hb]at hA;refine Ans.of (l:=[]) (txV []) (by rw[JV,BB,rk_next,a3]) rfl (λ_=>rfl) ?_;refine Ki (vfS c90_ok λN=>?_);simp only[c90,go_sem,hpF,fRow,Ja,hg,Nd.cv,BB,Ga,OB,Bj]
  repeat refine anO ?_
  refine KF (fmOne (Z:=Z) m2 hl) (.inl rfl) rfl rfl rfl rfl ?_;simp only[go_sem,hpF,Af,a1];refine anO ?_;refine JcS (K:=K) (Z:=Z) 1 rfl rfl rfl ?_;simp only[go_sem,JM,frz,Gi,Gj,Kn,Gd,Gc,hpF,Nat.reduceAdd,GD,Gr,Gu,Gq,List.take_succ_cons,GQ,Gf,Gg];refine KF hA (.inl rfl) rfl rfl rfl rfl ?_;simp only[go_sem,hpF];exact .out (Jac ⟨wk.nils,wk.refl _,trivial⟩) rfl
 by_cases CE:(nd K.t i).k=47
 ·refine Ans.of (b:=true) (l:=[.int]) (txV [.int]) (by rw[JV,CE];rfl) rfl (λ_=>rfl) ?_;refine Ki (vfS c90_ok λN=>?_);simp only[c90,go_sem,hpF,fRow,Ja,hg,Nd.cv,CE,Ga]
  repeat refine anO ?_
  exact .one 1 rfl rfl rfl (wk.refl _)
 by_cases BA:(nd K.t i).k=65
 ·have Bw:=def_res g hi BA;obtain⟨a,a1,a2,a3,a4⟩:=hK ((nd K.t i).kids.length-1) om;have CX:=Qc (l:=Z.got) (i:=a) om;have CG:=sig_len ht i;have fJ:∀x∈XU K.t i,(tyT x).length<=100000:=λx hx=>by unfold XU at hx;obtain⟨j,hj,rfl⟩:=GR.1 hx;have hj:=GA.1 hj;have hm:=Jz g hi (i:=(nd K.t i).n.toNat+j) om;have:=XW (t:=K.t) (i:=Ju K.t i ((nd K.t i).n.toNat+j)) om;omega
  have hG:=typGreat (XU K.t i) om fJ;have hE:=equalTx (Jt Z.got a) (XU K.t i) (by have:=Bd a;omega);have hb:(Qf (XU K.t i) && Jt Z.got a == XU K.t i)=(Jt Z.got a == XU K.t i):=by
   cases he:(Jt Z.got a == XU K.t i) with
   |false=>rw[Bool.and_false]
   |true=>rw[<-eq_of_beq he,hf a];rfl
  refine Ans.of (b:=Qf (XU K.t i) && Jt Z.got a == XU K.t i) (l:=[]) (txV []) (by rw[JV,BA,rk_def,a3,hb]) rfl (λ_=>rfl) ?_;refine Ki (vfS c90_ok λN=>?_);simp only[c90,go_sem,hpF,fRow,Ja,hg,Nd.cv,BA,Ga]
  repeat refine anO ?_
  refine KF (fmSign g ht hi BA) (.inl rfl) rfl rfl rfl rfl ?_;simp only[go_sem,hpF,fRow];refine JJ [0,0,0,0,0,0,0,1,0,0,0,0,0,0,1,1,0,0,0,0,0] Jm vM ?_;simp only[go_sem];refine JdL (.inl rfl) hG ?_
  cases iw:Qf (XU K.t i) with
  |false=>simp only[go_sem,GU];exact .out (Jac ⟨wk.nils,wk.refl _,trivial⟩) rfl
  |true=>
   simp only[go_sem,Gy,Af,a1,CX,AL]
   repeat refine And.intro (by first|omega|exact⟨om,om⟩|exact Jg) ?_
   refine JdL (gok rfl) hE ?_;simp only[go_sem];exact .out (Jac ⟨wk.nils,wk.refl _,trivial⟩) rfl
 ·refine Ans.of (b:=true) (l:=[]) (txV []) (by rw[JV,rk_else om om];rfl) rfl (λ_=>rfl) ?_;have kk:∀q:Nat,(nd K.t i).k≠q->(((nd K.t i).k:Int) == (q:Int))=false:=λq h=>kb h
  have e40:=kk 40 Eo;have e45:=kk 45 bI;have e41:=kk 41 hk.2;have e42:=kk 42 BZ;have e64:=kk 64 Ea;have e43:=kk 43 BR;have e44:=kk 44 BB;have e47:=kk 47 CE;have e65:=kk 65 BA;simp only[Ga]at e40 e45 e41 e42 e64 e43 e44 e47 e65;refine Ki (vfS c90_ok λN=>?_);simp only[c90,go_sem,hpF,fRow,Ja,hg,Nd.cv,e40,e45,e41,e42,e64,e43,e44,e47,e65]
  repeat refine anO ?_
  exact .out (Jac ⟨wk.nils,wk.refl _,trivial⟩) rfl
end
section
variable{l:LB}{bs:Lx}
theorem five {α:Type}{H:List α}{a b c d e:α}(h0:H[0]? = some a)(h1:H[1]? = some b)(h2:H[2]? = some c)(h3:H[3]? = some d)(h4:H[4]? = some e):∃X,H=a::b::c::d::e::X:=by
 match H,h0,h1,h2,h3,h4 with
 |a'::b'::c'::d'::e'::X,h0,h1,h2,h3,h4=>simp at h0 h1 h2 h3 h4;exact⟨X,by rw[h0,h1,h2,h3,h4]⟩
theorem vy_me {d:Option Nat}{ge:Option (Nat×Bool)}{ags:LK}{args:Ls}(hM:FMe P f args K Z Z res)(hg:GOk T ge)(ha:ags.map (Kb T)=.ptr 0 0 0::args)(hH:H=hpF K Z X)(hc:Jl args=true)(hr:res.closed=true)(h:vdy P E n0 N Q k l bs (put T d res) H):vdyR P E n0 N Q none d (.call f ags) ge 4 k l bs T H:=by
 refine⟨res,H,?_,h⟩;show HS P E _ T H res H (.on [1,2,3,4,5],.on []);subst hH;refine⟨λ_ _=>rfl,λT2 H2 ag hx=>?_⟩;have DU:∀i,i<5->H2[i]? = (hpF K Z X)[i]?:=λi hi=>by have:=hx (i+1) (by simp only[Foot.has,G9,G6,or_false];omega);simpa [hat]using this
 obtain⟨X2,rfl⟩:=five (DU 0 vk) (DU 1 vk) (DU 2 vk) (DU 3 vk) (DU 4 vk);have e2:ags.map (Kb T)=ags.map (Kb T2):=Xe (Jj ag).2;refine⟨_,λy hy=>(by cases hy),λ_ _=>rfl,λn0 N Q k l Ao=>Jda (Ya ag hg) (by rw[<-e2,ha];exact hM.on (X:=X2) hc hr) ?_⟩;rintro v' H' ⟨rfl,rfl⟩;exact Ao
end
section
theorem fmFail:FMe Gs 55 [.int .i64 (i:Int)] K Z (Z.fail i) (.tup []):=by
 obtain⟨got,dn,fd,fg,bad⟩:=Z;refine Ki (Ke c55_ok λN=>?_)
 cases bad with
 |none=>
  simp only[c55,go_sem,hpF,fRow,Gv,Gw,Gf,Gg]
  repeat refine anO ?_
  exact .done (wk.refl _)
 |some b=>simp only[c55,go_sem,hpF,fRow,Gn,Gp];exact .done (wk.refl _)
variable(g:GoodT K.t o)(ht:K.t.Fit)
include g ht
theorem fmSettle {s:Nat}(hs:s<K.t.nodes.length)(hk:(nd K.t s).k=41)(hl:Z.got.length=K.t.nodes.length)(Bd:Ln Z.got):FMe Gs 183 [.int .i64 (s:Int)] K Z (JS K.t s Z) (.tup []):=by
 have Ag:=g.many;have hg:=JZ hs;have AL:(gz Z.got).length=K.t.nodes.length:=by rw[QH,hl]
 have Bh:=(JbR ht hs).kidn;obtain⟨n,n1,n2,n3,n4⟩:=Yp g hs hk;change (nd K.t s).n=n at n1;change (nd K.t s).kids.length=n+1 at n2;have hE:=fmExpr g ht (Z:=Z) hs hk;obtain⟨_,_,_,hL⟩:=KV g hs hk;have CX:=Qc (l:=Z.got) (i:=Ji K.t s) om;have aZ:=Bd (Ji K.t s);refine Ki (vfS c183_ok λN=>?_);simp only[c183,go_sem,hpF,fRow];refine JJ [0,0,0,0,4,0,0,0,0,0,0,4,0,0,4,4,4,1005,2005,0] Jm vM ?_;simp only[go_sem,Ja,hg,Nd.cv,n1]
 repeat refine And.intro (by first|omega|exact⟨om,om⟩|(simp;done)) ?_
 refine vy_me hE (.inl rfl) rfl rfl rfl rfl ?_;simp only[go_sem,CX,AL,yexecN (show 1000<=1005 by decide)]
 repeat refine And.intro (by first|omega|exact⟨om,om⟩|(simp;done)) ?_
 refine vy_new 5 (c:=.tt) (λid=>.ptr id 0 0) (.arr 5 [[.int .u8 0,S [],.int .i64 0,.nils,.int .i64 0]]) (.inl rfl) rfl (λH2=>rfl) trivial vk ?_;simp only[go_sem,yexecN (show 1000<=2005 by decide)];refine vy_set 5 (c:=.and (.le 1 1) (.le 5 5)) (v:=.un) (.arr 5 [ndA (nd K.t s) n]) (.inl rfl) (λH2 h=>?_) ⟨Gu _,Gu _⟩ sM ?_
 ·simp only[List.getElem?_cons_succ,List.getElem?_cons_zero]at h;simp only[exec,go_sem,h];rfl
 have Bn:(txz (Jt Z.got (Ji K.t s))).length=(Jt Z.got (Ji K.t s)).length:=K8;by_cases Ad:(Jt Z.got (Ji K.t s)).length=n
 case neg=>
  have hS:JS K.t s Z=Z.fail s:=by unfold JS;simp only;rw[if_neg (by rw[n1,Gl];exact Ad)]
  have d1:(((Jt Z.got (Ji K.t s)).length:Int) != (n:Int))=true:=by simp;omega
  rw[hS];simp only[go_sem,txV,Bn,d1,ndA];refine KF (fmFail (Z:=Z)) (.inl rfl) rfl rfl rfl rfl ?_;simp only[go_sem];exact .out (wk.refl _) rfl
 have hS:JS K.t s Z = { Z with got:=Yg K.t s (Jt Z.got (Ji K.t s)) Z.got n,fd:=Y7 s true Z.fd }:=by unfold JS;simp only;rw[n1,Gl,if_pos Ad]
 rw[hS];clear hS;generalize Jt Z.got (Ji K.t s)=l at *;have d1:((l.length:Int) != (n:Int))=false:=by simp[Ad]
 have Af:(iz ((nd K.t s).kids.take n)).length=n:=by rw[Jf,GK];omega
 simp only[go_sem,txV,Bn,d1,ndA,Jek,GX,Af]
 repeat refine And.intro (by first|omega|exact⟨om,om⟩|exact⟨om,om,om⟩|(simp[Jf];omega)) ?_
 have Cv:∀j,(Yg K.t s l Z.got j).length=K.t.nodes.length:=λj=>by rw[Yr];exact hl
 refine Jr (I:=λj:Nat=>j<=n) (inv:=λj=>mkT 64 [(0,.ptr 0 0 0),(1,.int .i64 (s:Int)),(5,txV l),(37,.rslc 1 (iz ((nd K.t s).kids.take n)) none),(38,.int .i64 (n:Int)),(39,.int .i64 (j:Int))]) (hp:=λj=>hpF K { Z with got:=Yg K.t s l Z.got j } []) (μ:=λj=>n-j) 0 [0,1,2,3,4] om rfl ?_ ?_ ?_
 ·simp only[JR,Gi,Gj,ren,Jk];refine Js ?_;simp[Kh,Ko,txV]
 ·exact Qn (K:=K) (Z:=Z) (X:=[.arr 5 [ndA (nd K.t s) n]]) rfl
 ·intro j hj;by_cases Ab:j<n
  ·have d2:=dtT j n;have hc:=JE g hs (j:=j) om;have hm:=Jz g hs (i:=j) om;have Bq:(iz ((nd K.t s).kids.take n)).getD j []=[.int .i64 (Ju K.t s j:Int)]:=by rw[JF (by rw[GK];omega),Gb,Hd Ab,<-Gb,hc]
   have hB:=fmBare (K:=K) (Z:={ Z with got:=Yg K.t s l Z.got j }) (i:=Ju K.t s j) om;have Dk:Yg K.t s l Z.got (j+1)=if (nd K.t (Ju K.t s j)).kids=[] then(Yg K.t s l Z.got j).set (Ju K.t s j) [l.getD j .int] else Yg K.t s l Z.got j:=rfl
   simp only[go_sem,hpF,fRow,d2,Bq,Af]
   repeat refine anO ?_
   refine KF hB (.inl rfl) rfl rfl rfl rfl ?_;by_cases he:(nd K.t (Ju K.t s j)).kids=[]
   ·rw[if_pos he]at Dk;have Dz:=Qc (l:=Yg K.t s l Z.got j) (i:=Ju K.t s j) (by rw[Cv];omega);have OV:(gz (Yg K.t s l Z.got j)).length=K.t.nodes.length:=by rw[QH,Cv]
    have Df:(gz (Yg K.t s l Z.got j)).set (Ju K.t s j) [.rslc 1 (txz [l.getD j .int]) none]=gz (Yg K.t s l Z.got (j+1)):=by rw[Dk];exact gz_set
    have CG:((txz l).drop j).take (((j:Int)+1).toNat-j)=txz [l.getD j .int]:=by rw[show ((j:Int)+1).toNat-j=1 by omega];rw[List.drop_eq_getElem_cons (by rw[Bn];omega)];simp[txz,Gb,Gx (show j<l.length by omega)]
    simp only[go_sem,hpF,fRow,he,Hg];refine JJ [0,0,0,1,0,0,0,0,0,0,1,2] Jm vM ?_;simp only[go_sem,txV,Bn,OV,Dz,CG,Df,splice,Gf,Gg,GQ,GZ,Gq,Hq]
    repeat refine And.intro (by first|omega|exact⟨om,om⟩|exact⟨om,om,om⟩|exact Jg) ?_
    refine⟨j+1,[0,1,2,3,4],om,om,rfl,?_,?_⟩
    ·exact Qn (K:=K) (Z:={ Z with got:=Yg K.t s l Z.got (j+1) }) (X:=[]) rfl
    ·simp only[ren,Jk];refine Js ?_;simp[Kh,Ko]
   ·rw[if_neg he]at Dk;have Ai:(nd K.t (Ju K.t s j)).kids.isEmpty=false:=by cases h:(nd K.t (Ju K.t s j)).kids <;> simp_all
    simp only[go_sem,hpF,fRow,Ai,txV];refine⟨Jg,j+1,[0,1,2,3,4],om,om,rfl,?_,?_⟩
    ·rw[Dk];exact Qn (K:=K) (Z:={ Z with got:=Yg K.t s l Z.got j }) (X:=[]) rfl
    ·simp only[ren,Jk];refine Js ?_;simp[Kh,Ko]
  ·have d2:=dfF j n;obtain rfl:j=n:=om
   rcases Jay (k:=s) Z.fd 0 with ⟨h1,_,h3⟩|⟨q,h1,h3⟩
   ·simp only[go_sem,hpF,fRow,d2,h1,h3];exact .done (wk.refl _)
   ·rw[Gr]at h1;simp only[go_sem,hpF,fRow,d2,h1,h3];exact .done (wk.refl _)
omit ht in
theorem setF_ok (hI:FI K.t Z){s:Nat}(hs:s<K.t.nodes.length)(hk:(nd K.t s).k=41):FI K.t (JaN K.t s Z)/\((JaN K.t s Z).bad=none->(Jt (JaN K.t s Z).got (Ji K.t s)).length=nB K.t s):=by
 unfold JaN
 split
 ·rename_i hf;exact⟨hI,λ_=>(hI.fnd s hf).2.2.1⟩
 ·obtain⟨h1,_,h3,_⟩:=Jc0 g hI hs hk;exact⟨h1,λhb=>(h1.fnd s (h3 hb)).2.2.1⟩
omit g ht in
theorem setF_ln {s:Nat}(h:Ln Z.got):Ln (JaN K.t s Z).got:=by
 unfold JaN;split
 ·exact h
 ·exact Jci h
def agr1 (t:Tr)(s:Nat)(l:TL)(k:Nat):Bool:=(nd t (Ju t s k)).kids.isEmpty || tyN t (Ju t (Ju t s k) 0) == l.getD k .int
theorem fmSet {s:Nat}(hI:FI K.t Z)(Bd:Ln Z.got)(hs:s<K.t.nodes.length)(hk:(nd K.t s).k=41):FMe Gs 145 [.int .i64 (s:Int)] K Z (JaN K.t s Z) (.bool (!(JaN K.t s Z).bad.isSome && Yf K.t s (Jt (JaN K.t s Z).got (Ji K.t s)))):=by
 have Ag:=g.many;have hg:=JZ hs;have Bh:=(JbR ht hs).kidn;obtain⟨n,n1,n2,n3,n4⟩:=Yp g hs hk;change (nd K.t s).n=n at n1;change (nd K.t s).kids.length=n+1 at n2;obtain⟨b1,b2,_,hL⟩:=KV g hs hk;have Pm:nB K.t s=n:=om
 obtain⟨O6,Ad⟩:=setF_ok g hI hs hk;have MG:=fmSettle g ht (Z:=Z) hs hk hI.gl Bd;refine Ki (vfS c145_ok λN=>?_);have CQ:∀l,Yf K.t s l=(Gm n).all λk=>agr1 K.t s l k:=λl=>by unfold Yf agr1;rw[n1,Gl]
 rw[CQ];have Bz:∀j,j<n->∃c:Nat,(iz ((nd K.t s).kids.take n)).getD j []=[.int .i64 (c:Int)]/\c<K.t.nodes.length/\Ju K.t s j=c/\(nd K.t c).k=42:=λj hj=>by have hm:=b2 j om;refine⟨Ju K.t s j,?_,om,rfl,hm.1⟩;rw[JF (by rw[GK];omega),Gb,Hd hj,<-Gb,JE g hs om]
 have Af:(iz ((nd K.t s).kids.take n)).length=n:=by rw[Jf,GK];omega
 have MH:=setF_ln (K:=K) (s:=s) Bd
 cases hb:Kz Z.fd s with
 |false=>
  have e:JaN K.t s Z=JS K.t s Z:=by unfold JaN;rw[hb];rfl
  rw[<-e]at MG;rcases Jay (k:=s) Z.fd 0 with ⟨h1,_,_⟩|⟨q,h1,_⟩
  case' inr=>rw[hb]at h1
  all_goals
   simp only[c145,go_sem,hpF,fRow,h1];refine KF MG (.inl rfl) rfl rfl rfl rfl ?_;clear MG e;generalize JaN K.t s Z=Z1 at *;obtain⟨got1,dn1,fd1,fg1,bad1⟩:=Z1;have hE:=fmExpr g ht (Z:=⟨got1,dn1,fd1,fg1,bad1⟩) hs hk;have hB:=λ(c:Nat) (hc:c<K.t.nodes.length)=>fmBare (K:=K) (Z:=⟨got1,dn1,fd1,fg1,bad1⟩) (i:=c) hc
   have hW:=λ(c:Nat) h1 h2 h3=>XK (Z:=⟨got1,dn1,fd1,fg1,bad1⟩) g c h1 h2 h3
   have EX:=O6.gl
   dsimp only at Ad MH EX
   cases bad1 with
   |some b=>simp only[go_sem,hpF,fRow,Gn,Gp,Hy,GU];exact .done (wk.refl _)
   |none=>
    have Fp:=Ad rfl;have AL:(gz got1).length=K.t.nodes.length:=by rw[QH,EX]
    have CX:=Qc (l:=got1) (i:=Ji K.t s) (by rw[EX];omega);generalize Jt got1 (Ji K.t s)=l at *;have Bn:(txz l).length=n:=by rw[K8,Fp,Pm]
    simp only[go_sem,hpF,fRow,Gv,Gw,Ha,Gy,Ja,hg,Nd.cv,n1,Gf,Gg,splice,GQ,GZ,Gq,Hq,Hr]
    repeat refine And.intro (by first|omega|exact⟨om,om⟩|(simp;done)) ?_
    refine JJ [0,0,0,4,0,0,4,4,4,0] Jm vM ?_;simp only[go_sem];refine vy_me hE (.inl rfl) rfl rfl rfl rfl ?_;simp only[go_sem,CX,AL,txV,Jek,GX,Af]
    repeat refine And.intro (by first|omega|exact⟨om,om⟩|exact⟨om,om,om⟩|(simp[Jf];omega)) ?_
    refine Jr (I:=λj:Nat=>j<=n/\(Gm j).all (λk=>agr1 K.t s l k)=true) (inv:=λj=>mkT 76 [(0,.ptr 0 0 0),(6,txV l),(44,.rslc 1 (iz ((nd K.t s).kids.take n)) none),(45,.int .i64 (n:Int)),(46,.int .i64 (j:Int))]) (hp:=λj=>hpF K ⟨got1,dn1,fd1,fg1,none⟩ []) (μ:=λj=>n-j) 0 [0,1,2,3,4] ⟨om,rfl⟩ rfl ?_ ?_ ?_
    ·simp only[JR,Gi,Gj,ren,Jk];refine Js ?_;simp[Kh,Ko,txV]
    ·exact Qn (K:=K) (Z:=⟨got1,dn1,fd1,fg1,none⟩) (X:=[.arr 5 [ndA (nd K.t s) n]]) rfl
    ·rintro j ⟨hj,BH⟩;by_cases Ab:j<n
     ·have d2:=dtT j n;obtain⟨c,c1,c2,c3,c4⟩:=Bz j Ab;have D5:=JZ c2;have UQ:=Yi (l:=l) (i:=j) om;have BD:(Gm (j+1)).all (λk=>agr1 K.t s l k)=((nd K.t c).kids.isEmpty || tyN K.t (Ju K.t c 0) == l.getD j .int):=by rw[G8,Ht,BH,Gy,Hu,Hw,Gt];unfold agr1;rw[c3]
      have BU:∀b,(Gm (j+1)).all (λk=>agr1 K.t s l k)=b->b=false->(Gm n).all (λk=>agr1 K.t s l k)=false:=λb h1 h2=>by subst h2;obtain⟨x,hx,UG⟩:=GJ.1 h1;exact GJ.2 ⟨x,GA.2 (by have:=GA.1 hx;omega),UG⟩
      simp only[go_sem,hpF,fRow,d2,c1,Af]
      repeat refine anO ?_
      refine JJ [0,0,4,0,0,0,0,0,0,0,4,0,0,0,0,0,0,4,0,0,0,0,0,0] Jm vM ?_;simp only[go_sem];refine vy_me (hB c c2) (.inl rfl) rfl rfl rfl rfl ?_;by_cases he:(nd K.t c).kids=[]
      ·have F4:(nd K.t c).kids.isEmpty=true:=by rw[he];rfl
       rw[F4,HV]at BD;simp only[go_sem,F4,txV];refine⟨Jg,j+1,[0,1,2,3,4],⟨om,BD⟩,om,rfl,?_,?_⟩
       ·exact Qn (K:=K) (Z:=⟨got1,dn1,fd1,fg1,none⟩) (X:=[]) rfl
       ·simp only[ren,Jk];refine Js ?_;simp[Kh,Ko]
      ·have F4:(nd K.t c).kids.isEmpty=false:=by cases h:(nd K.t c).kids <;> simp_all
       obtain⟨q1,q2,q3,q4⟩:=Ym g c2 (.inr (.inr ⟨c4,he⟩));have DY:=JE g c2 (j:=0) q1;have Fu:=JF (l:=(nd K.t c).kids) (i:=0) q1;rw[DY]at Fu;have Aw:(iz (nd K.t c).kids).length=(nd K.t c).kids.length:=Jf;rw[F4,Hz]at BD;simp only[go_sem,F4,Ja,D5,Nd.cv,Aw,Fu]
       repeat refine And.intro (by first|omega|exact⟨om,om⟩|exact GV rfl) ?_
       refine vy_me (hW (Ju K.t c 0) om q3 q4) (gok rfl) rfl rfl rfl rfl ?_;simp only[go_sem,txV,Bn,UQ,JfF]
       repeat refine anO ?_
       cases hx:(tyN K.t (Ju K.t c 0) == l.getD j .int) with
       |true=>
        rw[hx]at BD;simp only[go_sem];refine⟨Jg,j+1,[0,1,2,3,4],⟨om,BD⟩,om,rfl,?_,?_⟩
        ·exact Qn (K:=K) (Z:=⟨got1,dn1,fd1,fg1,none⟩) (X:=[]) rfl
        ·simp only[ren,Jk];refine Js ?_;simp[Kh,Ko]
       |false=>rw[hx]at BD;rw[BU _ BD rfl];simp only[go_sem];exact .done (wk.refl _)
     ·have d2:=dfF j n;obtain rfl:j=n:=om
      rw[BH];simp only[go_sem,hpF,fRow,d2];exact .done (wk.refl _)
 |true=>
  have e:JaN K.t s Z=Z:=by unfold JaN;rw[hb];rfl
  rw[e]at O6 Ad MH|-;clear MG;rcases Jay (k:=s) Z.fd 0 with ⟨_,h2,_⟩|⟨q,h1,_⟩
  ·rw[hb]at h2;cases h2
  rw[hb]at h1;simp only[c145,go_sem,hpF,fRow,h1]
  rename FS=>Z1
  obtain⟨got1,dn1,fd1,fg1,bad1⟩:=Z1;have hE:=fmExpr g ht (Z:=⟨got1,dn1,fd1,fg1,bad1⟩) hs hk;have hB:=λ(c:Nat) (hc:c<K.t.nodes.length)=>fmBare (K:=K) (Z:=⟨got1,dn1,fd1,fg1,bad1⟩) (i:=c) hc
  have hW:=λ(c:Nat) h1 h2 h3=>XK (Z:=⟨got1,dn1,fd1,fg1,bad1⟩) g c h1 h2 h3
  have EX:=O6.gl
  dsimp only at Ad MH EX
  cases bad1 with
  |some b=>simp only[go_sem,Gn,Gp,Hy,GU];exact .done (wk.refl _)
  |none=>
   have Fp:=Ad rfl;have AL:(gz got1).length=K.t.nodes.length:=by rw[QH,EX]
   have CX:=Qc (l:=got1) (i:=Ji K.t s) (by rw[EX];omega);generalize Jt got1 (Ji K.t s)=l at *;have Bn:(txz l).length=n:=by rw[K8,Fp,Pm]
   simp only[go_sem,Gv,Gw,Ha,Gy,Ja,hg,Nd.cv,n1,Gf,Gg,GQ,GZ,Gq,Hr]
   repeat refine And.intro (by first|omega|exact⟨om,om⟩|(simp;done)) ?_
   refine JJ [0,0,0,4,0,0,4,4,4,0] Jm vM ?_;simp only[go_sem];refine vy_me hE (.inl rfl) rfl rfl rfl rfl ?_;simp only[go_sem,CX,AL,txV,Jek,GX,Af]
   repeat refine And.intro (by first|omega|exact⟨om,om⟩|exact⟨om,om,om⟩|(simp[Jf];omega)) ?_
   refine Jr (I:=λj:Nat=>j<=n/\(Gm j).all (λk=>agr1 K.t s l k)=true) (inv:=λj=>mkT 76 [(0,.ptr 0 0 0),(6,txV l),(44,.rslc 1 (iz ((nd K.t s).kids.take n)) none),(45,.int .i64 (n:Int)),(46,.int .i64 (j:Int))]) (hp:=λj=>hpF K ⟨got1,dn1,fd1,fg1,none⟩ []) (μ:=λj=>n-j) 0 [0,1,2,3,4] ⟨om,rfl⟩ rfl ?_ ?_ ?_
   ·simp only[JR,Gi,Gj,ren,Jk];refine Js ?_;simp[Kh,Ko,txV]
   ·exact Qn (K:=K) (Z:=⟨got1,dn1,fd1,fg1,none⟩) (X:=[.arr 5 [ndA (nd K.t s) n]]) rfl
   ·rintro j ⟨hj,BH⟩;by_cases Ab:j<n
    ·have d2:=dtT j n;obtain⟨c,c1,c2,c3,c4⟩:=Bz j Ab;have D5:=JZ c2;have UQ:=Yi (l:=l) (i:=j) om;have BD:(Gm (j+1)).all (λk=>agr1 K.t s l k)=((nd K.t c).kids.isEmpty || tyN K.t (Ju K.t c 0) == l.getD j .int):=by rw[G8,Ht,BH,Gy,Hu,Hw,Gt];unfold agr1;rw[c3]
     have BU:∀b,(Gm (j+1)).all (λk=>agr1 K.t s l k)=b->b=false->(Gm n).all (λk=>agr1 K.t s l k)=false:=λb h1 h2=>by subst h2;obtain⟨x,hx,UG⟩:=GJ.1 h1;exact GJ.2 ⟨x,GA.2 (by have:=GA.1 hx;omega),UG⟩
     simp only[go_sem,hpF,fRow,d2,c1,Af]
     repeat refine anO ?_
     refine JJ [0,0,4,0,0,0,0,0,0,0,4,0,0,0,0,0,0,4,0,0,0,0,0,0] Jm vM ?_;simp only[go_sem];refine vy_me (hB c c2) (.inl rfl) rfl rfl rfl rfl ?_;by_cases he:(nd K.t c).kids=[]
     ·have F4:(nd K.t c).kids.isEmpty=true:=by rw[he];rfl
      rw[F4,HV]at BD;simp only[go_sem,F4,txV];refine⟨Jg,j+1,[0,1,2,3,4],⟨om,BD⟩,om,rfl,?_,?_⟩
      ·exact Qn (K:=K) (Z:=⟨got1,dn1,fd1,fg1,none⟩) (X:=[]) rfl
      ·simp only[ren,Jk];refine Js ?_;simp[Kh,Ko]
     ·have F4:(nd K.t c).kids.isEmpty=false:=by cases h:(nd K.t c).kids <;> simp_all
      obtain⟨q1,q2,q3,q4⟩:=Ym g c2 (.inr (.inr ⟨c4,he⟩));have DY:=JE g c2 (j:=0) q1;have Fu:=JF (l:=(nd K.t c).kids) (i:=0) q1;rw[DY]at Fu;have Aw:(iz (nd K.t c).kids).length=(nd K.t c).kids.length:=Jf;rw[F4,Hz]at BD;simp only[go_sem,F4,Ja,D5,Nd.cv,Aw,Fu]
      repeat refine And.intro (by first|omega|exact⟨om,om⟩|exact GV rfl) ?_
      refine vy_me (hW (Ju K.t c 0) om q3 q4) (gok rfl) rfl rfl rfl rfl ?_;simp only[go_sem,txV,Bn,UQ,JfF]
      repeat refine anO ?_
      cases hx:(tyN K.t (Ju K.t c 0) == l.getD j .int) with
      |true=>
       rw[hx]at BD;simp only[go_sem];refine⟨Jg,j+1,[0,1,2,3,4],⟨om,BD⟩,om,rfl,?_,?_⟩
       ·exact Qn (K:=K) (Z:=⟨got1,dn1,fd1,fg1,none⟩) (X:=[]) rfl
       ·simp only[ren,Jk];refine Js ?_;simp[Kh,Ko]
      |false=>rw[hx]at BD;rw[BU _ BD rfl];simp only[go_sem];exact .done (wk.refl _)
    ·have d2:=dfF j n;obtain rfl:j=n:=om
     rw[BH];simp only[go_sem,hpF,fRow,d2];exact .done (wk.refl _)
end
section
structure RS where
 got:List TL
 dn:LH
 fg:LH
 bad:Int
variable (t:Tr)(of:Lu)(R:RS)
def Qb (b:Int):Ls:=[.rslc 5 (ndz t.nodes) none,.rslc 1 (iz t.items) none,.rslc 1 (iz of) none,.slc 1 0 t.nodes.length (some t.nodes.length),.slc 2 0 t.nodes.length (some t.nodes.length),.slc 3 0 t.nodes.length (some t.nodes.length),.int .i64 b]
def hpR (X:Lt):Lt:=.arr 7 [Qb t of R.bad] :: .arr 1 (gz R.got) :: .arr 1 (bqz R.dn) :: .arr 1 (bqz R.fg)::X
variable {t of R}
theorem ren_hpR{ρ:Lx}:KD (0::1::2::3::ρ) (hpR t of R X)=hpR t of R (ρ.map λid=>Xk (0::1::2::3::ρ) ((hpR t of R X).getD id .dead)):=by
 have h1:Xk (0::1::2::3::ρ) (.arr 1 (gz R.got))=.arr 1 (gz R.got):=by rw[Jo,ren_gz]
 have h2:∀l,Xk (0::1::2::3::ρ) (.arr 1 (bqz l))=.arr 1 (bqz l):=λl=>by rw[Jo,ren_bqz]
 have h0:Xk (0::1::2::3::ρ) (.arr 7 [Qb t of R.bad])=.arr 7 [Qb t of R.bad]:=rfl;show [Xk _ (.arr 7 [Qb t of R.bad]),Xk _ (.arr 1 (gz R.got)),Xk _ (.arr 1 (bqz R.dn)),Xk _ (.arr 1 (bqz R.fg))]++_=_;rw[h0,h1,h2,h2];rfl
theorem frz_rRow{id:Nat}{b:Int}(h:4<=id):JM id z e (Qb t of b)=Qb t of b:=by
 have h1:¬1=id:=om
 have h2:¬2=id:=om
 have h3:¬3=id:=om
 simp only[Qb,JM,frz,if_neg h1,if_neg h2,if_neg h3]
theorem frz_hpR{id:Nat}:KA (id+4) z e (hpR t of R X)=hpR t of R ((X.map (Kn (id+4) z e)).set id .dead):=by have h0:=frz_rRow (t:=t) (of:=of) (id:=id+4) (z:=z) (e:=e) (b:=R.bad) om;simp only[hpR,KA,Gi,Gj,Kn,h0,JI (KP _),JI (Qt _),Gc]
theorem back_outR {σ:Lx}(hσ:σ=[0,1,2,3])(hH:H'.length=4):∀(X:Lt) (k:Nat),4<=k->Yw σ n k H' X=X
 |[],k,_=>by subst hσ;rw[Yw,List.drop_eq_nil_of_le (by simp[hH])];rfl
 |o::X,k,hk=>by
  have h:Jk k σ 0=none:=by subst hσ;simp only[Jk];rw[iN7,iN7,iN7,iN7]
  rw[Yw,h,back_outR hσ hH X (k+1) om]
theorem back_hpR {R':RS}:Yw [0,1,2,3] n 0 (hpR t of R' []) (hpR t of R X)=hpR t of R' X:=by
 have h1:=JbB (τ:=tau [0,1,2,3] n) (z:=1) (KP R'.got);have h2:=λl=>JbB (τ:=tau [0,1,2,3] n) (z:=1) (Qt l)
 have h0:moO (tau [0,1,2,3] n) (.arr 7 [Qb t of R'.bad])=.arr 7 [Qb t of R'.bad]:=rfl;show moO _ (.arr 7 [Qb t of R'.bad])::moO _ (.arr 1 (gz R'.got))::moO _ (.arr 1 (bqz R'.dn))::moO _ (.arr 1 (bqz R'.fg))::Yw [0,1,2,3] n 4 (hpR t of R' []) X=_;rw[h0,h1,h2,h2,back_outR rfl rfl X 4 (Gu _)];rfl
def RMe (P:Program)(f:Nat)(args:Ls)(t:Tr)(of:Lu)(R R':RS)(res:CV):Prop:=CallsC P Env.none f (.ptr 0 0 0::args) (hpR t of R []) λv H'=>v=res/\H'=hpR t of R' []
theorem RMe.on{args:Ls}{R':RS}(h:RMe P f args t of R R' res)(ha:Jl args=true)(hr:res.closed=true):CallsC P E f (.ptr 0 0 0::args) (hpR t of R X) λv H'=>v=res/\H'=hpR t of R' X:=by
 refine(CallsC.loc [0,1,2,3] h ?_ ?_ ?_).mono ?_
 ·show ren _ (.ptr 0 0 0)::JG _ args=_;rw[Q6 args ha];rfl
 ·rw[ren_hpR];rfl
 ·rfl
 ·rintro v H' ⟨v0,H0,⟨rfl,rfl⟩,rfl,rfl⟩;exact⟨Jcr _ hr,back_hpR⟩
theorem Fnl.outR(hw:wk v v0)(hc:v.closed=true):Fnl 4 v0 (hpR t of R []) v (hpR t of R X):=by refine .ren [0,1,2,3] (by simp[Jc3,hpR,G8]) ?_;rw[ren_hpR,Yx v hc];exact .done hw
theorem Fnl.oneR(id:Nat)(hX:X[id]? = some (.arr z els))(hc:Jq els=true)(Aw:(Go.Cm.frz (id+4) z els v).closed=true)(hw:wk (Go.Cm.frz (id+4) z els v) v0):Fnl 4 v0 (hpR t of R []) v (hpR t of R X):=.frz (id+4) z els hX hc (by rw[frz_hpR];exact Fnl.outR hw Aw)
theorem QG{args:Ls}{R':RS}(h:CallsC P Env.none f (.ptr 0 0 0::args) (hpR t of R []) λv H'=>Fnl 4 res (hpR t of R' []) v H'):RMe P f args t of R R' res:=CallsC.fnl h
end
def fgL (n:Nat)(S:FS):LH:=(Gm n).map λi=>Kz S.fg i
def JdI (b:Option Nat):Int:=match b with
 |none=>-1
 |some i=>i
def rsO (n:Nat)(S:FS)(d:LH):RS:=⟨S.got,d,fgL n S,JdI S.bad⟩
theorem JhE{S:FS}:(fgL n S).length=n:=by simp[fgL]
theorem fgL_get{S:FS}(h:i<n):(fgL n S).getD i false=Kz S.fg i:=by simp[fgL,Gb,h]
theorem fgL_set{s:Nat}{S:FS}{b:Bool}:(fgL n S).set s b=fgL n { S with fg:=Y7 s b S.fg }:=by
 refine GM (by simp[fgL]) λj h1 h2=>?_
 rw[Hm];simp only[fgL,GL,GI,Xr];by_cases h:s=j
 ·subst h;simp
 ·rw[if_neg h,if_neg (λe=>h e.symm)]
theorem doF_bad{mean:Nat->Nat}{S:FS}(h:S.bad.isSome=true):doF t o mean f S i=S:=by
 cases f with
 |zero=>rfl
 |succ f=>rw[doF,if_pos (by rw[h];rfl)]
theorem fold_bad{mean:Nat->Nat}{S:FS}(h:S.bad.isSome=true):∀l:Lx,l.foldl (doF t o mean f) S=S
 |[]=>rfl
 |i::l=>by rw[List.foldl_cons,doF_bad h];exact fold_bad h l
theorem Jar (e:H=H')(h:Ky P E n0 N Q k T H'):Ok P E n0 N Q k T H:=by subst e;exact JC _ _ _ h
def fK (t:Tr)(o:Lu):FT0:=⟨t,ofL t o,upZ t t.nodes.length,fiZ t o t.nodes.length⟩
abbrev mnF (t:Tr)(o:Lu):Nat->Nat:=λi=>(J2 t o i).toNat
def GoW (t:Tr)(o:Lu)(f:Nat):Prop:=∀S i,FI t S->FM t o S->Ln S.got->i<t.nodes.length->PreQ t o S i->uf t S<f->FMe Gs 31 [.int .i64 (i:Int)] (fK t o) S (doF t o (mnF t o) f S i) (.tup [])
section
variable(g:GoodT t o)(ht:t.Fit)
include g ht
omit g in
theorem JbV {S:FS}(h:Ln S.got)(f:Nat):∀l:Lx,Ln (l.foldl (doF t o (mnF t o) f) S).got:=by
 intro l
 induction l generalizing S with
 |nil=>exact h
 |cons x l ih=>exact ih (doF_ln ht f S x h)
theorem fmForce (hE:(YP t o).2=0)(ih:GoW t o f){S:FS}{s:Nat}(hI:FI t S)(hM:FM t o S)(Bd:Ln S.got)(hi:i<t.nodes.length)(hP:PreQ t o S i)(hu:uf t S<f+1)(hs:s<t.nodes.length)(BM:(nd t s).k=41)(hm:(m:Int)∈(nd t s).kids)(Dr:(nd t m).k=42)(AR:inS t o (m:Int) i):FMe Gs 180 [.int .i64 (s:Int),.int .i64 (i:Int)] (fK t o) S (QE t o (doF t o (mnF t o) f) s i S) (.tup []):=by
 have Ag:=g.many;have gK:GoodT (fK t o).t o:=g;have Ot:(fK t o).t.Fit:=ht;obtain⟨_,_,_,hL⟩:=KV g hs BM;refine Ki (vfS c180_ok λN=>?_)
 cases hb:Kz S.fg s with
 |true=>
  have e:QE t o (doF t o (mnF t o) f) s i S=S.fail i:=by unfold QE;rw[if_pos hb]
  rw[e];rcases Jay (k:=s) S.fg 0 with ⟨_,h2,_⟩|⟨q,h1,_⟩
  ·rw[hb]at h2;cases h2
  rw[hb]at h1;simp only[c180,go_sem,hpF,fRow,h1];refine KF (fmFail (K:=fK t o) (Z:=S)) (.inl rfl) rfl rfl rfl rfl ?_;simp only[go_sem];exact .done (wk.refl _)
 |false=>
  generalize DC:({ S with fg:=Y7 s true S.fg }:FS)=S0;obtain⟨a,ha⟩:∃a:Nat,fs o ((Ji t s:Nat):Int)=a:=⟨(fs o ((Ji t s:Nat):Int)).toNat,by have:=(fs_le g (a:=Ji t s) om).1;omega⟩;have iN:a<=Ji t s:=by have:=(fs_le g (a:=Ji t s) om).2;omega
  generalize Dm:Ji t s+1-a=mm;have e:QE t o (doF t o (mnF t o) f) s i S=(λS1=>let S2:=if S1.bad.isSome then S1 else JS t s S1;{ S2 with fg:=Y7 s false S2.fg }) ((KC a mm).foldl (doF t o (mnF t o) f) S0):=by unfold QE;rw[if_neg (by rw[hb];decide)];simp only[ha,Gl,Dm,DC]
  rw[e];clear e;generalize Og:(λS1:FS=>let S2:=if S1.bad.isSome then S1 else JS t s S1;({ S2 with fg:=Y7 s false S2.fg }:FS)) ((KC a mm).foldl (doF t o (mnF t o) f) S0)=SE;have Oj:FI t S0:=by subst DC;exact⟨hI.gl,hI.dl,hI.emp,hI.unf,hI.fnd,hI.fine,hI.ini,hI.typ⟩
  have aY:FM t o S0:=by subst DC;exact hM
  have I8:Ln S0.got:=by subst DC;exact Bd
  have MM:uf t S0<f:=by subst DC;have:=uf_less hs hb;omega
  have O5:=force_pre g hi hP hs BM hm Dr AR ha;rw[DC,Dm]at O5;have FJ:=Jem (Jfc g hE f) Oj aY MM (a:=a) (m:=mm) om O5;have dV:=λZ=>fmExpr gK Ot (Z:=Z) hs BM
  have iq:(iz (fiZ t o t.nodes.length)).getD (Ji t s) []=[.int .i64 (a:Int)]:=by rw[JF (by rw[Jbf];omega),fiZ_get om om,ha]
  have EF:(iz (fiZ t o t.nodes.length)).length=t.nodes.length:=by rw[Jf,Jbf]
  have BG:∀(Z:FS) (b:Bool),(∃q v,QY .int (.int .i64 (s:Int)) (kz Z.fg) 0=some (some (q,v))/\(kz Z.fg).set q (.int .i64 (s:Int),.bool b)=kz (Y7 s b Z.fg))\/(QY .int (.int .i64 (s:Int)) (kz Z.fg) 0=some none/\kz Z.fg++[(.int .i64 (s:Int),.bool b)]=kz (Y7 s b Z.fg)):=λZ b=>by
   rcases Jay (k:=s) Z.fg 0 with ⟨h1,_,h3⟩|⟨q,h1,h3⟩
   ·exact .inr ⟨h1,h3 b⟩
   ·exact .inl ⟨_,_,h1,by rw[Gr];exact h3 b⟩
  have RH:QY .int (.int .i64 (s:Int)) (kz S.fg) 0=some none\/∃q,QY .int (.int .i64 (s:Int)) (kz S.fg) 0=some (some (q,.bool false)):=by
   rcases Jay (k:=s) S.fg 0 with ⟨h1,_,h3⟩|⟨q,h1,h3⟩
   ·exact .inl h1
   ·rw[hb]at h1;exact .inr ⟨_,h1⟩
  have Dv:hpF (fK t o) S0 []=[.arr 11 [fRow (fK t o) S.bad],.arr 1 (gz S.got),.arr 1 (bqz S.dn),.map (kz S.fd),.map (kz (Y7 s true S.fg))]:=by subst DC;rfl
  rcases RH with h1|⟨q0,h1⟩ <;> rcases BG S true with ⟨q,v,h2,h3⟩|⟨h2,h3⟩
  ·rw[h1]at h2;cases h2
  case' inr.inl=>rw[h1]at h2;cases h2
  case' inr.inr=>rw[h1]at h2;cases h2
  all_goals
   simp only[c180,go_sem,hpF,fRow,h1,h3];refine Jar Dv.symm ?_;simp only[go_sem,hpF,fRow];refine JJ [0,0,0,4,0,0,4,0,0,0] Jm vM ?_;simp only[go_sem];refine vy_me (dV S0) (.inl rfl) rfl rfl rfl rfl ?_;simp only[go_sem,fK,iq,EF]
   repeat refine anO ?_
   refine Jr (I:=λj:Nat=>j<=mm) (inv:=λj=>mkT 60 [(0,.ptr 0 0 0),(1,.int .i64 (s:Int)),(6,.int .i64 ((a+j:Nat):Int))]) (hp:=λj=>hpF (fK t o) ((KC a j).foldl (doF t o (mnF t o) f) S0) []) (μ:=λj=>mm-j) 0 [0,1,2,3,4] om rfl ?_ ?_ ?_
   ·simp only[JR,Gi,Gj,ren,Jk];refine Js ?_;simp[Kh,Ko]
   ·exact Qn (K:=fK t o) (Z:=S0) (X:=[]) rfl
   ·intro j hj;obtain⟨p1,p2,p3,p4⟩:=FJ j hj;have Ia:=JbV ht (o:=o) I8 f (KC a j);have BD:(KC a (j+1)).foldl (doF t o (mnF t o) f) S0=doF t o (mnF t o) f ((KC a j).foldl (doF t o (mnF t o) f) S0) (a+j):=by rw[JaX,G5];rfl
    have Cz:((KC a j).foldl (doF t o (mnF t o) f) S0).bad.isSome=true\/j=mm->(KC a mm).foldl (doF t o (mnF t o) f) S0=(KC a j).foldl (doF t o (mnF t o) f) S0:=λh=>by
     rcases h with h|h
     ·have e:KC a mm=KC a j++(KC a mm).drop j:=by
       have:KC a j=(KC a mm).take j:=by unfold KC;rw[<-List.map_take,List.take_range,Nat.min_eq_left hj]
       rw[this,List.take_append_drop]
      rw[e,G5,fold_bad h]
     ·rw[h]
    generalize aR:(KC a j).foldl (doF t o (mnF t o) f) S0=Sj at *;obtain⟨gj,dj,fdj,fgj,bj⟩:=Sj;have jw:=dV ⟨gj,dj,fdj,fgj,bj⟩;simp only[go_sem,hpF];refine KF jw (.inl rfl) rfl rfl rfl rfl ?_;by_cases Ab:j<mm
    ·have d2:(((a+j:Nat):Int)<=((Ji t s:Nat):Int))=True:=J5
     cases bj with
     |none=>
      have hW:=ih _ (a+j) p1 p2 Ia om (O5 _ j p3 om p4) (by rw[uf_eq p3];exact MM);simp only[go_sem,fK,hpF,fRow,d2,Gv,Gw];refine KF hW (.inl rfl) rfl rfl rfl rfl ?_;simp only[go_sem];refine⟨Jg,j+1,[0,1,2,3,4],om,om,rfl,?_,?_⟩
      ·rw[BD];exact Qn (K:=fK t o) (X:=[]) rfl
      ·simp only[ren,Jk];refine Js ?_;simp[Kh,Ko];omega
     |some b=>
      have Cc:=Cz (.inl rfl);rw[Cc]at Og;simp only[Gn,if_true]at Og;subst Og;rcases BG ⟨gj,dj,fdj,fgj,some b⟩ false with ⟨q4,v4,h4,h5⟩|⟨h4,h5⟩
      all_goals
       dsimp only at h4 h5
       simp only[go_sem,fK,hpF,fRow,d2,Gn,Gp,h4,h5];exact .done (wk.refl _)
    ·have d2:(((a+j:Nat):Int)<=((Ji t s:Nat):Int))=False:=J7;have Cc:=Cz (.inr om);rw[Cc]at Og
     cases bj with
     |none=>
      simp only[Gv,Bool.false_eq_true,if_false]at Og;subst Og;have iX:=fmSettle gK Ot hs BM p1.gl Ia;simp only[go_sem,fK,hpF,fRow,d2,Gv,Gw];refine KF iX (.inl rfl) rfl rfl rfl rfl ?_;change Ky _ _ _ _ _ _ _ (hpF (fK t o) (JS t s _) []);generalize JS t s ⟨gj,dj,fdj,fgj,none⟩=S2;rcases BG S2 false with ⟨q4,v4,h4,h5⟩|⟨h4,h5⟩
      all_goals
       simp only[go_sem,hpF,fRow,h4,h5];exact .done (wk.refl _)
     |some b=>
      simp only[Gn,if_true]at Og;subst Og;rcases BG ⟨gj,dj,fdj,fgj,some b⟩ false with ⟨q4,v4,h4,h5⟩|⟨h4,h5⟩
      all_goals
       dsimp only at h4 h5
       simp only[go_sem,fK,hpF,fRow,d2,Gn,Gp,h4,h5];exact .done (wk.refl _)
theorem fmDecl (hE:(YP t o).2=0)(ih:GoW t o f){S:FS}(hI:FI t S)(hM:FM t o S)(Bd:Ln S.got)(hi:i<t.nodes.length)(h3:(nd t i).k=3)(hP:PreQ t o S i)(hu:uf t S<f+1):FMe Gs 137 [.int .i64 (i:Int)] (fK t o) S (Jam t o (doF t o (mnF t o) f) (mnF t o i) i S).1 (txV ((Jam t o (doF t o (mnF t o) f) (mnF t o i) i S).2.getD [])):=by
 have Ag:=g.many;have gK:GoodT (fK t o).t o:=g;have Ot:(fK t o).t.Fit:=ht;obtain⟨m,hm⟩:∃m:Nat,J2 t o i=m:=by obtain⟨FX,Cc,Mr,_,MV⟩:=Jba g hE hi h3;exact⟨(J2 t o i).toNat,om⟩
 have Dm:mnF t o i=m:=by unfold mnF;rw[hm];rfl
 rw[Dm];obtain⟨Ch,AR,Dt⟩:=JeS g hE hi h3 hm;have CK:(iz (ofL t o)).getD i []=[.int .i64 (m:Int)]:=by rw[JF (by rw[QL];exact hi),JeO hi,hm]
 have Bj:(iz (ofL t o)).length=t.nodes.length:=by rw[Jf,QL]
 have hg:=JZ Ch;have Ca:=Ym g Ch;have Aq:(iz (nd t m).kids).length=(nd t m).kids.length:=Jf;have DY:0<(nd t m).kids.length->(iz (nd t m).kids).getD 0 []=[.int .i64 (Ju t m 0:Int)]:=λh=>by rw[JF h,JE g Ch h]
 have AL:∀Z:FS,FI t Z->(gz Z.got).length=t.nodes.length/\(gz Z.got).getD m []=[txV (Jt Z.got m)]:=λZ hZ=>⟨by rw[QH,hZ.gl],Qc (by rw[hZ.gl];exact Ch)⟩
 unfold Jam;refine Ki (vfS c137_ok λN=>?_);rcases Dt with h|h|h|⟨h,s,k,s1,s2,s3,s4,s5,s6⟩
 ·rw[if_pos h];simp only[c137,go_sem,hpF,fRow,fK,CK,Bj,Ja,hg,Nd.cv,h,Ga]
  repeat refine anO ?_
  exact Fnl.one (K:=fK t o) 1 rfl rfl rfl (wk.refl _)
 ·rw[iN7,if_pos (.inl h)];obtain⟨q1,q2,q3,q4⟩:=Ca (.inr (.inl om));have hW:=XK gK (Z:=S) (Ju t m 0) (show Ju t m 0<t.nodes.length by omega) q3 q4;simp only[c137,go_sem,hpF,fRow,fK,CK,Bj,Ja,hg,Nd.cv,h,Ga,Aq,DY q1]
  repeat refine anO ?_
  refine KF hW (.inl rfl) rfl rfl rfl rfl ?_;simp only[go_sem];exact Fnl.one (K:=fK t o) 1 rfl rfl rfl (wk.refl _)
 ·rw[iN7,iN7,iN7];obtain⟨g1,g2⟩:=AL S hI;simp only[c137,go_sem,hpF,fRow,fK,CK,Bj,Ja,hg,Nd.cv,h,Ga,g1,g2]
  repeat refine anO ?_
  exact Fnl.out (K:=fK t o) (wk.refl _) rfl
 ·rw[iN7];have hB:=fmBare (K:=fK t o) (Z:=S) (i:=m) Ch;by_cases hn:(nd t m).kids=[]
  ·rw[if_neg (by rintro(h2|⟨_,h2⟩);omega;exact h2 hn)];have he:(nd t m).kids.isEmpty=true:=by rw[hn];rfl
   change FMe _ _ _ _ _ _ (.bool (nd t m).kids.isEmpty) at hB;rw[he]at hB;have Ua:(iz (upZ t t.nodes.length)).getD m []=[.int .i64 (s:Int)]:=by rw[JF (by rw[JcV];exact Ch),up_kid g s2 s4]
   have PT:(iz (upZ t t.nodes.length)).length=t.nodes.length:=by rw[Jf,JcV]
   rw[s1,Gl]
   cases hb:Kz S.fd s with
   |true=>
    rw[if_neg sM];obtain⟨g1,g2⟩:=AL S hI;rcases Jay (k:=s) S.fd 0 with ⟨_,h2,_⟩|⟨q,h1,_⟩
    ·rw[hb]at h2;cases h2
    rw[hb]at h1;simp only[c137,go_sem,hpF,fRow,fK,CK,Bj,Ja,hg,Nd.cv,h,Ga]
    repeat refine anO ?_
    refine KF hB (.inl rfl) rfl rfl rfl rfl ?_;simp only[go_sem,hpF,fRow,fK,Ua,PT,h1,g1,g2]
    repeat refine anO ?_
    exact Fnl.out (K:=fK t o) (wk.refl _) rfl
   |false=>
    rw[if_pos ⟨h,rfl⟩];have hF:=fmForce g ht hE ih hI hM Bd hi hP hu s2 s3 s4 h AR;obtain⟨f1,_⟩:=Jd3 g (Jfc g hE f) hI hM hi hP hu s2 s3 s4 h AR;generalize kg:QE t o (doF t o (mnF t o) f) s i S=SF at *;obtain⟨g1,g2⟩:=AL SF f1;have Dc:QY .int (.int .i64 (s:Int)) (kz S.fd) 0=some none\/∃q,QY .int (.int .i64 (s:Int)) (kz S.fd) 0=some (some (q,.bool false)):=by
     rcases Jay (k:=s) S.fd 0 with ⟨h1,_,h3⟩|⟨q,h1,h3⟩
     ·exact .inl h1
     ·rw[hb]at h1;exact .inr ⟨_,h1⟩
    rcases Dc with h1|⟨q,h1⟩
    all_goals
     simp only[c137,go_sem,hpF,fRow,fK,CK,Bj,Ja,hg,Nd.cv,h,Ga]
     repeat refine anO ?_
     refine KF hB (.inl rfl) rfl rfl rfl rfl ?_;simp only[go_sem,hpF,fRow,fK,Ua,PT,h1]
     repeat refine anO ?_
     refine KF hF (.inl rfl) rfl rfl rfl rfl ?_;simp only[go_sem,hpF,fRow,fK,g1,g2]
     repeat refine anO ?_
     exact Fnl.out (K:=fK t o) (wk.refl _) rfl
  ·rw[if_pos (.inr ⟨h,hn⟩)];have he:(nd t m).kids.isEmpty=false:=by cases h:(nd t m).kids <;> simp_all
   change FMe _ _ _ _ _ _ (.bool (nd t m).kids.isEmpty) at hB;rw[he]at hB;obtain⟨q1,q2,q3,q4⟩:=Ca (.inr (.inr ⟨h,hn⟩));have hW:=XK gK (Z:=S) (Ju t m 0) (show Ju t m 0<t.nodes.length by omega) q3 q4;simp only[c137,go_sem,hpF,fRow,fK,CK,Bj,Ja,hg,Nd.cv,h,Ga]
   repeat refine anO ?_
   refine KF hB (.inl rfl) rfl rfl rfl rfl ?_;simp only[go_sem,hpF,fRow,fK,Aq,DY q1]
   repeat refine anO ?_
   refine KF hW (.inl rfl) rfl rfl rfl rfl ?_;simp only[go_sem];exact Fnl.one (K:=fK t o) 1 rfl rfl rfl (wk.refl _)
end
def Tx (m:Nat)(l:TL):Prop:=∀a∈l,(tyT a).length<=m
theorem JaT{a:TyX}(h:(tyT a).length<=m):Tx m [a]:=λb hb=>by rw[Hf.1 hb];exact h
theorem one_tx2(h:Tx m l)(hm:3<=m):(tyT ((Ku l).getD .int)).length<=m:=by
 cases ho:Ku l with
 |none=>simpa [tyT]using hm
 |some a=>have:=XH.1 ho;subst this;exact h a sM
theorem prt_tx(h:Tx m l)(hm:3<=m):(tyT ((prt (Ku l)).getD .int)).length<=m:=by have h1:=one_tx2 h hm;rcases ho:Ku l with _|a|a|a|a <;> rw[ho]at h1 <;> simp[prt,tyT]at h1|- <;> omega
theorem given_tx{ls:List TL}(h:YK ls=some l)(hm:3<=m)(h2:∀x∈ls,Tx m x):Tx m l:=by
 unfold YK at h
 split at h
 ·cases h;exact h2 _ sM
 ·split at h
  ·cases h
   intro a ha;obtain⟨x,hx,rfl⟩:=GR.1 ha;have:=h2 x hx
   cases x with
   |nil=>simpa [tyT]using hm
   |cons b y=>exact this b sM
  ·cases h
theorem rule_tx{k:Nat}{ks:Lu}{K L:Nat->TL}{ty:TyX}{sp sr si gm:TL}(h:J6 k ks n K L ty sp sr si gm=some l)(hK:∀j,Tx 10000 (K j))(hL:Tx 10000 (L 1))(Ca:(tyT ty).length<=10000)(Ue:Tx 10000 sr):Tx 20000 l:=by
 have up:∀{l:TL},Tx 10000 l->Tx 20000 l:=λh a ha=>by have:=h a ha;omega
 have hg:∀(m:Nat) (f:Nat->Nat),YK ((Gm m).map λj=>K (f j))=some l->Tx 20000 l:=λm f h=>up (given_tx h om λx hx=>by obtain⟨j,_,rfl⟩:=GR.1 hx;exact hK _)
 have BI:∀{c:Prop} [Decidable c] {x:TL},(if c then some x else none)=some l->Tx 20000 x->Tx 20000 l:=λh hx=>by
  split at h
  ·cases h;exact hx
  ·cases h
 have hi:Tx 20000 [.int]:=JaT (by simp[tyT]);have hb:Tx 20000 [.bool]:=JaT (by simp[tyT]);have hn:Tx 20000 []:=λa ha=>by cases ha
 have hp:∀j,(tyT ((prt (Ku (K j))).getD .int)).length<=10000:=λj=>prt_tx (hK j) om
 have hs:∀{a:TyX},(tyT a).length<=10000->Tx 20000 [.str a]:=λh=>JaT (by simp[tyT,Xh];omega)
 by_cases e1:k=1
 ·subst e1;cases h;exact hi
 by_cases e2:k=2
 ·subst e2;cases h;exact hb
 by_cases e4:k=4
 ·subst e4;rw[Jg4]at h;exact BI h (hs (hp 1))
 by_cases e5:k=5\/k=6
 ·rw[rk_or e5]at h;exact BI h hb
 by_cases e7:k=7\/k=8
 ·rw[rk_eq e7]at h;exact BI h hb
 by_cases e9:9<=k/\k<=12
 ·rw[rk_lt e9]at h;exact BI h hb
 by_cases e13:13<=k/\k<=17
 ·rw[rk_add e13]at h;exact BI h hi
 by_cases e18:k=18
 ·subst e18;rw[Jg1]at h;exact BI h (up (JaT (hp 0)))
 by_cases e19:k=19
 ·subst e19;rw[rk_not]at h;exact BI h hb
 by_cases e20:k=20
 ·subst e20;rw[rk_neg]at h;exact BI h hi
 by_cases e21:k=21
 ·subst e21;rw[Jg3]at h;exact BI h (up (JaT (hp 0)))
 by_cases e22:k=22
 ·subst e22;rw[JgZ]at h;exact BI h (up (hK _))
 by_cases e23:k=23
 ·subst e23;rw[JdS]at h;exact BI h hb
 by_cases e24:k=24
 ·subst e24;rw[Jg0]at h;exact BI h hi
 by_cases e25:k=25
 ·subst e25;cases h;exact hs Ca
 by_cases e26:k=26
 ·subst e26;rw[Jg5]at h;exact BI h (up Ue)
 by_cases e27:k=27
 ·subst e27;rw[rk_if]at h;exact BI h (up (hK _))
 by_cases e28:k=28
 ·subst e28;rw[Jg2]at h;exact BI h (up (hK _))
 by_cases e29:k=29
 ·subst e29;rw[JdT]at h;have:=one_tx2 hL om;exact BI h (JaT (by simp[tyT];omega))
 by_cases e40:k=40
 ·subst e40;exact hg _ _ h
 by_cases e45:k=45
 ·subst e45;exact hg _ id h
 by_cases e42:k=42
 ·subst e42;rw[Jc2]at h
  split at h <;> cases h
  ·exact hn
  ·exact up (JaT Ca)
 by_cases e64:k=64
 ·subst e64;cases h;exact up (JaT Ca)
 by_cases e43:k=43
 ·subst e43;rw[rk_init]at h;exact BI h (up (JaT (one_tx2 (hK 0) om)))
 by_cases e44:k=44
 ·subst e44;rw[rk_next]at h;exact BI h hn
 by_cases e47:k=47
 ·subst e47;cases h;exact hi
 by_cases e65:k=65
 ·subst e65;rw[rk_def]at h;exact BI h hn
 have:J6 k ks n K L ty sp sr si gm=some []:=by unfold J6;simp only[e1,e2,e4,e5,e7,e9,e13,e18,e19,e20,e21,e22,e23,e24,e25,e26,e27,e28,e29,e40,e45,e42,e64,e43,e44,e47,e65,if_false]
 rw[this]at h;cases h;exact hn
theorem fine_tx(hf:∀j,Qf (Jt got j)=true)(j:Nat):Tx 10000 (Jt got j):=λa ha=>by have:=Yt (hf j) ha;omega
theorem rule_sm(g:GoodT t o)(ht:t.Fit)(hf:∀j,Qf (Jt got j)=true)(hi:i<t.nodes.length)(hm:m<t.nodes.length\/(nd t i).k≠26)(h:Qh t m got i=some l):Tx 20000 l:=by
 have Ag:=g.many;rw[JV]at h;have Ca:∀{j:Nat},j<t.nodes.length->(tyT (tyN t j)).length<=10000:=λh=>XW om
 have bZ:∀x y,x<t.nodes.length->(tyT (tyN t (Ju t x y))).length<=10000:=λx y hx=>by
  refine Ca ?_;by_cases hy:y<(nd t x).kids.length
  ·have:=(Jz g hx hy).2.1;omega
  ·unfold Ju;rw[Gb,He om];simp;omega
 refine rule_tx (k:=(nd t i).k) (n:=(nd t i).n.toNat) (ks:=(nd t i).kids) (K:=KK t got i) (L:=Jbc t got i) (sp:=Yj t m) (si:=XU t i) (gm:=Jt got m) (sr:=if (nd t i).k=26 then XU t m else []) (Eq.trans ?_ h) (λj=>?_) ?_ (bZ i 0 hi) ?_
 ·by_cases Db:(nd t i).k=26
  ·rw[if_pos Db]
  ·rw[if_neg Db];exact ruleK_congr rfl (λ_ _=>rfl) (λ_=>⟨rfl,rfl⟩) (λ_ _ _=>rfl) (λ_ _=>rfl) (λ_=>rfl) (λh=>absurd h Db) (λ_=>rfl) (λ_=>rfl)
 ·unfold KK
  split
  ·exact fine_tx hf _
  ·intro a ha;cases ha
 ·unfold Jbc
  split
  ·exact fine_tx hf _
  ·intro a ha;cases ha
 ·split
  ·rename_i Db;rcases hm with hm|hm
   ·intro a ha;unfold XU at ha;obtain⟨x,_,rfl⟩:=GR.1 ha;exact bZ m _ hm
   ·exact absurd Db hm
  ·intro a ha;cases ha
def TyR (f:Nat)(K:FT0)(S:FS)(i:Nat)(R:FS):Prop:=∃(S':FS) (x:CV) (b:Bool) (l:TL),x.closed=true/\FMe Gs f [.int .i64 (i:Int)] K S S' (.tup [x,.bool b])/\(b=true->x=txV l/\l.length<=30/\Tx 20000 l/\R=S'.fin i (some l))/\(b=false->R=S'.fail i)/\S'.got.length=K.t.nodes.length/\S'.dn.length=K.t.nodes.length
theorem TyR.of{S:FS}(h:Ans K S f [.int .i64 (i:Int)] r)(hl:∀l,r=some l->l.length<=30/\Tx 20000 l)(h1:S.got.length=K.t.nodes.length)(h2:S.dn.length=K.t.nodes.length):TyR f K S i (S.fin i r):=by
 obtain⟨x,q1,q2,q3⟩:=h
 cases r with
 |none=>exact⟨S,x,false,[],q1,q3,λh=>(by cases h),λ_=>rfl,h1,h2⟩
 |some l=>exact⟨S,x,true,l,q1,q3,λ_=>⟨q2 l rfl,(hl l rfl).1,(hl l rfl).2,rfl⟩,λh=>(by cases h),h1,h2⟩
theorem Je6 {S:FS}(h:S.bad.isSome=true):S.fin i r=S/\S.fail i=S:=by
 have h2:S.fail i=S:=by unfold FS.fail;rw[if_pos h]
 refine⟨?_,h2⟩;unfold FS.fin
 cases r with
 |none=>exact h2
 |some l=>simp only;rw[if_pos h]
theorem JcW:(txV l).closed=true:=by simp[txV,CV.closed]
section
variable(g:GoodT t o)(ht:t.Fit)
include g ht
omit ht in
theorem JdX (hE:(YP t o).2=0)(hi:i<t.nodes.length)(hs:KH t i=true):(ofL t o).getD i 0=(mnF t o i:Int)/\mnF t o i<t.nodes.length/\((nd t i).k=26->(nd t (mnF t o i)).k=65):=by
 have Ai:=(Jd6 hE).mean i hi hs;have hr:=Jhi (t:=t) (o:=o) (i:=i);have h0:0<=J2 t o i:=om
 obtain⟨d,hd⟩:∃d:Nat,J2 t o i=d:=⟨(J2 t o i).toNat,om⟩;have hm:mnF t o i=d:=by unfold mnF;rw[hd];rfl
 have h2:=mean_text g (Jd6 hE) hi hd;rw[hm];exact⟨by rw[JeO hi,hd],h2.2.2.2,λhk=>((meanC_iff (Jd6 hE) hi hk).1 hd).2.2⟩
theorem fmSmall (hE:(YP t o).2=0)(ih:GoW t o f){S:FS}(hI:FI t S)(hM:FM t o S)(Bd:Ln S.got)(hi:i<t.nodes.length)(hb:S.bad=none)(hd:S.dn.getD i false=false)(hP:PreQ t o S i)(hu:uf t S<f+1)(h3:(nd t i).k=3):TyR 88 (fK t o) S i (doF t o (mnF t o) (f+1) S i):=by
 have Ag:=g.many;have hg:=JZ hi;have hD:=fmDecl g ht hE ih hI hM Bd hi h3 hP hu;have hR:doF t o (mnF t o) (f+1) S i=(Jam t o (doF t o (mnF t o) f) (mnF t o i) i S).1.fin i (Jam t o (doF t o (mnF t o) f) (mnF t o i) i S).2:=by rw[doF,if_neg (by rw[hb,hd];decide),if_pos h3]
 rw[hR];have P6:∃l,(Jam t o (doF t o (mnF t o) f) (mnF t o i) i S).2=some l:=by
  unfold Jam
  split
  ·exact⟨_,rfl⟩
  ·split
   ·exact⟨_,rfl⟩
   ·split <;> exact⟨_,rfl⟩
 obtain⟨l,hl⟩:=P6;have CO:FI t (Jam t o (doF t o (mnF t o) f) (mnF t o i) i S).1/\l.length<=30/\Tx 20000 l:=by
  obtain⟨FX,Cc,Mr,_,MV⟩:=Jba g hE hi h3;obtain⟨m,hm⟩:∃m:Nat,J2 t o i=m:=⟨(J2 t o i).toNat,om⟩;have Dm:mnF t o i=m:=by unfold mnF;rw[hm];rfl
  obtain⟨Ch,AR,Dt⟩:=JeS g hE hi h3 hm;rw[Dm]at hl|-;have Dv:∀Z:FS,FI t Z->Ln Z.got->(Jt Z.got m).length<=30/\Tx 20000 (Jt Z.got m):=λZ h1 h2=>⟨h2 m,λa ha=>by have:=Yt (h1.fine m) ha;omega⟩
  have ER:∀x,x<t.nodes.length->Ju t x 0<t.nodes.length:=λx hx=>by
   by_cases hy:0<(nd t x).kids.length
   ·have:=(Jz g hx hy).2.1;omega
   ·unfold Ju;rw[Gb,He om];simp;omega
  unfold Jam at hl|-
  split at hl
  ·rename_i h;rw[if_pos h];cases hl;exact⟨hI,sM,JaT (by simp[tyT])⟩
  ·rename_i h;rw[if_neg h]
   split at hl
   ·rename_i h;rw[if_pos h];cases hl;exact⟨hI,sM,JaT (by have:=XW (t:=t) (i:=Ju t m 0) (by have:=ER m Ch;omega);omega)⟩
   ·rename_i h2;rw[if_neg h2]
    split at hl
    ·rename_i h4;rw[if_pos h4];simp only at hl|-
     cases hl
     rcases Dt with h5|h5|h5|⟨h5,s,k,s1,s2,s3,s4,s5,s6⟩
     ·exact absurd h5 h
     ·exact absurd (.inl h5) h2
     ·omega
     ·rw[s1,Gl];obtain⟨f1,_⟩:=Jd3 g (Jfc g hE f) hI hM hi hP hu s2 s3 s4 h5 AR;have jh:Ln (QE t o (doF t o (mnF t o) f) s i S).got:=by
       unfold QE
       split
       ·unfold FS.fail;split <;> exact Bd
       ·simp only;have h1:=JbV ht (o:=o) (S:={ S with fg:=Y7 s true S.fg }) Bd f (KC (fs o ((Ji t s:Nat):Int)).toNat (Ji t s+1-(fs o ((Ji t s:Nat):Int)).toNat))
        split
        ·exact h1
        ·exact Jci h1
      exact⟨f1,Dv _ f1 jh⟩
    ·rename_i h4;rw[if_neg h4];cases hl;exact⟨hI,Dv S hI Bd⟩
 generalize Jam t o (doF t o (mnF t o) f) (mnF t o i) i S=D at *;obtain⟨Z,r⟩:=D;obtain⟨got,dn,fd,fg,bad⟩:=Z
 dsimp only at hl CO hD|-
 subst hl;rw[Gp]at hD;refine⟨⟨got,dn,fd,fg,bad⟩,txV l,!bad.isSome,l,JcW,?_,λh=>⟨rfl,CO.2.1,CO.2.2,rfl⟩,λh=>?_,CO.1.gl,CO.1.dl⟩
 ·refine Ki (vfS c88_ok λN=>?_);simp only[c88,go_sem,hpF,fRow,fK,Ja,hg,Nd.cv,h3,Ga]
  repeat refine anO ?_
  refine KF (K:=fK t o) hD (.inl rfl) rfl rfl rfl JcW ?_;simp only[go_sem,hpF,fRow,fK];refine JJ [0,0,0,0,1,0,0,0] Jm vM ?_;simp only[go_sem];refine Fnl.out (K:=fK t o) (S:=⟨got,dn,fd,fg,bad⟩) (wk.refl _) ?_;simp[CV.closed,Jl,JcW]
 ·have Pz:bad.isSome=true:=by simpa using h
  have h1:=Je6 (S:=⟨got,dn,fd,fg,bad⟩) (i:=i) (r:=some l) Pz;rw[h1.1,h1.2]
theorem fmTypes (hE:(YP t o).2=0)(ih:GoW t o f){S:FS}(hI:FI t S)(hM:FM t o S)(Bd:Ln S.got)(hi:i<t.nodes.length)(hb:S.bad=none)(hd:S.dn.getD i false=false)(hP:PreQ t o S i)(hu:uf t S<f+1):TyR 53 (fK t o) S i (doF t o (mnF t o) (f+1) S i):=by
 have Ag:=g.many;have gK:GoodT (fK t o).t o:=g;have Ot:(fK t o).t.Fit:=ht;have hg:=JZ hi;have Fg:∀m,(m<t.nodes.length\/(nd t i).k≠26)->∀l,Qh t m S.got i=some l->l.length<=30/\Tx 20000 l:=λm hm l h=>by refine⟨?_,rule_sm g ht hI.fine hi hm h⟩;rw[JV]at h;exact rule_len h (λj=>by unfold KK;split;exact Bd _;simp) (kids_len ht i) (sig_len ht _)
 have ay:(nd t i).k≠3->(nd t i).k≠41->doF t o (mnF t o) (f+1) S i=S.fin i (Qh t (mnF t o i) S.got i):=λh1 h2=>by rw[doF,if_neg (by rw[hb,hd];decide),if_neg h1,if_neg h2]
 have Db:(nd t i).k=26->(fK t o).of.getD i 0=(mnF t o i:Int)/\mnF t o i<t.nodes.length/\(nd t (mnF t o i)).k=65:=λhk=>by obtain⟨h1,h2,h3⟩:=JdX g hE hi (by simp[KH,hk]);exact⟨h1,h2,h3 hk⟩
 have BB:(nd t i).k=44->(fK t o).of.getD i 0=(mnF t o i:Int)/\mnF t o i<t.nodes.length:=λhk=>by obtain⟨h1,h2,h3⟩:=JdX g hE hi (by simp[KH,hk]);exact⟨h1,h2⟩
 have hR:∀f',(∃R,R=doF t o (mnF t o) (f+1) S i/\TyR f' (fK t o) S i R)->TyR f' (fK t o) S i (doF t o (mnF t o) (f+1) S i):=λf' ⟨R,h1,h2⟩=>by rw[<-h1];exact h2
 have Ou:((nd t i).k<=18->TyR 88 (fK t o) S i (doF t o (mnF t o) (f+1) S i))/\(18<(nd t i).k->(nd t i).k<=29->TyR 89 (fK t o) S i (doF t o (mnF t o) (f+1) S i))/\(29<(nd t i).k->TyR 90 (fK t o) S i (doF t o (mnF t o) (f+1) S i)):=by
  have DY:(nd t i).k≠0:=λh0=>by have hn:=g.nds (nd t i) (by unfold nd;rw[Gb,Gx hi];exact Ho hi);rw[ndI_R]at hn;simp[h0,Qk]at hn
  refine⟨λh=>?_,λh1 h2=>?_,λh=>?_⟩
  ·by_cases h3:(nd t i).k=3
   ·exact fmSmall g ht hE ih hI hM Bd hi hb hd hP hu h3
   ·rw[ay h3 om];refine TyR.of ?_ (Fg _ (.inr om)) hI.gl hI.dl;by_cases h1:(nd t i).k=1\/(nd t i).k=2
    ·exact small1 gK hi h1
    ·exact small2 gK hi (show 4<=(nd t i).k/\(nd t i).k<=18 by omega) hI.gl hI.fine
  ·rw[ay om om];by_cases h3:(nd t i).k<=25
   ·exact TyR.of (great1 gK hi (show 19<=(nd t i).k/\(nd t i).k<=25 by omega) hI.gl hI.fine) (Fg _ (.inr om)) hI.gl hI.dl
   ·refine TyR.of (great2 gK Ot hi (show 26<=(nd t i).k/\(nd t i).k<=29 by omega) hI.gl hI.fine Bd QL Db) (Fg _ ?_) hI.gl hI.dl;by_cases h6:(nd t i).k=26
    ·exact .inl (Db h6).2.1
    ·exact .inr h6
  ·by_cases BC:(nd t i).k=41
   ·obtain⟨O6,Ad⟩:=setF_ok gK (K:=fK t o) hI hi BC;have hS:=fmSet gK Ot hI Bd hi BC;have MH:=setF_ln (K:=fK t o) (s:=i) Bd;have ax:doF t o (mnF t o) (f+1) S i=(JaN t i S).fin i (if Yf t i (Jt (JaN t i S).got (Ji t i))=true then some [] else none):=by rw[doF,if_neg (by rw[hb,hd];decide),iN7,if_pos BC]
    rw[ax];change FMe _ _ _ _ _ (JaN t i S) (.bool (!(JaN t i S).bad.isSome && Yf t i (Jt (JaN t i S).got (Ji t i)))) at hS;change FI t (JaN t i S) at O6;generalize JaN t i S=Z at *;have hl:∀l:TL,l=[]->l.length<=30/\Tx 20000 l:=λl h=>by subst h;exact⟨sM,λa ha=>by cases ha⟩
    refine⟨Z,txV [],!Z.bad.isSome && Yf t i (Jt Z.got (Ji t i)),[],rfl,?_,λh=>?_,λh=>?_,O6.gl,O6.dl⟩
    ·refine Ki (vfS c90_ok λN=>?_);simp only[c90,go_sem,hpF,fRow,fK,Ja,hg,Nd.cv,BC,Ga]
     repeat refine anO ?_
     refine KF (K:=fK t o) hS (.inl rfl) rfl rfl rfl rfl ?_;simp only[go_sem];exact Fnl.out (K:=fK t o) (Jac ⟨wk.nils,wk.refl _,trivial⟩) rfl
    ·simp only[Bool.and_eq_true]at h;rw[if_pos h.2];exact⟨rfl,(hl [] rfl).1,(hl [] rfl).2,rfl⟩
    ·by_cases Px:Z.bad.isSome=true
     ·rw[(Je6 Px).1,(Je6 (r:=none) Px).2]
     ·rw[Bool.eq_false_iff.2 Px,Ha,Gy]at h;rw[h];rfl
   ·rw[ay om BC];exact TyR.of (part1 gK Ot hi (show 30<=(nd t i).k/\(nd t i).k≠41 by omega) hI.gl hI.fine Bd QL BB) (Fg _ (.inr om)) hI.gl hI.dl
 obtain⟨s1,s2,s3⟩:=Ou;have fin:∀f' (P1:TyR f' (fK t o) S i (doF t o (mnF t o) (f+1) S i)) (hC:∀(S':FS) (x:CV) (b:Bool),x.closed=true->FMe Gs f' [.int .i64 (i:Int)] (fK t o) S S' (.tup [x,.bool b])->FMe Gs 53 [.int .i64 (i:Int)] (fK t o) S S' (.tup [x,.bool b])),TyR 53 (fK t o) S i (doF t o (mnF t o) (f+1) S i):=λf' P1 hC=>by obtain⟨S',x,b,l,q1,q2,q3⟩:=P1;exact⟨S',x,b,l,q1,hC S' x b q1 q2,q3⟩
 have DT:∀{x:CV} {b:Bool},x.closed=true->(CV.tup [x,.bool b]).closed=true:=λh=>by simp[CV.closed,Jl,h]
 by_cases SY:(nd t i).k<=18
 ·refine fin _ (s1 SY) λS' x b hx hF=>?_
  have d1:((nd t i).k<=18)=True:=eq_true SY;have d2:(((nd t i).k:Int)<=18)=True:=J5;refine Ki (vfS c53_ok λN=>?_);simp only[c53,go_sem,hpF,fRow,fK,Ja,hg,Nd.cv,d2]
  repeat refine anO ?_
  refine KF (K:=fK t o) hF (.inl rfl) rfl rfl rfl (DT hx) ?_;simp only[go_sem];exact Fnl.out (K:=fK t o) (wk.refl _) (DT hx)
 ·have d1:((nd t i).k<=18)=False:=eq_false SY;have d2:(((nd t i).k:Int)<=18)=False:=J7;by_cases PI:(nd t i).k<=29
  ·refine fin _ (s2 om PI) λS' x b hx hF=>?_
   have d3:(((nd t i).k:Int)<=29)=True:=J5;refine Ki (vfS c53_ok λN=>?_);simp only[c53,go_sem,hpF,fRow,fK,Ja,hg,Nd.cv,d2,d3]
   repeat refine anO ?_
   refine KF (K:=fK t o) hF (.inl rfl) rfl rfl rfl (DT hx) ?_;simp only[go_sem];exact Fnl.out (K:=fK t o) (wk.refl _) (DT hx)
  ·refine fin _ (s3 om) λS' x b hx hF=>?_
   have d3:(((nd t i).k:Int)<=29)=False:=J7;refine Ki (vfS c53_ok λN=>?_);simp only[c53,go_sem,hpF,fRow,fK,Ja,hg,Nd.cv,d2,d3]
   repeat refine anO ?_
   refine KF (K:=fK t o) hF (.inl rfl) rfl rfl rfl (DT hx) ?_;simp only[go_sem];exact Fnl.out (K:=fK t o) (wk.refl _) (DT hx)
theorem lawDo (hE:(YP t o).2=0):∀f,GoW t o f
 |0=>λS i _ _ _ _ _ hu=>om
 |f+1=>λS i hI hM Bd hi hP hu=>by
  have Ag:=g.many;obtain⟨got,dn,fd,fg,bad⟩:=S;have Be:=hI.dl;have AL:=hI.gl
  dsimp only at Be AL Bd
  have D7:(bqz dn).getD i []=[.bool (dn.getD i false)]:=Jcc om;have Sa:(bqz dn).length=t.nodes.length:=by rw[Jcb,Be]
  refine Ki (vfS c31_ok λN=>?_)
  cases hd:dn.getD i false with
  |true=>
   have e:doF t o (mnF t o) (f+1) ⟨got,dn,fd,fg,bad⟩ i=⟨got,dn,fd,fg,bad⟩:=by rw[doF,if_pos (by simp only[hd,Bool.or_true])]
   rw[e];simp only[c31,go_sem,hpF,fRow,fK,D7,Sa,hd]
   repeat refine anO ?_
   exact .done (wk.refl _)
  |false=>
   cases bad with
   |some b=>
    have e:doF t o (mnF t o) (f+1) ⟨got,dn,fd,fg,some b⟩ i=⟨got,dn,fd,fg,some b⟩:=by rw[doF,if_pos sM]
    rw[e];simp only[c31,go_sem,hpF,fRow,fK,D7,Sa,hd,Gn,Gp]
    repeat refine anO ?_
    exact .done (wk.refl _)
   |none=>
    obtain⟨S',x,b,l,q1,q2,q3,q4,q5,q6⟩:=fmTypes g ht hE (lawDo hE f) hI hM Bd hi rfl hd hP hu;generalize doF t o (mnF t o) (f+1) ⟨got,dn,fd,fg,none⟩ i=R at *;have DT:(CV.tup [x,.bool b]).closed=true:=by simp[CV.closed,Jl,q1]
    have FB:=fmFail (K:=fK t o) (Z:=S') (i:=i);simp only[c31,go_sem,hpF,fRow,fK,D7,Sa,hd,Gv,Gw]
    repeat refine anO ?_
    refine KF (K:=fK t o) (Z:=⟨got,dn,fd,fg,none⟩) q2 (.inl rfl) rfl rfl rfl DT ?_
    cases b with
    |false=>
     have e:=q4 rfl;have Ei:(S'.fail i).bad.isSome=true:=by unfold FS.fail;split;assumption;rfl
     rw[<-e]at FB Ei;obtain⟨got1,dn1,fd1,fg1,bad1⟩:=R;obtain⟨b1,rfl⟩:=HY.1 Ei;simp only[go_sem];refine KF FB (.inl rfl) rfl rfl rfl rfl ?_;simp only[go_sem,hpF,fRow,fK,Gn,Gp];exact .done (wk.refl _)
    |true=>
     obtain⟨rfl,l1,l2,l3⟩:=q3 rfl;have hG:=typGreat l om (λa ha=>by have:=l2 a ha;omega);simp only[go_sem];refine Kk (gok rfl) hG ?_
     cases Bl:Qf l with
     |false=>
      have e:R=S'.fail i:=by
       rw[l3];unfold FS.fin;simp only
       split
       ·unfold FS.fail;rw[if_pos (by assumption)]
       ·rw[if_neg (by rw[Bl];decide)]
      have Ei:(S'.fail i).bad.isSome=true:=by unfold FS.fail;split;assumption;rfl
      rw[<-e]at FB Ei;clear l3 e q3 q4;obtain⟨got1,dn1,fd1,fg1,bad1⟩:=R;obtain⟨b1,rfl⟩:=HY.1 Ei;simp only[go_sem];refine KF FB (.inl rfl) rfl rfl rfl rfl ?_;simp only[go_sem,hpF,fRow,fK,Gn,Gp];exact .done (wk.refl _)
     |true=>
      obtain⟨got1,dn1,fd1,fg1,bad1⟩:=S'
      dsimp only at q5 q6
      cases bad1 with
      |some b1=>rw[(Je6 (S:=⟨got1,dn1,fd1,fg1,some b1⟩) rfl).1]at l3;rw[l3];simp only[go_sem,hpF,fRow,fK,Gn,Gp];exact .done (wk.refl _)
      |none=>
       have e:R=⟨if l=[] then got1 else got1.set i l,dn1.set i true,fd1,fg1,none⟩:=by rw[l3];unfold FS.fin;simp only;rw[if_neg vk,if_pos Bl]
       rw[e];have ib:(gz got1).length=t.nodes.length:=by rw[QH];exact q5
       have Px:(bqz dn1).length=t.nodes.length:=by rw[Jcb];exact q6
       have Ct:(txz l).length=l.length:=K8;have Uq:(gz got1).getD i []=[txV (Jt got1 i)]:=Qc (by rw[q5];exact hi);have I4:(bqz dn1).getD i []=[.bool (dn1.getD i false)]:=Jcc (by rw[q6];exact hi);by_cases Bb:l=[]
       ·subst Bb;have d2:((0:Int)<(([]:TL).length:Int))=False:=eq_false sM;rw[if_pos rfl];simp only[go_sem,hpF,fRow,fK,Gv,Gw,txV,Ct,Px,I4,JhN,Gf,Gg]
        repeat refine anO ?_
        exact .done (wk.refl _)
       ·have d2:((0:Int)<(l.length:Int))=True:=eq_true (by have:=List.length_pos_iff.2 Bb;omega);rw[if_neg Bb];have Df:(gz got1).set i [.rslc 1 (txz l) none]=gz (got1.set i l):=gz_set;simp only[go_sem,hpF,fRow,fK,Gv,Gw,txV,Ct,d2,Px,ib,Uq,I4,JhN,Df,Gf,Gg]
        repeat refine anO ?_
        exact .done (wk.refl _)
end
theorem fn_fnl{args:Ls}(h:CallsC P Env.none f args [] λv H'=>Fnl 0 v0 [] v H')(ha:Jl args=true)(hv:v0.closed=true):Fn P f args v0:=Jhz ((CallsC.fnl h).mono λ_ _ h=>h.1) ha hv
theorem Fnl.drop(hc:v.closed=true)(hw:wk v v0):Fnl 0 v0 [] v H:=by refine .ren [] rfl ?_;rw[Yx v hc];exact .done hw
theorem ok_pad (h:Ok P E n0 N Q k T (H++[.dead])):Ok P E n0 N Q k T H:=by intro m w a b cs kr rest hp hd hk;obtain⟨hs,ho,he⟩:=Sim.pad (n0:=n0) hp.sim;exact Reach.step (.refl _ _) he (h _ w a b cs kr rest ⟨hs,KW ho (KI.refl _) _ _ hp.tmps,by have:=hp.long;simp;omega⟩ (hd.ext he) hk)
theorem ok_pads:∀(m:Nat) {H:Lt},Ok P E n0 N Q k T (H++Gh m .dead)->Ok P E n0 N Q k T H
 |0,H,h=>by simpa using h
 |m+1,H,h=>ok_pad (ok_pads m (by rw[List.append_assoc];exact h))
theorem NoD.none {p:Nat}(h1:(T.all λc=>(refs c).isEmpty)=true)(h2:(H.all λo=>(JeA o).isEmpty)=true):NoD p T H:=by rw[List.all_eq_true]at h1 h2;exact⟨λc hc i hi=>(by have:=h1 c hc;rw[Hl]at this;rw[this]at hi;cases hi),λo ho i hi=>(by have:=h2 o ho;rw[Hl]at this;rw[this]at hi;cases hi)⟩
theorem nf_at:∀{l l':Ls}{t:Nat}{c':CV},wks l l'->l'[t]? = some c'->∃c,l[t]? = some c/\Cm.wk c c'
 |[],[],_,_,_,h=>by simp at h
 |c::l,c'::l',0,d,hw,h=>by simp at h;subst h;exact⟨c,rfl,hw.1⟩
 |c::l,c'::l',t+1,d,hw,h=>by simp at h;simpa using nf_at hw.2 h
theorem nf_ln:∀{l l':Ls},wks l l'->l.length=l'.length
 |[],[],_=>rfl
 |_::l,_::l',hw=>by simp[nf_ln hw.2]
theorem vr_wkE{els':LM}(hH:H[i]? = some (.arr z els))(hl:els.length=els'.length)(hw:∀(j:Nat) (a b:Ls),els[j]? = some a->els'[j]? = some b->wks a b)(h:Ky P E n0 N Q k T (H.set i (.arr z els'))):Ok P E n0 N Q k T H:=by
 intro m w a' b' cs kr rest hp hd hk;have hs:=hp.sim;have Df:∀{k:Nat} {o:CObj},(H.set i (.arr z els'))[k]? = some o->(k=i/\o=.arr z els')\/(k≠i/\H[k]? = some o):=λ{k o} h=>by
  by_cases ER:k=i
  ·subst ER;rw[List.getElem?_set_self (GG.1 hH).1]at h;exact .inl ⟨rfl,(Option.some.inj h).symm⟩
  ·rw[List.getElem?_set_ne (λg=>ER g.symm)]at h;exact .inr ⟨ER,h⟩
 have key:∀(k:Nat) o,(H.set i (.arr z els'))[k]? = some o->∃o',H[k]? = some o'/\o'.alive=o.alive:=λk o h=>by
  rcases Df h with ⟨rfl,rfl⟩|⟨_,h2⟩
  ·exact⟨_,hH,rfl⟩
  ·exact⟨o,h2,rfl⟩
 have AA:Sim E m (H.set i (.arr z els')) w:=by
  refine⟨by rw[GN];exact hs.len,λk o x hk hx=>?_,hs.imm,hs.one,λk k' o o' x x' hk AB ha AV hx Av hB=>?_,λk o x hk ha hx=>?_,λk s b hk=>?_,λk o x hk ha hx=>?_,hs.extlt,hs.gl⟩
  ·rcases Df hk with ⟨rfl,rfl⟩|⟨_,h2⟩
   ·obtain⟨hz,c,elem,h1,h2,h3,h4,h5⟩:=hs.obj k _ x hH hx;refine⟨hz,c,elem,h1,h2,by rw[<-hl];exact h3,λj e he=>?_,h5⟩;have hj:j<els.length:=by rw[hl];exact(GG.1 he).1
    have bM:=hw j _ e (Gx hj) he;obtain⟨q1,q2⟩:=h4 j _ (Gx hj);refine⟨by rw[<-nf_ln bM];exact q1,λt c' CP=>?_⟩;obtain⟨c0,g1,g2⟩:=nf_at bM CP;obtain⟨r,r1,r2⟩:=q2 t c0 g1;exact⟨r,r1,g2 _ _ _ r2⟩
   ·exact hs.obj k o x h2 hx
  ·obtain⟨p,hp,CJ⟩:=key k o hk;obtain⟨p',EN,Iq⟩:=key k' o' AB;exact hs.sep k k' p p' x x' hp EN (CJ.trans ha) (Iq.trans AV) hx Av hB
  ·obtain⟨p,hp,CJ⟩:=key k o hk;exact hs.ro k p x hp (CJ.trans ha) hx
  ·rcases Df hk with ⟨_,h2⟩|⟨_,h2⟩
   ·cases h2
   ·exact hs.ext k s b h2
  ·obtain⟨p,hp,CJ⟩:=key k o hk;exact hs.extsep k p x hp (CJ.trans ha) hx
 have he:Ext n0 m H w m (H.set i (.arr z els')) w:=by
  refine⟨Gu _,λ_ _ _=>rfl,KI.refl _,λB hB=>.inl ?_,λB i v hv=>.inl hv,λk x _ hx=>hx,λh=>h,rfl,rfl,rfl⟩;rcases hB with h|⟨k,o,x,hk,ha,hx,hB⟩
  ·exact .inl h
  ·obtain⟨p,hp,CJ⟩:=key k o hk;exact .inr ⟨k,p,x,hp,CJ.trans ha,hx,hB⟩
 exact Reach.step (.refl _ _) he (JC _ _ _ h _ w a' b' cs kr rest ⟨AA,hp.tmps,by rw[GN];exact hp.long⟩ (hd.ext he) hk)
theorem vr_pads (m:Nat)(hH:H++Gh m .dead=H')(h:Ky P E n0 N Q k T H'):Ok P E n0 N Q k T H:=ok_pads m (by rw[hH];exact JC _ _ _ h)
def nfH (t:Tr)(of up fi:Lu)(X:Lt):Lt:=.arr 11 [[.rslc 5 (ndz t.nodes) none,.rslc 1 (iz t.items) none,.rslc 1 (iz of) none,.slc 5 0 t.nodes.length (some t.nodes.length),.slc 6 0 t.nodes.length (some t.nodes.length),.slc 1 0 t.nodes.length (some t.nodes.length),.slc 2 0 t.nodes.length (some t.nodes.length),.map 3,.map 4,.int .i64 0,.bool false]] :: .arr 1 (gz (Gh t.nodes.length [])) :: .arr 1 (bqz (Gh t.nodes.length false)) :: .map [] :: .map [] :: .arr 1 (iz up) :: .arr 1 (iz fi) :: .arr 1 [[.ptr 0 0 0]]::X
theorem nfH_ren{of:Lu}:KD [0,1,2,3,4,5,6,7] (nfH t of up fi X)=nfH t of up fi []:=by show [_,Xk _ (.arr 1 (gz _)),Xk _ (.arr 1 (bqz _)),_,_,Xk _ (.arr 1 (iz up)),Xk _ (.arr 1 (iz fi)),_]=_;simp only[Xk];rw[Jb (KP _),Jb (Qt _),Jb (Jh _),Jb (Jh _)];rfl
theorem nfH_frz{of:Lu}{id:Nat}:KA (id+8) z e (nfH t of up fi X)=nfH t of up fi ((X.map (Kn (id+8) z e)).set id .dead):=by
 have h0:∀(j:Nat) (a b:Nat) (c:Option Nat),j<8->frz (id+8) z e (.slc j a b c)=.slc j a b c:=λj a b c h=>by simp only[frz];rw[iN7]
 have h1:frz (id+8) z e (.ptr 0 0 0)=.ptr 0 0 0:=by simp only[frz];rw[iN7]
 simp only[nfH,KA,Gi,Gj,Kn,JM,h0 5 _ _ _ vk,h0 6 _ _ _ vk,h0 1 _ _ _ vk,h0 2 _ _ _ vk,h1,JI (KP _),JI (Qt _),JI (Jh _),Gc];rfl
theorem nfH_end{of:Lu}(hK:K=⟨t,of,upZ t t.nodes.length,fiZ t o t.nodes.length⟩):Fnl 0 (.ptr 0 0 0) (hpF K (FS.start t) []) (.ptr 0 0 0) (nfH t of (upZ t t.nodes.length) (fiZ t o t.nodes.length) []):=by
 subst hK;have hu:(iz (upZ t t.nodes.length)).length=t.nodes.length:=by rw[Jf,JcV]
 have hf:(iz (fiZ t o t.nodes.length)).length=t.nodes.length:=by rw[Jf,Jbf]
 have h1:∀(j a b id:Nat) (c:Option Nat) (z:Nat) (e:LM),j≠id->frz id z e (.slc j a b c)=.slc j a b c:=λj a b id c z e h=>by simp only[frz];rw[if_neg h]
 have h2:∀(id z:Nat) (e:LM),0≠id->frz id z e (.ptr 0 0 0)=.ptr 0 0 0:=λid z e h=>by simp only[frz];rw[if_neg h]
 have h3:∀(id z:Nat) (e:LM) (n:Nat),e.length=n->frz id z e (.slc id 0 n (some n))=.rslc z e none:=λid z e n h=>by subst h;simp only[frz,if_true,Gr,Gu,Gq,List.take_length]
 have e1:KA 5 1 (iz (upZ t t.nodes.length)) (nfH t of (upZ t t.nodes.length) (fiZ t o t.nodes.length) [])=[.arr 11 [[.rslc 5 (ndz t.nodes) none,.rslc 1 (iz t.items) none,.rslc 1 (iz of) none,.rslc 1 (iz (upZ t t.nodes.length)) none,.slc 6 0 t.nodes.length (some t.nodes.length),.slc 1 0 t.nodes.length (some t.nodes.length),.slc 2 0 t.nodes.length (some t.nodes.length),.map 3,.map 4,.int .i64 0,.bool false]],.arr 1 (gz (Gh t.nodes.length [])),.arr 1 (bqz (Gh t.nodes.length false)),.map [],.map [],.dead,.arr 1 (iz (fiZ t o t.nodes.length)),.arr 1 [[.ptr 0 0 0]]]:=by simp only[nfH,KA,Gi,Gj,Kn,JM,h1 6 _ _ 5 _ _ _ vk,h1 1 _ _ 5 _ _ _ vk,h1 2 _ _ 5 _ _ _ vk,h2 5 _ _ vk,h3 5 1 _ _ hu,JI (KP _),JI (Qt _),JI (Jh _),Gc,Gd];rfl
 have e2:KA 6 1 (iz (fiZ t o t.nodes.length)) [.arr 11 [[.rslc 5 (ndz t.nodes) none,.rslc 1 (iz t.items) none,.rslc 1 (iz of) none,.rslc 1 (iz (upZ t t.nodes.length)) none,.slc 6 0 t.nodes.length (some t.nodes.length),.slc 1 0 t.nodes.length (some t.nodes.length),.slc 2 0 t.nodes.length (some t.nodes.length),.map 3,.map 4,.int .i64 0,.bool false]],.arr 1 (gz (Gh t.nodes.length [])),.arr 1 (bqz (Gh t.nodes.length false)),.map [],.map [],.dead,.arr 1 (iz (fiZ t o t.nodes.length)),.arr 1 [[.ptr 0 0 0]]]=hpF ⟨t,of,upZ t t.nodes.length,fiZ t o t.nodes.length⟩ (FS.start t) [.dead,.dead,.arr 1 [[.ptr 0 0 0]]]:=by simp only[KA,Gi,Gj,Kn,JM,h1 1 _ _ 6 _ _ _ vk,h1 2 _ _ 6 _ _ _ vk,h2 6 _ _ vk,h3 6 1 _ _ hf,JI (KP _),JI (Qt _),JI (Jh _),Gc,Gd];rfl
 refine .frz 5 1 (iz (upZ t t.nodes.length)) rfl (Jh _) ?_;rw[h2 5 _ _ vk,e1];refine .frz 6 1 (iz (fiZ t o t.nodes.length)) rfl (Jh _) ?_;rw[h2 6 _ _ vk,e2];refine .ren [0,1,2,3,4] rfl ?_;rw[Qn (Y:=[]) rfl];exact .done (wk.refl _)
section
variable(g:GoodT t o)(ht:t.Fit)
include g ht
theorem newFinder (of:Lu):CallsC Gs Env.none 30 [t.cv,.agg [.rslc 1 (iz of) none]] [] λv H'=>v=.ptr 0 0 0/\H'=hpF ⟨t,of,upZ t t.nodes.length,fiZ t o t.nodes.length⟩ (FS.start t) []:=by
 have Ag:=g.many;refine CallsC.fnl ?_;refine vfS c30_ok λN=>?_
 simp only[c30,go_sem,Tr.cv,Tr.row,Ja];refine Je (id:=0) (z:=2) (els:=[t.row]) rfl rfl ?_;simp only[go_sem,Tr.row];refine Je (id:=1) (z:=1) (els:=[[.rslc 1 (iz of) none]]) rfl rfl ?_;simp only[go_sem];refine vr_ren [] rfl ?_;simp only[go_sem];refine vr_pads 8 rfl ?_;simp only[go_sem];refine Jar (H':=[.dead,.dead,.dead,.dead,.dead,.dead,.dead,.dead]) rfl ?_;simp only[go_sem];have FW:∀(ρ:Lx) (id i n:Nat),Jk id ρ 0=some i->ren ρ (.slc id 0 n (some n))=.slc i 0 n (some n):=λρ id i n h=>by simp only[ren,h]
 have Dm:∀(ρ:Lx) (id i:Nat),Jk id ρ 0=some i->ren ρ (.map id)=.map i:=λρ id i h=>by simp only[ren,h]
 have RA:∀(ρ:Lx) (id i:Nat),Jk id ρ 0=some i->ren ρ (.ptr id 0 0)=.ptr i 0 0:=λρ id i h=>by simp only[ren,h]
 have MF:∀b:Int,0<=b->b<=24->(Cond.and (.ile 0 (t.nodes.length:Int)) (.and (.ile (t.nodes.length:Int) (t.nodes.length:Int)) (.and (.ile (t.nodes.length:Int) 281474976710656) (.ile (b*(t.nodes.length:Int)) 281474976710656)))).holds:=λb h1 h2=>by
  refine⟨?_,?_,?_,?_⟩
  ·show (0:Int)<=_;omega
  ·show (t.nodes.length:Int)<=_;omega
  ·show (t.nodes.length:Int)<=_;omega
  ·show b*(t.nodes.length:Int)<=_;have:=Int.mul_le_mul h2 (show (t.nodes.length:Int)<=700 by omega) om om;omega
 have Io:∀(m:Nat) (c:CV),refs c=[]->JeA (.arr 1 (Gh m [c]))=[]:=λm c h=>by simp[JeA,JeB,h,List.flatMap_replicate]
 refine vr_dregZ 0 [(0,[]),(0,[]),(0,[]),(0,[]),(6,[]),(0,[]),(7,[]),(0,[]),(2,[]),(0,[]),(3,[]),(4,[]),(5,[]),(0,[5,6,1,2,3,4]),(1,[5,6,1,2,3,4]),(8,[]),(8,[0])] Jm vM (NoD.none rfl rfl) ?_;refine YB rfl rfl (GV rfl) rfl sM ?_;simp only[go_sem];refine YB rfl rfl (GV rfl) rfl sM ?_;simp only[go_sem];refine YB rfl rfl trivial rfl sM ?_;simp only[go_sem];refine YB rfl rfl trivial rfl sM ?_;simp only[go_sem];refine JaK 5 (λid=>.slc id 0 t.nodes.length (some t.nodes.length)) (.arr 1 (Gh t.nodes.length [.int .i64 0])) rfl (λ_=>rfl) (MF 8 vk vk) (λ_ _ _ h=>FW _ _ _ _ h) rfl rfl rfl vk vk (Io _ _ rfl) sM ?_;simp only[go_sem,Gd,Gc];refine YB rfl rfl trivial rfl sM ?_;simp only[go_sem];refine JaK 6 (λid=>.slc id 0 t.nodes.length (some t.nodes.length)) (.arr 1 (Gh t.nodes.length [.int .i64 0])) rfl (λ_=>rfl) (MF 8 vk vk) (λ_ _ _ h=>FW _ _ _ _ h) rfl rfl rfl vk vk (Io _ _ rfl) sM ?_;simp only[go_sem,Gd,Gc];refine YB rfl rfl trivial rfl sM ?_;simp only[go_sem];refine JaK 1 (λid=>.slc id 0 t.nodes.length (some t.nodes.length)) (.arr 1 (Gh t.nodes.length [.nils])) rfl (λ_=>rfl) (MF 24 vk vk) (λ_ _ _ h=>FW _ _ _ _ h) rfl rfl rfl vk vk (Io _ _ rfl) sM ?_;simp only[go_sem,Gd,Gc];refine YB rfl rfl trivial rfl sM ?_;simp only[go_sem];refine JaK 2 (λid=>.slc id 0 t.nodes.length (some t.nodes.length)) (.arr 1 (Gh t.nodes.length [.bool false])) rfl (λ_=>rfl) (MF 1 vk vk) (λ_ _ _ h=>FW _ _ _ _ h) rfl rfl rfl vk vk (Io _ _ rfl) sM ?_;simp only[go_sem,Gd,Gc];refine JaK 3 (λid=>.map id) (.map []) rfl (λ_=>rfl) trivial (λ_ _ _ h=>Dm _ _ _ h) rfl rfl rfl vk vk rfl sM ?_;simp only[go_sem,Gd,Gc];refine JaK 4 (λid=>.map id) (.map []) rfl (λ_=>rfl) trivial (λ_ _ _ h=>Dm _ _ _ h) rfl rfl rfl vk vk rfl sM ?_;simp only[go_sem,Gd,Gc];have AR:∀(H:Lt) (i:Nat),(∃ob,H[i]? = some ob/\ob.alive=true)->okId H 0 i:=λH i ⟨ob,h1,h2⟩=>⟨(GG.1 h1).1,λhd=>by rw[hd]at h1;cases h1;cases h2⟩
 refine YB rfl rfl trivial rfl (by intro i hi;simp only[G9,G6,or_false]at hi;rcases hi with rfl|rfl|rfl|rfl|rfl|rfl <;> exact AR _ _ ⟨_,rfl,rfl⟩) ?_
 simp only[go_sem];refine JaK 0 (λid=>.ptr id 0 0) (.arr 11 [[.rslc 5 (ndz t.nodes) none,.rslc 1 (iz t.items) none,.rslc 1 (iz of) none,.slc 5 0 t.nodes.length (some t.nodes.length),.slc 6 0 t.nodes.length (some t.nodes.length),.slc 1 0 t.nodes.length (some t.nodes.length),.slc 2 0 t.nodes.length (some t.nodes.length),.map 3,.map 4,.int .i64 0,.bool false]]) rfl (λ_=>rfl) trivial (λ_ _ _ h=>RA _ _ _ h) rfl rfl rfl vk vk rfl (by intro i hi;simp only[G9,G6,or_false]at hi;rcases hi with rfl|rfl|rfl|rfl|rfl|rfl <;> exact AR _ _ ⟨_,rfl,rfl⟩) ?_
 simp only[go_sem,Gd];refine JaK 7 (λid=>.ptr id 0 0) (.arr 1 [[.nilp]]) rfl (λ_=>rfl) trivial (λ_ _ _ h=>RA _ _ _ h) rfl rfl rfl vk vk rfl sM ?_;simp only[go_sem,Gd,Gc];refine vz_set 7 (.arr 1 [[.ptr 0 0 0]]) rfl (λH2 h=>?_) (c:=.and (.le 1 1) (.le 1 1)) (v:=.un) ?_ rfl rfl rfl (by intro i hi;rw[Hf]at hi;subst hi;exact AR _ _ ⟨_,rfl,rfl⟩) sM ?_
 ·have h2:H2[7]? = some (CObj.arr 1 [[CV.nilp]]):=h;simp only[exec,go_sem,h2]
 ·exact⟨Gu _,Gu _⟩
 simp only[vdz,go_sem,JM,frz,ren,JG,Gd,Gc,GH,Gq,GD,if_true,if_false];refine vr_wkE (i:=1) (z:=1) (els':=gz (Gh t.nodes.length [])) rfl (by simp[gz]) (λj a b h1 h2=>?_) ?_
 ·rw[Gz]at h1;simp only[gz,List.map_replicate,Gz]at h2
  split at h1
  ·rename_i hj;rw[if_pos hj]at h2
   cases h1;cases h2
   exact⟨wk.nils,trivial⟩
  ·cases h1
 simp only[go_sem,Gd,Gc];refine Jar (H':=nfH t of (upZ t 0) (fiZ t o 0) []) (by rw[upZ_zero g,fiZ_zero];simp[nfH,bqz,iz]) ?_;simp only[go_sem,Ja];refine Jr (I:=λj:Nat=>j<=t.nodes.length) (inv:=λj=>mkT 71 [(6,.ptr 7 0 0),(30,.rslc 5 (ndz t.nodes) none),(31,.int .i64 (t.nodes.length:Int)),(32,.int .i64 (j:Int))]) (hp:=λj=>nfH t of (upZ t j) (fiZ t o j) []) (μ:=λj=>t.nodes.length-j) 0 [0,1,2,3,4,5,6,7] om rfl ?_ nfH_ren ?_
 ·simp only[JR,Gi,Gj,ren,Jk];refine Js ?_;simp[Kh,Ko]
 ·intro j hj;by_cases Ab:j<t.nodes.length
  ·have d2:=dtT j t.nodes.length;have hg:=JZ Ab;simp only[go_sem,nfH,d2,Ja,hg,Nd.cv]
   repeat refine anO ?_
   have fr:KA 8 1 [[.int .i64 (j:Int)]] (nfH t of (upZ t j) (fiZ t o j) [.arr 1 [[.int .i64 (j:Int)]],.arr 5 [(nd t j).cv]])=nfH t of (upZ t j) (fiZ t o j) [.dead,.arr 5 [(nd t j).cv]]:=nfH_frz (id:=0);have fr2:KA 9 5 [(nd t j).cv] (nfH t of (upZ t j) (fiZ t o j) [.dead,.arr 5 [(nd t j).cv]])=nfH t of (upZ t j) (fiZ t o j) [.dead,.dead]:=nfH_frz (id:=1);simp only[nfH,Nd.cv]at fr fr2;refine Je (id:=8) (z:=1) (els:=[[.int .i64 (j:Int)]]) rfl rfl ?_;rw[fr];simp only[go_sem,Jy,frz,Gi,Gj,GH,Gq,GD,if_true,if_false];refine Je (id:=9) (z:=5) (els:=[(nd t j).cv]) rfl rfl ?_;simp only[Nd.cv];rw[fr2];simp only[go_sem,Jy,frz,Gi,Gj,GH,Gq,GD,if_true,if_false];refine JJ [1,0,0,1,0,0,1,2] Jm vM ?_;have EF:(iz (fiZ t o j)).length=t.nodes.length:=by rw[Jf,Jbf]
   have F3:(iz (fiZ t o j)).getD j []=[.int .i64 ((fiZ t o j).getD j 0)]:=JF (by rw[Jbf];exact Ab);simp only[go_sem,EF,F3,iz_set]
   repeat refine anO ?_
   refine J3 (backward (nd t j).kids) ?_;simp only[go_sem];have Bh:=(JbR ht Ab).kidn;refine Jar (H':=nfH t of (Xz (j:Int) (upZ t j) ((nd t j).kids.reverse.take 0)) ((fiZ t o j).set j (fiS o j (nd t j).kids 0)) [.dead,.dead]) rfl ?_;simp only[go_sem];refine vr_rfuncJ (xs:=bks (nd t j).kids) (Γ:=Unit) (λs _=>True) (λs _=>nfH t of (Xz (j:Int) (upZ t j) ((nd t j).kids.reverse.take s)) ((fiZ t o j).set j (fiS o j (nd t j).kids s)) [.dead,.dead]) () trivial rfl rfl rfl rfl c87_ok nm (backward1 _ om) (by simp[bks]) rfl ?_ ?_
   ·intro s _ c _ hc;have Dn:s<(nd t j).kids.length:=by have:=(GG.1 hc).1;rwa [Jfl]at this
    rw[bks_get Dn]at hc
    cases hc
    have Ed:s<(nd t j).kids.reverse.length:=by rw[List.length_reverse];exact Dn
    have Al:(nd t j).kids.reverse.take (s+1)=(nd t j).kids.reverse.take s++[(nd t j).kids.reverse.getD s 0]:=by rw[List.take_succ_eq_append_getElem Ed,Gb,Gx Ed];rfl
    have AO:(nd t j).kids.reverse.getD s 0∈(nd t j).kids:=by rw[Gb,Gx Ed,Gp,<-List.mem_reverse];exact Ho Ed
    have jQ:=g.kid Ab AO;have Eg:fiS o j (nd t j).kids (s+1)=fs o ((nd t j).kids.reverse.getD s 0):=by unfold fiS;rw[iN7,Nat.add_sub_cancel]
    generalize (nd t j).kids.reverse.getD s 0=k at *;obtain⟨c,rfl⟩:∃c:Nat,k=c:=⟨k.toNat,om⟩;have fq:(iz (Xz (j:Int) (upZ t j) ((nd t j).kids.reverse.take s))).length=t.nodes.length:=by rw[Jf,Jbt,JcV]
    have AL:(iz ((fiZ t o j).set j (fiS o j (nd t j).kids s))).length=t.nodes.length:=by rw[Jf,GN,Jbf]
    have Uq:∀x:Nat,x<t.nodes.length->(iz ((fiZ t o j).set j (fiS o j (nd t j).kids s))).getD x []=[.int .i64 (if x=j then fiS o j (nd t j).kids s else(fiZ t o j).getD x 0)]:=λx hx=>by
     rw[JF (by rw[GN,Jbf];exact hx),Gb,List.getElem?_set];by_cases e:j=x
     ·subst e;simp[Jbf,hx]
     ·rw[if_neg e,if_neg (λh=>e h.symm),<-Gb]
    have D5:=Uq c om;have Bq:=Uq j Ab;rw[iN7,fiZ_get om om]at D5;rw[if_pos rfl]at Bq;have fu:(iz (Xz (j:Int) (upZ t j) ((nd t j).kids.reverse.take s))).getD c []=[.int .i64 ((Xz (j:Int) (upZ t j) ((nd t j).kids.reverse.take s)).getD c 0)]:=JF (by rw[Jbt,JcV];omega);simp only[go_sem,nfH];refine JJ [1,0,0,1,0,1,0,0,1,0,0,1,0,0,1,0,1,1,1,2,1,2] Jm vM ?_;simp only[go_sem,fq,AL,D5,Bq,fu,iz_set]
    repeat refine anO ?_
    rw[Al,JbW,Eg,List.set_set];exact⟨(),rfl⟩
   ·intro _ _;rw[Jfl,GY sM,<-upZ_succ g Ab,fiZ_succ g Ab];simp only[go_sem];refine⟨Jg,j+1,[0,1,2,3,4,5,6,7],om,om,rfl,nfH_ren,?_⟩;simp only[ren,Jk];refine Js ?_;simp[Kh,Ko]
  ·have d2:=dfF j t.nodes.length;obtain rfl:j=t.nodes.length:=om
   simp only[go_sem,nfH,d2];exact nfH_end rfl
end
def typV (t:Tr)(o:Lu):CV:=if (YP t o).2≠0 then .tup [.agg [.nils],.int .i64 ((YP t o).1:Int),.int .i64 (YP t o).2] else match (Kw t o).bad with
 |some i=>.tup [.agg [.nils],.int .i64 (i:Int),.int .i64 11]
 |none=>.tup [.agg [.rslc 1 (gz (Kw t o).got) none],.int .i64 0,.int .i64 0]
def cpG (got:List TL)(n j:Nat):List TL:=(Gm n).map λx=>if x<j then Jt got x else []
theorem cpG_len{j:Nat}:(cpG got n j).length=n:=by simp[cpG]
theorem cpG_set{j:Nat}:(cpG got n j).set j (Jt got j)=cpG got n (j+1):=by
 refine GM (by simp[cpG]) λx h1 h2=>?_
 rw[Hm];simp only[cpG,GL,GI];by_cases e:j=x
 ·subst e;simp
 ·rw[if_neg e];by_cases h:x<j
  ·rw[if_pos h,iP7]
  ·rw[if_neg h,iN7]
theorem cpG_all(h:got.length=n):cpG got n n=got:=by
 refine GM (by simp[cpG,h]) λx h1 h2=>?_
 simp only[cpG,GL,GI];rw[if_pos (by simpa [cpG]using h1)];unfold Jt;rw[Gb,Gx h2];rfl
theorem nf_in{S:FS}{x:CV}(hx:x.closed=true):KD [1,2,3,4,5,0] (Yw [] 1 0 (hpF K S []) [.arr 1 [[x]]])=hpF K S [.arr 1 [[x]]]:=by
 have h1:=JbB (τ:=tau [] 1) (z:=1) (KP S.got);have h2:=JbB (τ:=tau [] 1) (z:=1) (Qt S.dn);have h3:∀l:List (Nat×Bool),moO (tau [] 1) (.map (kz l))=.map (kz l):=λl=>by show CObj.map ((kz l).map λp=>(mo _ p.1,mo _ p.2))=_;unfold kz;rw[List.map_map];rfl
 have e:Yw [] 1 0 (hpF K S []) [.arr 1 [[x]]]=[.arr 1 [[x]],moO (tau [] 1) (.arr 11 [fRow K S.bad]),.arr 1 (gz S.got),.arr 1 (bqz S.dn),.map (kz S.fd),.map (kz S.fg)]:=by rw[<-h1,<-h2,<-h3 S.fd,<-h3 S.fg];rfl
 rw[e];show [Xk _ (moO (tau [] 1) (.arr 11 [fRow K S.bad])),Xk _ (.arr 1 (gz S.got)),Xk _ (.arr 1 (bqz S.dn)),Xk _ (.map (kz S.fd)),Xk _ (.map (kz S.fg)),Xk _ (.arr 1 [[x]])]=_;have h4:∀l:List (Nat×Bool),Xk [1,2,3,4,5,0] (.map (kz l))=.map (kz l):=λl=>by rw[Jg8,ren_kz]
 rw[h4,h4];simp only[Xk];rw[Jb (KP _),Jb (Qt _)];have h5:JG [1,2,3,4,5,0] [x]=[x]:=by simp only[JG,Yx x hx]
 simp only[Gi,Gj,h5];rfl
theorem in_ren{S:FS}:KD [0,1,2,3,4,5,6] (hpF K S [.arr 1 [[.slc 6 0 n (some n)]],.arr 1 (gz got)])=hpF K S [.arr 1 [[.slc 6 0 n (some n)]],.arr 1 (gz got)]:=by refine Qn ?_;show [Xk _ (.arr 1 [[.slc 6 0 n (some n)]]),Xk _ (.arr 1 (gz got))]=_;simp only[Xk];rw[Jb (KP _)];rfl
section
variable(g:GoodT t o)(ht:t.Fit)
include g ht
omit ht in
theorem in_pre {S':FS}{j:Nat}(hj:j<t.nodes.length)(hd:S'.bad=none->∀k,k<j->S'.dn.getD (0+k) false=true):PreQ t o S' j:=λhb=>by
 have CB:=hd hb;refine⟨λc hc=>?_,λv hv Ce Pe _=>?_⟩
 ·have Aw:=(JX g hj hc).2;have:=CB c om;rw[Gr]at this;exact this
 ·have:=CB v om;rw[Gr]at this;exact this
theorem Jat:Fn Gs 9 [t.cv] (typV t o):=by
 have Ag:=g.many;have hR:=nResolve g ht;refine fn_fnl ?_ rfl (by unfold typV;split;rfl;split <;> rfl);refine vfS c9_ok λN=>?_
 simp only[c9,go_sem,Tr.cv,Tr.row];refine J3 hR ?_;by_cases hE:(YP t o).2=0
 ·rw[if_pos hE];simp only[go_sem];refine Je (id:=0) (z:=2) (els:=[t.row]) rfl rfl ?_;simp only[go_sem,Tr.row];refine Je (id:=2) (z:=1) (els:=[[.rslc 1 (iz (ofL t o)) none]]) rfl rfl ?_;simp only[go_sem];refine vr_ren [1] rfl ?_;simp only[go_sem];refine Jar (H':=[.arr 1 [[.nils]]]) rfl ?_;simp only[go_sem,JM,frz,ren,JG,GH,Gq,GD,if_true,if_false,Jk];have hI:=Jhp g hE;have FJ:∀j,(KC 0 (j+1)).foldl (doF t o (mnF t o) (t.nodes.length+1)) (FS.start t)=doF t o (mnF t o) (t.nodes.length+1) ((KC 0 j).foldl (doF t o (mnF t o) (t.nodes.length+1)) (FS.start t)) j:=λj=>by rw[JaX,G5,Gr];rfl
  have Aj:(KC 0 t.nodes.length).foldl (doF t o (mnF t o) (t.nodes.length+1)) (FS.start t)=Kw t o:=by
   unfold Kw KC
   congr 1
   exact List.map_congr_left (λx _=>Gr x) |>.trans (List.map_id _)
  have I8:Ln (FS.start t).got:=λj=>by
   unfold FS.start Jt;simp only[Gb,Gz]
   split <;> simp
  have Bd:=λj=>JbV ht (o:=o) (S:=FS.start t) I8 (t.nodes.length+1) (KC 0 j)
  have MM:uf t (FS.start t)<=t.nodes.length:=by unfold uf;have:=List.length_filter_le (λs=>!Kz (FS.start t).fg s) (Gm t.nodes.length);rw[List.length_range]at this;exact this
  refine vr_locE [] (.inl rfl) (newFinder g ht (ofL t o)) rfl rfl rfl (v2:=.ptr 1 0 0) rfl rfl ?_;simp only[go_sem,Ja,Gf,Gg,Gr];refine Jr (I:=λj:Nat=>j<=t.nodes.length) (inv:=λj=>mkT 67 [(1,.rptr [.rslc 5 (ndz t.nodes) none,.rslc 1 (iz t.items) none]),(2,.ptr 5 0 0),(6,.ptr 0 0 0),(25,.int .i64 (t.nodes.length:Int)),(26,.int .i64 (j:Int))]) (hp:=λj=>hpF (fK t o) ((KC 0 j).foldl (doF t o (mnF t o) (t.nodes.length+1)) (FS.start t)) [.arr 1 [[.nils]]]) (μ:=λj=>t.nodes.length-j) 0 [1,2,3,4,5,0] om rfl ?_ (nf_in rfl) ?_
  ·simp only[JR,Gi,Gj,ren,Jk];refine Js ?_;simp[Kh,Ko]
  ·intro j hj;obtain⟨q1,q2,q3,q4⟩:=hI j hj;have Ia:=Bd j;by_cases Ab:j<t.nodes.length
   ·have d2:=dtT j t.nodes.length;have hW:=lawDo g ht hE (t.nodes.length+1) _ j q1 q2 Ia Ab (in_pre g Ab q4) (by rw[uf_eq q3];omega);rw[<-FJ]at hW;simp only[go_sem,d2];refine KF hW (.inl rfl) rfl rfl rfl rfl ?_;simp only[go_sem];refine⟨Jg,j+1,[0,1,2,3,4,5],om,om,rfl,Qn rfl,?_⟩;simp only[ren,Jk];refine Js ?_;simp[Kh,Ko]
   ·have d2:=dfF j t.nodes.length;obtain rfl:j=t.nodes.length:=om
    have Ca:typV t o=match (Kw t o).bad with
     |some i=>.tup [.agg [.nils],.int .i64 (i:Int),.int .i64 11]
     |none=>.tup [.agg [.rslc 1 (gz (Kw t o).got) none],.int .i64 0,.int .i64 0]:=by unfold typV;rw[if_neg (λh=>h hE)]
    rw[Aj]at q1 Ia|-;have AL:=q1.gl;have iW:∀x,Qf (Jt (Kw t o).got x)=true:=q1.fine;generalize Kw t o=SI at *;obtain⟨got,dn,fd,fg,bad⟩:=SI
    dsimp only at AL Ia Ca iW
    cases bad with
    |some i=>
     rw[Ca];simp only[go_sem,d2,hpF,fRow,fK,Gn,Gp];refine JJ [0,0,0,0,4,2005,0,0] Jm vM ?_;simp only[go_sem,yexecN (show 1000<=2005 by decide)];refine vy_set 5 (.arr 1 [[.nils]]) (.inl rfl) (c:=.and (.le 1 1) (.le 1 1)) (v:=.un) (λH2 h=>?_) ⟨Gu _,Gu _⟩ sM ?_
     ·have h2:H2[5]? = some (CObj.arr 1 [[CV.nils]]):=h;simp only[exec,go_sem,h2]
     simp only[go_sem,Gd,Gc];exact Fnl.drop rfl (wk.refl _)
    |none=>
     rw[Ca];simp only[go_sem,d2,hpF,fRow,fK,Gv,Gw,Ja];have ai:(gz got).length=t.nodes.length:=by rw[QH,AL]
     have Aw:∀j,(gz (cpG got t.nodes.length j)).length=t.nodes.length:=λj=>by rw[QH,cpG_len]
     refine⟨⟨om,om,om,om⟩,?_⟩;refine vr_wkE (i:=6) (z:=1) (els':=gz (cpG got t.nodes.length 0)) rfl (by rw[Aw];simp) (λj a b h1 h2=>?_) ?_
     ·rw[Gz]at h1;have e:gz (cpG got t.nodes.length 0)=Gh t.nodes.length [txV []]:=by simp[gz,cpG,List.map_const']
      rw[e,Gz]at h2
      split at h1
      ·rename_i hj;rw[if_pos hj]at h2
       cases h1;cases h2
       exact⟨wk.nils,trivial⟩
      ·cases h1
     simp only[go_sem,Gd,Gc];refine Jr (I:=λj:Nat=>j<=t.nodes.length) (inv:=λj=>mkT 67 [(2,.ptr 5 0 0),(6,.ptr 0 0 0),(49,.int .i64 (t.nodes.length:Int)),(50,.int .i64 (j:Int))]) (hp:=λj=>hpF (fK t o) ⟨got,dn,fd,fg,none⟩ [.arr 1 [[.slc 6 0 t.nodes.length (some t.nodes.length)]],.arr 1 (gz (cpG got t.nodes.length j))]) (μ:=λj=>t.nodes.length-j) 0 [0,1,2,3,4,5,6] om rfl ?_ (in_ren (K:=fK t o) (S:=⟨got,dn,fd,fg,none⟩)) ?_
     ·simp only[JR,Gi,Gj,ren,Jk];refine Js ?_;simp[Kh,Ko]
     ·intro j hj;by_cases Ab:j<t.nodes.length
      ·have d3:=dtT j t.nodes.length;have Bq:=Qc (l:=got) (i:=j) om;have iI:=Qc (l:=cpG got t.nodes.length j) (i:=j) (by rw[cpG_len];exact Ab);have hC:=cloneTx (l:=Jt got j) (by have:=Ia j;omega);have BG:(gz (cpG got t.nodes.length j)).set j [.rslc 1 (txz (Jt got j)) none]=gz (cpG got t.nodes.length (j+1)):=by rw[<-cpG_set,<-gz_set];rfl
       simp only[go_sem,d3,hpF,fRow,fK];refine JJ [0,1,0,0,0,0,1,0,1,1,0,1,2] Jm vM ?_;simp only[go_sem,ai,Bq]
       repeat refine anO ?_
       refine JdL (.inl rfl) hC ?_;simp only[go_sem,txV,Aw,iI,Gf,Gg,BG]
       repeat refine anO ?_
       refine⟨Jg,j+1,[0,1,2,3,4,5,6],om,om,rfl,in_ren (K:=fK t o) (S:=⟨got,dn,fd,fg,none⟩),?_⟩;simp only[ren,Jk];refine Js ?_;simp[Kh,Ko]
      ·have d3:=dfF j t.nodes.length;obtain rfl:j=t.nodes.length:=om
       rw[cpG_all AL];simp only[go_sem,d3,hpF,fRow,fK];have hz:frz 6 1 (gz got) (.tup [.agg [.slc 6 0 t.nodes.length (some t.nodes.length)],.int .i64 0,.int .i64 0])=.tup [.agg [.rslc 1 (gz got) none],.int .i64 0,.int .i64 0]:=by simp only[frz,JM,if_true,Gr,Gq];rw[iP7,GY om]
       refine .frz 6 1 (gz got) rfl (KP _) ?_;rw[hz];exact Fnl.drop rfl (wk.refl _)
 ·rw[if_neg hE];have e:typV t o=.tup [.agg [.nils],.int .i64 ((YP t o).1:Int),.int .i64 (YP t o).2]:=by unfold typV;rw[if_pos hE]
  have d1:((YP t o).2 != 0)=true:=by simpa using hE
  rw[e];simp only[go_sem,d1];exact Fnl.drop rfl (wk.refl _)
end
end Go.Cm
end
end
