/-
  A part of the proof. Conditions: none.
-/
import Derived.Test.YtdnnimemociklaaGreatDoorWT2
set_option linter.unusedSimpArgs false
set_option linter.unusedVariables false
open Int renaming cast_ofNat_Int->Ga,toNat_natCast->Gi
open List renaming getD_eq_getElem?_getD->Gb,set_cons_zero->Gc,set_cons_succ->Gd,length_cons->Gf,length_nil->Gg,replicate->Gh,getElem?_eq_getElem->Gx,map_cons->Gj,map_nil->Gl,drop_zero->Gq,range->Gm,getElem?_replicate->Gz,getElem?_eq_some_iff->GG,getD_cons_zero->GH,mem_range->GA,all_eq_false->GI,length_take->GJ,take_of_length_le->GU,length_set->GK,take_zero->GL,drop_succ_cons->GV,getElem_range->GX,foldl_append->GY,mem_map->GM,not_mem_nil->GZ,length_drop->G5,getElem_map->G6,ext_getElem->G7,getElem?_take_of_lt->Ha,mem_cons->G8,getElem?_eq_none->Hd,mem_singleton->He,isEmpty_nil->Hf,isEmpty_iff->Hg,getElem_mem->Hl,range_succ->Hm,nil_append->Ho,append_nil->Hq,all_append->Hr,all_cons->Ht,all_nil->Hu
open Bool renaming and_true->Gt,true_and->Gy,false_and->GN,not_false->G9,not_true->Hw,false_or->Hy,true_or->Hz
open Nat renaming zero_add->Gr,le_refl->Gv,le_of_ble_eq_true->GQ,reduceEqDiff->GD,sub_zero->GR
open Go.Proofs.Tryz renaming prog->Gs
open Option renaming isSome_some->Gn,getD_some->Gp,isSome_none->Gu,getD_none->Gw,isSome_iff_exists->HV
noncomputable section
section
set_option maxRecDepth 100000
set_option maxHeartbeats 4000000
open Go.Proofs
namespace Go.Cm
variable {K:FT0}{Z:FS}{fi o up:Lu}{f i m n n0 z:Nat}{t:Tr}{got:List TL}{P:Program}{E:Env}{N:Fr}{Q:Exit->Ls->Lt->Prop}{H H' X:Lt}{T:Ls}{k:LJ}{l:TL}{r:Option TL}
section
variable(g:GoodT K.t o)(ht:K.t.Fit)
include g ht
omit ht in
theorem great1(hi:i<K.t.nodes.length)(hk:19<=(nd K.t i).k/\(nd K.t i).k<=25)(hl:Z.got.length=K.t.nodes.length)(hf:∀j,Yq (JE Z.got j)=true):Ans K Z 89 [.int .i64 (i:Int)] (Xa K.t m Z.got i):=by
 have Ah:=g.many;have hg:=J7 hi;have A7:(gz Z.got).length=K.t.nodes.length:=by rw[Yp,hl]
 have hp:=JgW g hi (Jc8 g hi (.inl hk));have Aw:(nd K.t i).kids.length=1:=by rw[hp];rfl
 have h0:=Jt g hi (i:=0) om;have k0:=Jd6 g (got:=Z.got) hi (j:=0) om (KF g hi om);rw[Gi]at k0;have CJ:=JbA g hi;generalize jP:JH K.t i 0=a at *;have Ao:a<K.t.nodes.length:=om
 have IB:=Xw (l:=Z.got) (i:=a) om;have hB:=λw=>fmAre (K:=K) (Z:=Z) (w:=tyT w) (ks:=[(a:Int)]) hl (by simp;omega) sM
 simp only[Ja2,Gi]at hB;have kP:=hB .int;have PR:=hB .bool;have Ul:=Jg9 (K:=K) Ao hl (hf a);have dD:=fmArrayed (K:=K) Ao hl (hf a);clear hB;rcases (show (nd K.t i).k=19\/(nd K.t i).k=20\/(nd K.t i).k=21\/(nd K.t i).k=23\/(nd K.t i).k=24\/(nd K.t i).k=22\/(nd K.t i).k=25 by omega) with hk|hk|hk|hk|hk|hk|hk
 ·refine Ans.of (txV [.bool]) (by rw[JY,hk,rk_not,k0]) rfl (λ_=>rfl) ?_;refine Kc (vfS c89_ok λN=>?_);simp only[c89,go_sem,hpF,fRow,Jb,hg,Nd.cv,hk,hp,Ga]
  repeat refine anO ?_
  refine KH PR (.inl rfl) rfl rfl rfl rfl ?_;simp only[go_sem];exact .one 1 rfl rfl rfl (wk.refl _)
 ·refine Ans.of (txV [.int]) (by rw[JY,hk,rk_neg,k0]) rfl (λ_=>rfl) ?_;refine Kc (vfS c89_ok λN=>?_);simp only[c89,go_sem,hpF,fRow,Jb,hg,Nd.cv,hk,hp,Ga]
  repeat refine anO ?_
  refine KH kP (.inl rfl) rfl rfl rfl rfl ?_;simp only[go_sem];exact .one 1 rfl rfl rfl (wk.refl _)
 ·refine Ans.of (.rslc 1 [[S (opT (prt (QH (JE Z.got a))))]] none) (by rw[JY,hk,rk_head,k0]) rfl (λh=>?_) ?_
  ·obtain⟨e,he⟩:=Jfz.1 h;rw[he];rfl
  refine Kc (vfS c89_ok λN=>?_);simp only[c89,go_sem,hpF,fRow,Jb,hg,Nd.cv,hk,hp,Ga,Kz,XN,Gf,Gg]
  repeat refine anO ?_
  refine KH Ul (.inl rfl) rfl rfl rfl rfl ?_;simp only[go_sem,hpF];exact .one 1 rfl rfl rfl (wk.refl _)
 ·refine Ans.of (txV [.bool]) (by rw[JY,hk,JhP,k0]) rfl (λ_=>rfl) ?_;refine Kc (vfS c89_ok λN=>?_);simp only[c89,go_sem,hpF,fRow,Jb,hg,Nd.cv,hk,hp,Ga,Kz,XN,Gf,Gg]
  repeat refine anO ?_
  refine KH Ul (.inl rfl) rfl rfl rfl rfl ?_;simp only[go_sem,hpF];exact .one 1 rfl rfl rfl (wk.refl _)
 ·refine Ans.of (txV [.int]) (by rw[JY,hk,rk_size,k0]) rfl (λ_=>rfl) ?_;refine Kc (vfS c89_ok λN=>?_);simp only[c89,go_sem,hpF,fRow,Jb,hg,Nd.cv,hk,hp,Ga,Kz,XN,Gf,Gg]
  repeat refine anO ?_
  refine KH dD (.inl rfl) rfl rfl rfl rfl ?_;simp only[go_sem,hpF];exact .one 1 rfl rfl rfl (wk.refl _)
 ·refine Ans.of (txV (JE Z.got a)) (by rw[JY,hk,rk_tail,k0]) rfl (λ_=>rfl) ?_;refine Kc (vfS c89_ok λN=>?_);simp only[c89,go_sem,hpF,fRow,Jb,hg,Nd.cv,hk,hp,Ga,Kz,XN,Gf,Gg]
  repeat refine anO ?_
  refine KH Ul (.inl rfl) rfl rfl rfl rfl ?_;simp only[go_sem,hpF,fRow];refine KL [0,0,0,1,0,0,0,1,1,0,0,0] Jr vM ?_;simp only[go_sem,IB,A7,Gf,Gg]
  repeat refine anO ?_
  exact .out (wk.refl _) rfl
 ·obtain⟨_,_,q3,q4⟩:=CJ (.inl hk);have CP:=JeV (t:=K.t) (i:=a) om;refine Ans.of (b:=true) (l:=[.str (tyN K.t a)]) (txV [.str (tyN K.t a)]) (by rw[JY,hk,rk_nil,jP];rfl) rfl (λ_=>rfl) ?_;refine Kc (vfS c89_ok λN=>?_);simp only[c89,go_sem,hpF,fRow,Jb,hg,Nd.cv,hk,hp,Ga,Kz,XN,Gf,Gg]
  repeat refine anO ?_
  refine KH (XY g a Ao q3 q4) (.inl rfl) rfl rfl rfl rfl ?_;simp only[go_sem];refine Kk (JeU _ om) ?_;simp only[go_sem,hpF];exact .one 1 rfl rfl rfl (wk.refl _)
theorem great2(hi:i<K.t.nodes.length)(hk:26<=(nd K.t i).k/\(nd K.t i).k<=29)(hl:Z.got.length=K.t.nodes.length)(hf:∀j,Yq (JE Z.got j)=true)(BH:Ln Z.got)(Bf:K.of.length=K.t.nodes.length)(hm:(nd K.t i).k=26->K.of.getD i 0=(m:Int)/\m<K.t.nodes.length/\(nd K.t m).k=65):Ans K Z 89 [.int .i64 (i:Int)] (Xa K.t m Z.got i):=by
 have Ah:=g.many;have hg:=J7 hi;have A7:(gz Z.got).length=K.t.nodes.length:=by rw[Yp,hl]
 have Aj:(iz (nd K.t i).kids).length=(nd K.t i).kids.length:=Jf;have BL:=(JfK ht hi).kidn;have hK:∀j,j<(nd K.t i).kids.length->∃c:Nat,(iz (nd K.t i).kids).getD j []=[.int .i64 (c:Int)]/\c<K.t.nodes.length/\KK K.t Z.got i j=JE Z.got c:=λj hj=>by have h1:=Jt g hi (i:=j) hj;exact⟨JH K.t i j,by rw[JL hj,KF g hi hj],om,by rw[Jd6 g hi hj (KF g hi hj),Gi]⟩
 have hB:=λ(c:Nat) (hc:c<K.t.nodes.length)=>fmAre (K:=K) (Z:=Z) (w:=tyT .bool) (ks:=[(c:Int)]) hl (by simp;omega) sM
 simp only[Ja2,Gi]at hB;rcases (show (nd K.t i).k=26\/(nd K.t i).k=27\/(nd K.t i).k=28\/(nd K.t i).k=29 by omega) with hk|hk|hk|hk
 ·obtain⟨m1,m2,m3⟩:=hm hk;obtain⟨x,Bg,AY,hC⟩:=fmCall g ht (Z:=Z) hi hk Bf m1 m2 m3 hl;refine⟨x,Bg,AY,?_⟩;refine Kc (vfS c89_ok λN=>?_);simp only[c89,go_sem,hpF,fRow,Jb,hg,Nd.cv,hk,Ga]
  repeat refine anO ?_
  refine KH hC (.inl rfl) rfl rfl rfl (by simp only[CV.closed,Jp,Bg,Gt]) ?_;simp only[go_sem];exact .out (wk.refl _) (by simp only[CV.closed,Jp,Bg,Gt])
 ·have h3:=kids_if g hi hk;obtain⟨a,a1,a2,a3⟩:=hK 0 om;obtain⟨b,b1,b2,b3⟩:=hK 1 om;obtain⟨c,c1,c2,c3⟩:=hK 2 om;rw[h3]at Aj;have IB:=Xw (l:=Z.got) (i:=a) om;have UZ:=Xw (l:=Z.got) (i:=b) om;have Dp:=Xw (l:=Z.got) (i:=c) om;have hE:=equalTx (JE Z.got b) (JE Z.got c) (by have:=BH b;omega);refine Ans.of (txV (JE Z.got b)) (by rw[JY,hk,rk_if,a3,b3,c3]) rfl (λ_=>rfl) ?_;refine Kc (vfS c89_ok λN=>?_);simp only[c89,go_sem,hpF,fRow,Jb,hg,Nd.cv,hk,Ga]
  repeat refine anO ?_
  refine KL [0,0,0,1,0,0,0,1,1,0,0,0,0,0,1,0,0,0,0,1,0,0,0,1,1,0,0,0,1,0,0,0,1,1,0,0,0,0] Jr vM ?_;simp only[go_sem,Aj,a1,b1,UZ,A7]
  repeat refine anO ?_
  refine vy_row (iz [(a:Int)]) (.inl rfl) rfl rfl rfl rfl ?_;simp only[go_sem];refine vy_p (.inl rfl) ((hB a a2).on rfl rfl) ?_
  cases hx:(JE Z.got a == [TyX.bool]) with
  |false=>simp only[go_sem,GN];exact .out (wk.refl _) rfl
  |true=>
   simp only[go_sem,Aj,b1,c1,UZ,Dp,A7,Gy]
   repeat refine anO ?_
   refine vy_f (gok rfl) hE ?_;simp only[go_sem];exact .out (wk.refl _) rfl
 ·obtain⟨n,b,n1,n2,n3,_⟩:=Yl g hi hk;change (nd K.t i).n=n at n1;change b<(nd K.t i).kids.length at n3;obtain⟨a,a1,a2,a3⟩:=hK n om;obtain⟨c,c1,c2,c3⟩:=hK ((nd K.t i).kids.length-1) om;have Dp:=Xw (l:=Z.got) (i:=c) om;refine Ans.of (txV (JE Z.got c)) (by rw[JY,hk,rk_loop,n1,Gi,a3,c3]) rfl (λ_=>rfl) ?_;refine Kc (vfS c89_ok λN=>?_);simp only[c89,go_sem,hpF,fRow,Jb,hg,Nd.cv,hk,Ga]
  repeat refine anO ?_
  refine KL [0,0,0,1,0,0,0,0,0,0,1,1,0,0,0,1,0,0,0,1,0,0] Jr vM ?_;simp only[go_sem,Aj,c1,Dp,A7,n1,a1]
  repeat refine And.intro (by first|omega|exact⟨om,om⟩|exact Ji) ?_
  refine vy_row (iz [(a:Int)]) (.inl rfl) rfl rfl rfl rfl ?_;simp only[go_sem];refine vy_p (.inl rfl) ((hB a a2).on rfl rfl) ?_;simp only[go_sem];exact .out (wk.refl _) rfl
 ·obtain⟨x,Bg,AY,hC⟩:=fmCells g ht (m:=m) hi hk hl hf;refine⟨x,Bg,AY,?_⟩;refine Kc (vfS c89_ok λN=>?_);rw[Nd.cv,hk]at hC;simp only[c89,go_sem,hpF,fRow,Jb,hg,Nd.cv,hk,Ga]
  repeat refine anO ?_
  refine KH hC (.inl rfl) rfl rfl rfl (by simp only[CV.closed,Jp,Bg,Gt]) ?_;simp only[go_sem];exact .out (wk.refl _) (by simp only[CV.closed,Jp,Bg,Gt])
end
theorem gvn_drop(g:GoodT t o)(hi:i<t.nodes.length):gvn got ((nd t i).kids.drop n)=YV ((Gm ((nd t i).kids.length-n)).map λj=>KK t got i (n+j)):=by
 unfold gvn
 congr 1
 refine G7 sM λj h1 h2=>?_
 simp only[List.length_map,G5]at h1;simp only[G6,List.getElem_drop,GX];have h3:=Jd6 g (got:=got) hi (j:=n+j) om (KF g hi om);have h4:(nd t i).kids[n+j]=(nd t i).kids.getD (n+j) 0:=by rw[Gb,Gx om];rfl
 rw[h3,h4,KF g hi om]
section
variable(g:GoodT K.t o)(ht:K.t.Fit)
include g ht
theorem part1(hi:i<K.t.nodes.length)(hk:30<=(nd K.t i).k/\(nd K.t i).k≠41)(hl:Z.got.length=K.t.nodes.length)(hf:∀j,Yq (JE Z.got j)=true)(BH:Ln Z.got)(Bf:K.of.length=K.t.nodes.length)(hm:(nd K.t i).k=44->K.of.getD i 0=(m:Int)/\m<K.t.nodes.length):Ans K Z 90 [.int .i64 (i:Int)] (Xa K.t m Z.got i):=by
 have Ah:=g.many;have hg:=J7 hi;have A7:(gz Z.got).length=K.t.nodes.length:=by rw[Yp,hl]
 have Aj:(iz (nd K.t i).kids).length=(nd K.t i).kids.length:=Jf;have BL:=(JfK ht hi).kidn;have CJ:=JbA g hi;have hK:∀j,j<(nd K.t i).kids.length->∃c:Nat,(iz (nd K.t i).kids).getD j []=[.int .i64 (c:Int)]/\c<K.t.nodes.length/\KK K.t Z.got i j=JE Z.got c/\JH K.t i j=c:=λj hj=>by have h1:=Jt g hi (i:=j) hj;exact⟨JH K.t i j,by rw[JL hj,KF g hi hj],om,by rw[Jd6 g hi hj (KF g hi hj),Gi],rfl⟩
 have Ew:∀k∈(nd K.t i).kids,0<=k/\k<K.t.nodes.length:=λk hk=>by have:=g.kid hi hk;omega
 by_cases D8:(nd K.t i).k=40
 ·obtain⟨n,n1,n2,_⟩:=Jhj g hi D8;change (nd K.t i).n=n at n1;change n<=(nd K.t i).kids.length at n2;obtain⟨x,Bg,AY,hC⟩:=fmGiven (K:=K) (Z:=Z) (ks:=(nd K.t i).kids.drop n) hl (λk hk=>Ew k (List.mem_of_mem_drop hk)) (by rw[G5];omega);have Bh:(iz ((nd K.t i).kids.drop n)).take ((nd K.t i).kids.length-n)=iz ((nd K.t i).kids.drop n):=GU (by rw[Jf,G5];omega);have hr:Xa K.t m Z.got i=gvn Z.got ((nd K.t i).kids.drop n):=by rw[JY,D8,rk_block,gvn_drop g hi,n1,Gi]
  rw[hr];refine⟨x,Bg,AY,?_⟩;refine Kc (vfS c90_ok λN=>?_);simp only[c90,go_sem,hpF,fRow,Jb,hg,Nd.cv,D8,n1,Ga,Aj,drop_iz,Bh]
  repeat refine And.intro (by first|omega|exact⟨om,om⟩|exact⟨om,om,om⟩) ?_
  refine KH hC (.inl rfl) rfl rfl rfl (by simp only[CV.closed,Jp,Bg,Gt]) ?_;simp only[go_sem];exact .out (wk.refl _) (by simp only[CV.closed,Jp,Bg,Gt])
 by_cases dJ:(nd K.t i).k=45
 ·obtain⟨x,Bg,AY,hC⟩:=fmGiven (K:=K) (Z:=Z) (ks:=(nd K.t i).kids) hl Ew om;have hr:Xa K.t m Z.got i=gvn Z.got (nd K.t i).kids:=by have:=gvn_drop g (got:=Z.got) (n:=0) hi;rw[Gq]at this;rw[JY,dJ,rk_give,this];simp only[GR,Gr]
  rw[hr];refine⟨x,Bg,AY,?_⟩;refine Kc (vfS c90_ok λN=>?_);simp only[c90,go_sem,hpF,fRow,Jb,hg,Nd.cv,dJ,Ga]
  repeat refine anO ?_
  refine KH hC (.inl rfl) rfl rfl rfl (by simp only[CV.closed,Jp,Bg,Gt]) ?_;simp only[go_sem];exact .out (wk.refl _) (by simp only[CV.closed,Jp,Bg,Gt])
 by_cases Ck:(nd K.t i).k=42
 ·have hB:=fmBare (K:=K) (Z:=Z) hi;by_cases hn:(nd K.t i).kids=[]
  ·rw[hn]at hB;refine Ans.of (b:=true) (l:=[]) (txV []) (by rw[JY,Ck,JhQ,if_pos hn];rfl) rfl (λ_=>rfl) ?_;refine Kc (vfS c90_ok λN=>?_);simp only[c90,go_sem,hpF,fRow,Jb,hg,Nd.cv,Ck,Ga]
   repeat refine anO ?_
   refine KH hB (.inl rfl) rfl rfl rfl rfl ?_;simp only[go_sem,Hf];exact .out (YN ⟨wk.nils,wk.refl _,trivial⟩) rfl
  ·obtain⟨q1,q2,q3,q4⟩:=CJ (.inr (.inr ⟨Ck,hn⟩));obtain⟨a,a1,a2,a3,a4⟩:=hK 0 q1;rw[a4]at q3 q4;have Ag:(nd K.t i).kids.isEmpty=false:=by cases h:(nd K.t i).kids <;> simp_all
   rw[Ag]at hB;refine Ans.of (b:=true) (l:=[tyN K.t a]) (txV [tyN K.t a]) (by rw[JY,Ck,JhQ,if_neg hn,a4];rfl) rfl (λ_=>rfl) ?_;refine Kc (vfS c90_ok λN=>?_);simp only[c90,go_sem,hpF,fRow,Jb,hg,Nd.cv,Ck,Ga]
   repeat refine anO ?_
   refine KH hB (.inl rfl) rfl rfl rfl rfl ?_;simp only[go_sem,Aj,a1];refine anO ?_;refine KH (XY g a a2 q3 q4) (.inl rfl) rfl rfl rfl rfl ?_;simp only[go_sem,hpF];exact .one 1 rfl rfl rfl (wk.refl _)
 by_cases BV:(nd K.t i).k=64
 ·obtain⟨q1,q2,q3,q4⟩:=CJ (.inr (.inl om));obtain⟨a,a1,a2,a3,a4⟩:=hK 0 q1;rw[a4]at q3 q4;refine Ans.of (b:=true) (l:=[tyN K.t a]) (txV [tyN K.t a]) (by rw[JY,BV,rk_param,a4];rfl) rfl (λ_=>rfl) ?_;refine Kc (vfS c90_ok λN=>?_);simp only[c90,go_sem,hpF,fRow,Jb,hg,Nd.cv,BV,Ga,Aj,a1]
  repeat refine anO ?_
  refine KH (XY g a a2 q3 q4) (.inl rfl) rfl rfl rfl rfl ?_;simp only[go_sem,hpF];exact .one 1 rfl rfl rfl (wk.refl _)
 by_cases Cq:(nd K.t i).k=43
 ·have h1:=Jc8 g hi (.inr (.inl Cq));obtain⟨a,a1,a2,a3,a4⟩:=hK 0 om;refine Ans.of (.rslc 1 [[S (opT (QH (JE Z.got a)))]] none) (by rw[JY,Cq,rk_init,a3]) rfl (λh=>?_) ?_
  ·cases ho:QH (JE Z.got a) with
   |none=>rw[ho]at h;cases h
   |some e=>rfl
  refine Kc (vfS c90_ok λN=>?_);simp only[c90,go_sem,hpF,fRow,Jb,hg,Nd.cv,Cq,Ga,Aj,a1]
  repeat refine anO ?_
  refine KH (fmOne (Z:=Z) a2 hl) (.inl rfl) rfl rfl rfl rfl ?_;simp only[go_sem,hpF];exact .one 1 rfl rfl rfl (wk.refl _)
 by_cases BC:(nd K.t i).k=44
 ·have h1:=Jc8 g hi (.inr (.inr (.inl BC)));obtain⟨a,a1,a2,a3,a4⟩:=hK 0 om;obtain⟨m1,m2⟩:=hm BC;have O9:(iz K.of).getD i []=[.int .i64 (m:Int)]:=by rw[JL om,m1]
  have Cc:(iz K.of).length=K.t.nodes.length:=by rw[Jf,Bf]
  have hA:=fmAre (K:=K) (Z:=Z) (w:=opT (QH (JE Z.got m))) (ks:=[(a:Int)]) hl (by simp;omega) sM;have hb:areB Z.got (opT (QH (JE Z.got m))) [(a:Int)]=((QH (JE Z.got m)).isSome && JE Z.got a == [(QH (JE Z.got m)).getD .int]):=by
   cases QH (JE Z.got m) with
   |none=>rw[show opT none=[] from rfl,are_none];rfl
   |some e=>rw[show opT (some e)=tyT e from rfl,Ja2,Gi];rfl
  rw[hb]at hA;refine Ans.of (l:=[]) (txV []) (by rw[JY,BC,rk_next,a3]) rfl (λ_=>rfl) ?_;refine Kc (vfS c90_ok λN=>?_);simp only[c90,go_sem,hpF,fRow,Jb,hg,Nd.cv,BC,Ga,O9,Cc]
  repeat refine anO ?_
  refine KH (fmOne (Z:=Z) m2 hl) (.inl rfl) rfl rfl rfl rfl ?_;simp only[go_sem,hpF,Aj,a1];refine anO ?_;refine Jdr (K:=K) (Z:=Z) 1 rfl rfl rfl ?_;simp only[go_sem,JV,frz,Gj,Gl,Qj,Gc,Gd,hpF,Nat.reduceAdd,GD,Gr,Gv,Gq,List.take_succ_cons,GL,Gf,Gg];refine KH hA (.inl rfl) rfl rfl rfl rfl ?_;simp only[go_sem,hpF];exact .out (YN ⟨wk.nils,wk.refl _,trivial⟩) rfl
 by_cases Bp:(nd K.t i).k=47
 ·refine Ans.of (b:=true) (l:=[.int]) (txV [.int]) (by rw[JY,Bp];rfl) rfl (λ_=>rfl) ?_;refine Kc (vfS c90_ok λN=>?_);simp only[c90,go_sem,hpF,fRow,Jb,hg,Nd.cv,Bp,Ga]
  repeat refine anO ?_
  exact .one 1 rfl rfl rfl (wk.refl _)
 by_cases BI:(nd K.t i).k=65
 ·have BD:=def_res g hi BI;obtain⟨a,a1,a2,a3,a4⟩:=hK ((nd K.t i).kids.length-1) om;have IB:=Xw (l:=Z.got) (i:=a) om;have CL:=sig_len ht i;have iO:∀x∈Jaj K.t i,(tyT x).length<=100000:=λx hx=>by unfold Jaj at hx;obtain⟨j,hj,rfl⟩:=GM.1 hx;have hj:=GA.1 hj;have hm:=Jt g hi (i:=(nd K.t i).n.toNat+j) om;have:=JeV (t:=K.t) (i:=JH K.t i ((nd K.t i).n.toNat+j)) om;omega
  have hG:=typGreat (Jaj K.t i) om iO;have hE:=equalTx (JE Z.got a) (Jaj K.t i) (by have:=BH a;omega);have hb:(Yq (Jaj K.t i) && JE Z.got a == Jaj K.t i)=(JE Z.got a == Jaj K.t i):=by
   cases he:(JE Z.got a == Jaj K.t i) with
   |false=>rw[Bool.and_false]
   |true=>rw[<-eq_of_beq he,hf a];rfl
  refine Ans.of (b:=Yq (Jaj K.t i) && JE Z.got a == Jaj K.t i) (l:=[]) (txV []) (by rw[JY,BI,rk_def,a3,hb]) rfl (λ_=>rfl) ?_;refine Kc (vfS c90_ok λN=>?_);simp only[c90,go_sem,hpF,fRow,Jb,hg,Nd.cv,BI,Ga]
  repeat refine anO ?_
  refine KH (fmSign g ht hi BI) (.inl rfl) rfl rfl rfl rfl ?_;simp only[go_sem,hpF,fRow];refine KL [0,0,0,0,0,0,0,1,0,0,0,0,0,0,1,1,0,0,0,0,0] Jr vM ?_;simp only[go_sem];refine vy_f (.inl rfl) hG ?_
  cases jB:Yq (Jaj K.t i) with
  |false=>simp only[go_sem,GN];exact .out (YN ⟨wk.nils,wk.refl _,trivial⟩) rfl
  |true=>
   simp only[go_sem,Gy,Aj,a1,IB,A7]
   repeat refine And.intro (by first|omega|exact⟨om,om⟩|exact Ji) ?_
   refine vy_f (gok rfl) hE ?_;simp only[go_sem];exact .out (YN ⟨wk.nils,wk.refl _,trivial⟩) rfl
 ·refine Ans.of (b:=true) (l:=[]) (txV []) (by rw[JY,rk_else om om];rfl) rfl (λ_=>rfl) ?_;have kk:∀q:Nat,(nd K.t i).k≠q->(((nd K.t i).k:Int) == (q:Int))=false:=λq h=>kb h
  have e40:=kk 40 D8;have e45:=kk 45 dJ;have e41:=kk 41 hk.2;have e42:=kk 42 Ck;have e64:=kk 64 BV;have e43:=kk 43 Cq;have e44:=kk 44 BC;have e47:=kk 47 Bp;have e65:=kk 65 BI;simp only[Ga]at e40 e45 e41 e42 e64 e43 e44 e47 e65;refine Kc (vfS c90_ok λN=>?_);simp only[c90,go_sem,hpF,fRow,Jb,hg,Nd.cv,e40,e45,e41,e42,e64,e43,e44,e47,e65]
  repeat refine anO ?_
  exact .out (YN ⟨wk.nils,wk.refl _,trivial⟩) rfl
end
section
variable{l:LB}{bs:Lx}
theorem five {α:Type}{H:List α}{a b c d e:α}(h0:H[0]? = some a)(h1:H[1]? = some b)(h2:H[2]? = some c)(h3:H[3]? = some d)(h4:H[4]? = some e):∃X,H=a::b::c::d::e::X:=by
 match H,h0,h1,h2,h3,h4 with
 |a'::b'::c'::d'::e'::X,h0,h1,h2,h3,h4=>simp at h0 h1 h2 h3 h4;exact⟨X,by rw[h0,h1,h2,h3,h4]⟩
theorem vy_me {d:Option Nat}{ge:Option (Nat×Bool)}{ags:LK}{args:Ls}{res:CV}(hM:FMe P f args K Z Z res)(hg:GOk T ge)(ha:ags.map (Ke T)=.ptr 0 0 0::args)(hH:H=hpF K Z X)(hc:Jp args=true)(hr:res.closed=true)(h:vdy P E n0 N Q k l bs (put T d res) H):vdyR P E n0 N Q none d (.call f ags) ge 4 k l bs T H:=by
 refine⟨res,H,?_,h⟩;show HS P E _ T H res H (.on [1,2,3,4,5],.on []);subst hH;refine⟨λ_ _=>rfl,λT2 H2 ag hx=>?_⟩;have Mt:∀i,i<5->H2[i]? = (hpF K Z X)[i]?:=λi hi=>by have:=hx (i+1) (by simp only[Foot.has,G8,GZ,or_false];omega);simpa [hat]using this
 obtain⟨X2,rfl⟩:=five (Mt 0 vk) (Mt 1 vk) (Mt 2 vk) (Mt 3 vk) (Mt 4 vk);have e2:ags.map (Ke T)=ags.map (Ke T2):=XP (Jl ag).2;refine⟨_,λy hy=>(by cases hy),λ_ _=>rfl,λn0 N Q k l Aq=>Jfn (YU ag hg) (by rw[<-e2,ha];exact hM.on (X:=X2) hc hr) ?_⟩;rintro v' H' ⟨rfl,rfl⟩;exact Aq
end
section
theorem fmFail:FMe Gs 55 [.int .i64 (i:Int)] K Z (Z.fail i) (.tup []):=by
 obtain⟨got,dn,fd,fg,bad⟩:=Z;refine Kc (J8 c55_ok λN=>?_)
 cases bad with
 |none=>
  simp only[c55,go_sem,hpF,fRow,Gu,Gw,Gf,Gg]
  repeat refine anO ?_
  exact .done (wk.refl _)
 |some b=>simp only[c55,go_sem,hpF,fRow,Gn,Gp];exact .done (wk.refl _)
variable(g:GoodT K.t o)(ht:K.t.Fit)
include g ht
theorem fmSettle {s:Nat}(hs:s<K.t.nodes.length)(hk:(nd K.t s).k=41)(hl:Z.got.length=K.t.nodes.length)(BH:Ln Z.got):FMe Gs 183 [.int .i64 (s:Int)] K Z (J4 K.t s Z) (.tup []):=by
 have Ah:=g.many;have hg:=J7 hs;have A7:(gz Z.got).length=K.t.nodes.length:=by rw[Yp,hl]
 have BL:=(JfK ht hs).kidn;obtain⟨n,n1,n2,n3,n4⟩:=Y8 g hs hk;change (nd K.t s).n=n at n1;change (nd K.t s).kids.length=n+1 at n2;have hE:=fmExpr g ht (Z:=Z) hs hk;obtain⟨_,_,_,hL⟩:=Kr g hs hk;have IB:=Xw (l:=Z.got) (i:=Jh K.t s) om;have PN:=BH (Jh K.t s);refine Kc (vfS c183_ok λN=>?_);simp only[c183,go_sem,hpF,fRow];refine KL [0,0,0,0,4,0,0,0,0,0,0,4,0,0,4,4,4,1005,2005,0] Jr vM ?_;simp only[go_sem,Jb,hg,Nd.cv,n1]
 repeat refine And.intro (by first|omega|exact⟨om,om⟩|(simp;done)) ?_
 refine vy_me hE (.inl rfl) rfl rfl rfl rfl ?_;simp only[go_sem,IB,A7,yexecN (show 1000<=1005 by decide)]
 repeat refine And.intro (by first|omega|exact⟨om,om⟩|(simp;done)) ?_
 refine vy_new 5 (c:=.tt) (λid=>.ptr id 0 0) (.arr 5 [[.int .u8 0,S [],.int .i64 0,.nils,.int .i64 0]]) (.inl rfl) rfl (λH2=>rfl) trivial vk ?_;simp only[go_sem,yexecN (show 1000<=2005 by decide)];refine vy_set 5 (c:=.and (.le 1 1) (.le 5 5)) (v:=.un) (.arr 5 [ndA (nd K.t s) n]) (.inl rfl) (λH2 h=>?_) ⟨Gv _,Gv _⟩ sM ?_
 ·simp only[List.getElem?_cons_succ,List.getElem?_cons_zero]at h;simp only[exec,go_sem,h];rfl
 have Bz:(txz (JE Z.got (Jh K.t s))).length=(JE Z.got (Jh K.t s)).length:=XR;by_cases Ad:(JE Z.got (Jh K.t s)).length=n
 case neg=>
  have hS:J4 K.t s Z=Z.fail s:=by unfold J4;simp only;rw[if_neg (by rw[n1,Gi];exact Ad)]
  have d1:(((JE Z.got (Jh K.t s)).length:Int) != (n:Int))=true:=by simp;omega
  rw[hS];simp only[go_sem,txV,Bz,d1,ndA];refine KH (fmFail (Z:=Z)) (.inl rfl) rfl rfl rfl rfl ?_;simp only[go_sem];exact .out (wk.refl _) rfl
 have hS:J4 K.t s Z = { Z with got:=Ja6 K.t s (JE Z.got (Jh K.t s)) Z.got n,fd:=XX s true Z.fd }:=by unfold J4;simp only;rw[n1,Gi,if_pos Ad]
 rw[hS];clear hS;generalize JE Z.got (Jh K.t s)=l at *;have d1:((l.length:Int) != (n:Int))=false:=by simp[Ad]
 have Aj:(iz ((nd K.t s).kids.take n)).length=n:=by rw[Jf,GJ];omega
 simp only[go_sem,txV,Bz,d1,ndA,JeX,GR,Aj]
 repeat refine And.intro (by first|omega|exact⟨om,om⟩|exact⟨om,om,om⟩|(simp[Jf];omega)) ?_
 have DV:∀j,(Ja6 K.t s l Z.got j).length=K.t.nodes.length:=λj=>by rw[JaQ];exact hl
 refine Js (I:=λj:Nat=>j<=n) (inv:=λj=>mkT 64 [(0,.ptr 0 0 0),(1,.int .i64 (s:Int)),(5,txV l),(37,.rslc 1 (iz ((nd K.t s).kids.take n)) none),(38,.int .i64 (n:Int)),(39,.int .i64 (j:Int))]) (hp:=λj=>hpF K { Z with got:=Ja6 K.t s l Z.got j } []) (μ:=λj=>n-j) 0 [0,1,2,3,4] om rfl ?_ ?_ ?_
 ·simp only[QA,Gj,Gl,ren,Jm];refine JI ?_;simp[K6,KZ,txV]
 ·exact Qt (K:=K) (Z:=Z) (X:=[.arr 5 [ndA (nd K.t s) n]]) rfl
 ·intro j hj;by_cases Ab:j<n
  ·have d2:=dtT j n;have hc:=KF g hs (j:=j) om;have hm:=Jt g hs (i:=j) om;have BG:(iz ((nd K.t s).kids.take n)).getD j []=[.int .i64 (JH K.t s j:Int)]:=by rw[JL (by rw[GJ];omega),Gb,Ha Ab,<-Gb,hc]
   have hB:=fmBare (K:=K) (Z:={ Z with got:=Ja6 K.t s l Z.got j }) (i:=JH K.t s j) om;have E8:Ja6 K.t s l Z.got (j+1)=if (nd K.t (JH K.t s j)).kids=[] then(Ja6 K.t s l Z.got j).set (JH K.t s j) [l.getD j .int] else Ja6 K.t s l Z.got j:=rfl
   simp only[go_sem,hpF,fRow,d2,BG,Aj]
   repeat refine anO ?_
   refine KH hB (.inl rfl) rfl rfl rfl rfl ?_;by_cases he:(nd K.t (JH K.t s j)).kids=[]
   ·rw[if_pos he]at E8;have ED:=Xw (l:=Ja6 K.t s l Z.got j) (i:=JH K.t s j) (by rw[DV];omega);have bv:(gz (Ja6 K.t s l Z.got j)).length=K.t.nodes.length:=by rw[Yp,DV]
    have DR:(gz (Ja6 K.t s l Z.got j)).set (JH K.t s j) [.rslc 1 (txz [l.getD j .int]) none]=gz (Ja6 K.t s l Z.got (j+1)):=by rw[E8];exact gz_set
    have CL:((txz l).drop j).take (((j:Int)+1).toNat-j)=txz [l.getD j .int]:=by rw[show ((j:Int)+1).toNat-j=1 by omega];rw[List.drop_eq_getElem_cons (by rw[Bz];omega)];simp[txz,Gb,Gx (show j<l.length by omega)]
    simp only[go_sem,hpF,fRow,he,Hf];refine KL [0,0,0,1,0,0,0,0,0,0,1,2] Jr vM ?_;simp only[go_sem,txV,Bz,bv,ED,CL,DR,splice,Gf,Gg,GL,GV,Gq,Ho]
    repeat refine And.intro (by first|omega|exact⟨om,om⟩|exact⟨om,om,om⟩|exact Ji) ?_
    refine⟨j+1,[0,1,2,3,4],om,om,rfl,?_,?_⟩
    ·exact Qt (K:=K) (Z:={ Z with got:=Ja6 K.t s l Z.got (j+1) }) (X:=[]) rfl
    ·simp only[ren,Jm];refine JI ?_;simp[K6,KZ]
   ·rw[if_neg he]at E8;have Ag:(nd K.t (JH K.t s j)).kids.isEmpty=false:=by cases h:(nd K.t (JH K.t s j)).kids <;> simp_all
    simp only[go_sem,hpF,fRow,Ag,txV];refine⟨Ji,j+1,[0,1,2,3,4],om,om,rfl,?_,?_⟩
    ·rw[E8];exact Qt (K:=K) (Z:={ Z with got:=Ja6 K.t s l Z.got j }) (X:=[]) rfl
    ·simp only[ren,Jm];refine JI ?_;simp[K6,KZ]
  ·have d2:=dfF j n;obtain rfl:j=n:=om
   rcases JaU (k:=s) Z.fd 0 with ⟨h1,_,h3⟩|⟨q,h1,h3⟩
   ·simp only[go_sem,hpF,fRow,d2,h1,h3];exact .done (wk.refl _)
   ·rw[Gr]at h1;simp only[go_sem,hpF,fRow,d2,h1,h3];exact .done (wk.refl _)
omit ht in
theorem setF_ok (hI:FI K.t Z){s:Nat}(hs:s<K.t.nodes.length)(hk:(nd K.t s).k=41):FI K.t (Y9 K.t s Z)/\((Y9 K.t s Z).bad=none->(JE (Y9 K.t s Z).got (Jh K.t s)).length=nB K.t s):=by
 unfold Y9
 split
 ·rename_i hf;exact⟨hI,λ_=>(hI.fnd s hf).2.2.1⟩
 ·obtain⟨h1,_,h3,_⟩:=Yb g hI hs hk;exact⟨h1,λhb=>(h1.fnd s (h3 hb)).2.2.1⟩
omit g ht in
theorem setF_ln {s:Nat}(h:Ln Z.got):Ln (Y9 K.t s Z).got:=by
 unfold Y9;split
 ·exact h
 ·exact JcR h
def agr1 (t:Tr)(s:Nat)(l:TL)(k:Nat):Bool:=(nd t (JH t s k)).kids.isEmpty || tyN t (JH t (JH t s k) 0) == l.getD k .int
theorem fmSet {s:Nat}(hI:FI K.t Z)(BH:Ln Z.got)(hs:s<K.t.nodes.length)(hk:(nd K.t s).k=41):FMe Gs 145 [.int .i64 (s:Int)] K Z (Y9 K.t s Z) (.bool (!(Y9 K.t s Z).bad.isSome && Y1 K.t s (JE (Y9 K.t s Z).got (Jh K.t s)))):=by
 have Ah:=g.many;have hg:=J7 hs;have BL:=(JfK ht hs).kidn;obtain⟨n,n1,n2,n3,n4⟩:=Y8 g hs hk;change (nd K.t s).n=n at n1;change (nd K.t s).kids.length=n+1 at n2;obtain⟨b1,b2,_,hL⟩:=Kr g hs hk;have dY:nB K.t s=n:=om
 obtain⟨PP,Ad⟩:=setF_ok g hI hs hk;have Oc:=fmSettle g ht (Z:=Z) hs hk hI.gl BH;refine Kc (vfS c145_ok λN=>?_);have Dk:∀l,Y1 K.t s l=(Gm n).all λk=>agr1 K.t s l k:=λl=>by unfold Y1 agr1;rw[n1,Gi]
 rw[Dk];have Bv:∀j,j<n->∃c:Nat,(iz ((nd K.t s).kids.take n)).getD j []=[.int .i64 (c:Int)]/\c<K.t.nodes.length/\JH K.t s j=c/\(nd K.t c).k=42:=λj hj=>by have hm:=b2 j om;refine⟨JH K.t s j,?_,om,rfl,hm.1⟩;rw[JL (by rw[GJ];omega),Gb,Ha hj,<-Gb,KF g hs om]
 have Aj:(iz ((nd K.t s).kids.take n)).length=n:=by rw[Jf,GJ];omega
 have Od:=setF_ln (K:=K) (s:=s) BH
 cases hb:J2 Z.fd s with
 |false=>
  have e:Y9 K.t s Z=J4 K.t s Z:=by unfold Y9;rw[hb];rfl
  rw[<-e]at Oc;rcases JaU (k:=s) Z.fd 0 with ⟨h1,_,_⟩|⟨q,h1,_⟩
  case' inr=>rw[hb]at h1
  all_goals
   simp only[c145,go_sem,hpF,fRow,h1];refine KH Oc (.inl rfl) rfl rfl rfl rfl ?_;clear Oc e;generalize Y9 K.t s Z=Z1 at *;obtain⟨got1,dn1,fd1,fg1,bad1⟩:=Z1;have hE:=fmExpr g ht (Z:=⟨got1,dn1,fd1,fg1,bad1⟩) hs hk;have hB:=λ(c:Nat) (hc:c<K.t.nodes.length)=>fmBare (K:=K) (Z:=⟨got1,dn1,fd1,fg1,bad1⟩) (i:=c) hc
   have hW:=λ(c:Nat) h1 h2 h3=>XY (Z:=⟨got1,dn1,fd1,fg1,bad1⟩) g c h1 h2 h3
   have Fp:=PP.gl
   dsimp only at Ad Od Fp
   cases bad1 with
   |some b=>simp only[go_sem,hpF,fRow,Gn,Gp,Hw,GN];exact .done (wk.refl _)
   |none=>
    have FK:=Ad rfl;have A7:(gz got1).length=K.t.nodes.length:=by rw[Yp,Fp]
    have IB:=Xw (l:=got1) (i:=Jh K.t s) (by rw[Fp];omega);generalize JE got1 (Jh K.t s)=l at *;have Bz:(txz l).length=n:=by rw[XR,FK,dY]
    simp only[go_sem,hpF,fRow,Gu,Gw,G9,Gy,Jb,hg,Nd.cv,n1,Gf,Gg,splice,GL,GV,Gq,Ho,Hq]
    repeat refine And.intro (by first|omega|exact⟨om,om⟩|(simp;done)) ?_
    refine KL [0,0,0,4,0,0,4,4,4,0] Jr vM ?_;simp only[go_sem];refine vy_me hE (.inl rfl) rfl rfl rfl rfl ?_;simp only[go_sem,IB,A7,txV,JeX,GR,Aj]
    repeat refine And.intro (by first|omega|exact⟨om,om⟩|exact⟨om,om,om⟩|(simp[Jf];omega)) ?_
    refine Js (I:=λj:Nat=>j<=n/\(Gm j).all (λk=>agr1 K.t s l k)=true) (inv:=λj=>mkT 76 [(0,.ptr 0 0 0),(6,txV l),(44,.rslc 1 (iz ((nd K.t s).kids.take n)) none),(45,.int .i64 (n:Int)),(46,.int .i64 (j:Int))]) (hp:=λj=>hpF K ⟨got1,dn1,fd1,fg1,none⟩ []) (μ:=λj=>n-j) 0 [0,1,2,3,4] ⟨om,rfl⟩ rfl ?_ ?_ ?_
    ·simp only[QA,Gj,Gl,ren,Jm];refine JI ?_;simp[K6,KZ,txV]
    ·exact Qt (K:=K) (Z:=⟨got1,dn1,fd1,fg1,none⟩) (X:=[.arr 5 [ndA (nd K.t s) n]]) rfl
    ·rintro j ⟨hj,Bb⟩;by_cases Ab:j<n
     ·have d2:=dtT j n;obtain⟨c,c1,c2,c3,c4⟩:=Bv j Ab;have Dp:=J7 c2;have ax:=Jbf (l:=l) (i:=j) om;have BJ:(Gm (j+1)).all (λk=>agr1 K.t s l k)=((nd K.t c).kids.isEmpty || tyN K.t (JH K.t c 0) == l.getD j .int):=by rw[Hm,Hr,Bb,Gy,Ht,Hu,Gt];unfold agr1;rw[c3]
      have Fw:∀b,(Gm (j+1)).all (λk=>agr1 K.t s l k)=b->b=false->(Gm n).all (λk=>agr1 K.t s l k)=false:=λb h1 h2=>by subst h2;obtain⟨x,hx,Z8⟩:=GI.1 h1;exact GI.2 ⟨x,GA.2 (by have:=GA.1 hx;omega),Z8⟩
      simp only[go_sem,hpF,fRow,d2,c1,Aj]
      repeat refine anO ?_
      refine KL [0,0,4,0,0,0,0,0,0,0,4,0,0,0,0,0,0,4,0,0,0,0,0,0] Jr vM ?_;simp only[go_sem];refine vy_me (hB c c2) (.inl rfl) rfl rfl rfl rfl ?_;by_cases he:(nd K.t c).kids=[]
      ·have Ik:(nd K.t c).kids.isEmpty=true:=by rw[he];rfl
       rw[Ik,Hz]at BJ;simp only[go_sem,Ik,txV];refine⟨Ji,j+1,[0,1,2,3,4],⟨om,BJ⟩,om,rfl,?_,?_⟩
       ·exact Qt (K:=K) (Z:=⟨got1,dn1,fd1,fg1,none⟩) (X:=[]) rfl
       ·simp only[ren,Jm];refine JI ?_;simp[K6,KZ]
      ·have Ik:(nd K.t c).kids.isEmpty=false:=by cases h:(nd K.t c).kids <;> simp_all
       obtain⟨q1,q2,q3,q4⟩:=JbA g c2 (.inr (.inr ⟨c4,he⟩));have Ca:=KF g c2 (j:=0) q1;have FP:=JL (l:=(nd K.t c).kids) (i:=0) q1;rw[Ca]at FP;have Ar:(iz (nd K.t c).kids).length=(nd K.t c).kids.length:=Jf;rw[Ik,Hy]at BJ;simp only[go_sem,Ik,Jb,Dp,Nd.cv,Ar,FP]
       repeat refine And.intro (by first|omega|exact⟨om,om⟩|exact GQ rfl) ?_
       refine vy_me (hW (JH K.t c 0) om q3 q4) (gok rfl) rfl rfl rfl rfl ?_;simp only[go_sem,txV,Bz,ax,tyT_eq]
       repeat refine anO ?_
       cases hx:(tyN K.t (JH K.t c 0) == l.getD j .int) with
       |true=>
        rw[hx]at BJ;simp only[go_sem];refine⟨Ji,j+1,[0,1,2,3,4],⟨om,BJ⟩,om,rfl,?_,?_⟩
        ·exact Qt (K:=K) (Z:=⟨got1,dn1,fd1,fg1,none⟩) (X:=[]) rfl
        ·simp only[ren,Jm];refine JI ?_;simp[K6,KZ]
       |false=>rw[hx]at BJ;rw[Fw _ BJ rfl];simp only[go_sem];exact .done (wk.refl _)
     ·have d2:=dfF j n;obtain rfl:j=n:=om
      rw[Bb];simp only[go_sem,hpF,fRow,d2];exact .done (wk.refl _)
 |true=>
  have e:Y9 K.t s Z=Z:=by unfold Y9;rw[hb];rfl
  rw[e]at PP Ad Od|-;clear Oc;rcases JaU (k:=s) Z.fd 0 with ⟨_,h2,_⟩|⟨q,h1,_⟩
  ·rw[hb]at h2;cases h2
  rw[hb]at h1;simp only[c145,go_sem,hpF,fRow,h1]
  rename FS=>Z1
  obtain⟨got1,dn1,fd1,fg1,bad1⟩:=Z1;have hE:=fmExpr g ht (Z:=⟨got1,dn1,fd1,fg1,bad1⟩) hs hk;have hB:=λ(c:Nat) (hc:c<K.t.nodes.length)=>fmBare (K:=K) (Z:=⟨got1,dn1,fd1,fg1,bad1⟩) (i:=c) hc
  have hW:=λ(c:Nat) h1 h2 h3=>XY (Z:=⟨got1,dn1,fd1,fg1,bad1⟩) g c h1 h2 h3
  have Fp:=PP.gl
  dsimp only at Ad Od Fp
  cases bad1 with
  |some b=>simp only[go_sem,Gn,Gp,Hw,GN];exact .done (wk.refl _)
  |none=>
   have FK:=Ad rfl;have A7:(gz got1).length=K.t.nodes.length:=by rw[Yp,Fp]
   have IB:=Xw (l:=got1) (i:=Jh K.t s) (by rw[Fp];omega);generalize JE got1 (Jh K.t s)=l at *;have Bz:(txz l).length=n:=by rw[XR,FK,dY]
   simp only[go_sem,Gu,Gw,G9,Gy,Jb,hg,Nd.cv,n1,Gf,Gg,GL,GV,Gq,Hq]
   repeat refine And.intro (by first|omega|exact⟨om,om⟩|(simp;done)) ?_
   refine KL [0,0,0,4,0,0,4,4,4,0] Jr vM ?_;simp only[go_sem];refine vy_me hE (.inl rfl) rfl rfl rfl rfl ?_;simp only[go_sem,IB,A7,txV,JeX,GR,Aj]
   repeat refine And.intro (by first|omega|exact⟨om,om⟩|exact⟨om,om,om⟩|(simp[Jf];omega)) ?_
   refine Js (I:=λj:Nat=>j<=n/\(Gm j).all (λk=>agr1 K.t s l k)=true) (inv:=λj=>mkT 76 [(0,.ptr 0 0 0),(6,txV l),(44,.rslc 1 (iz ((nd K.t s).kids.take n)) none),(45,.int .i64 (n:Int)),(46,.int .i64 (j:Int))]) (hp:=λj=>hpF K ⟨got1,dn1,fd1,fg1,none⟩ []) (μ:=λj=>n-j) 0 [0,1,2,3,4] ⟨om,rfl⟩ rfl ?_ ?_ ?_
   ·simp only[QA,Gj,Gl,ren,Jm];refine JI ?_;simp[K6,KZ,txV]
   ·exact Qt (K:=K) (Z:=⟨got1,dn1,fd1,fg1,none⟩) (X:=[.arr 5 [ndA (nd K.t s) n]]) rfl
   ·rintro j ⟨hj,Bb⟩;by_cases Ab:j<n
    ·have d2:=dtT j n;obtain⟨c,c1,c2,c3,c4⟩:=Bv j Ab;have Dp:=J7 c2;have ax:=Jbf (l:=l) (i:=j) om;have BJ:(Gm (j+1)).all (λk=>agr1 K.t s l k)=((nd K.t c).kids.isEmpty || tyN K.t (JH K.t c 0) == l.getD j .int):=by rw[Hm,Hr,Bb,Gy,Ht,Hu,Gt];unfold agr1;rw[c3]
     have Fw:∀b,(Gm (j+1)).all (λk=>agr1 K.t s l k)=b->b=false->(Gm n).all (λk=>agr1 K.t s l k)=false:=λb h1 h2=>by subst h2;obtain⟨x,hx,Z8⟩:=GI.1 h1;exact GI.2 ⟨x,GA.2 (by have:=GA.1 hx;omega),Z8⟩
     simp only[go_sem,hpF,fRow,d2,c1,Aj]
     repeat refine anO ?_
     refine KL [0,0,4,0,0,0,0,0,0,0,4,0,0,0,0,0,0,4,0,0,0,0,0,0] Jr vM ?_;simp only[go_sem];refine vy_me (hB c c2) (.inl rfl) rfl rfl rfl rfl ?_;by_cases he:(nd K.t c).kids=[]
     ·have Ik:(nd K.t c).kids.isEmpty=true:=by rw[he];rfl
      rw[Ik,Hz]at BJ;simp only[go_sem,Ik,txV];refine⟨Ji,j+1,[0,1,2,3,4],⟨om,BJ⟩,om,rfl,?_,?_⟩
      ·exact Qt (K:=K) (Z:=⟨got1,dn1,fd1,fg1,none⟩) (X:=[]) rfl
      ·simp only[ren,Jm];refine JI ?_;simp[K6,KZ]
     ·have Ik:(nd K.t c).kids.isEmpty=false:=by cases h:(nd K.t c).kids <;> simp_all
      obtain⟨q1,q2,q3,q4⟩:=JbA g c2 (.inr (.inr ⟨c4,he⟩));have Ca:=KF g c2 (j:=0) q1;have FP:=JL (l:=(nd K.t c).kids) (i:=0) q1;rw[Ca]at FP;have Ar:(iz (nd K.t c).kids).length=(nd K.t c).kids.length:=Jf;rw[Ik,Hy]at BJ;simp only[go_sem,Ik,Jb,Dp,Nd.cv,Ar,FP]
      repeat refine And.intro (by first|omega|exact⟨om,om⟩|exact GQ rfl) ?_
      refine vy_me (hW (JH K.t c 0) om q3 q4) (gok rfl) rfl rfl rfl rfl ?_;simp only[go_sem,txV,Bz,ax,tyT_eq]
      repeat refine anO ?_
      cases hx:(tyN K.t (JH K.t c 0) == l.getD j .int) with
      |true=>
       rw[hx]at BJ;simp only[go_sem];refine⟨Ji,j+1,[0,1,2,3,4],⟨om,BJ⟩,om,rfl,?_,?_⟩
       ·exact Qt (K:=K) (Z:=⟨got1,dn1,fd1,fg1,none⟩) (X:=[]) rfl
       ·simp only[ren,Jm];refine JI ?_;simp[K6,KZ]
      |false=>rw[hx]at BJ;rw[Fw _ BJ rfl];simp only[go_sem];exact .done (wk.refl _)
    ·have d2:=dfF j n;obtain rfl:j=n:=om
     rw[Bb];simp only[go_sem,hpF,fRow,d2];exact .done (wk.refl _)
end
section
structure RS where
 got:List TL
 dn:LH
 fg:LH
 bad:Int
variable (t:Tr)(of:Lu)(R:RS)
variable {t of R}
end
theorem doF_bad{mean:Nat->Nat}{S:FS}(h:S.bad.isSome=true):doF t o mean f S i=S:=by
 cases f with
 |zero=>rfl
 |succ f=>rw[doF,if_pos (by rw[h];rfl)]
theorem fold_bad{mean:Nat->Nat}{S:FS}(h:S.bad.isSome=true):∀l:Lx,l.foldl (doF t o mean f) S=S
 |[]=>rfl
 |i::l=>by rw[List.foldl_cons,doF_bad h];exact fold_bad h l
theorem Jdq (e:H=H')(h:KA P E n0 N Q k T H'):Ok P E n0 N Q k T H:=by subst e;exact Jz _ _ _ h
def fK (t:Tr)(o:Lu):FT0:=⟨t,ofL t o,upZ t t.nodes.length,fiZ t o t.nodes.length⟩
abbrev mnF (t:Tr)(o:Lu):Nat->Nat:=λi=>(JD t o i).toNat
def GoW (t:Tr)(o:Lu)(f:Nat):Prop:=∀S i,FI t S->FM t o S->Ln S.got->i<t.nodes.length->Jgn t o S i->uf t S<f->FMe Gs 31 [.int .i64 (i:Int)] (fK t o) S (doF t o (mnF t o) f S i) (.tup [])
section
variable(g:GoodT t o)(ht:t.Fit)
include g ht
omit g in
theorem JhE {S:FS}(h:Ln S.got)(f:Nat):∀l:Lx,Ln (l.foldl (doF t o (mnF t o) f) S).got:=by
 intro l
 induction l generalizing S with
 |nil=>exact h
 |cons x l ih=>exact ih (doF_ln ht f S x h)
theorem fmForce (hE:(QO t o).2=0)(ih:GoW t o f){S:FS}{s:Nat}(hI:FI t S)(hM:FM t o S)(BH:Ln S.got)(hi:i<t.nodes.length)(hP:Jgn t o S i)(hu:uf t S<f+1)(hs:s<t.nodes.length)(Bo:(nd t s).k=41)(hm:(m:Int)∈(nd t s).kids)(Cv:(nd t m).k=42)(AO:inS t o (m:Int) i):FMe Gs 180 [.int .i64 (s:Int),.int .i64 (i:Int)] (fK t o) S (Xh t o (doF t o (mnF t o) f) s i S) (.tup []):=by
 have Ah:=g.many;have gK:GoodT (fK t o).t o:=g;have O0:(fK t o).t.Fit:=ht;obtain⟨_,_,_,hL⟩:=Kr g hs Bo;refine Kc (vfS c180_ok λN=>?_)
 cases hb:J2 S.fg s with
 |true=>
  have e:Xh t o (doF t o (mnF t o) f) s i S=S.fail i:=by unfold Xh;rw[if_pos hb]
  rw[e];rcases JaU (k:=s) S.fg 0 with ⟨_,h2,_⟩|⟨q,h1,_⟩
  ·rw[hb]at h2;cases h2
  rw[hb]at h1;simp only[c180,go_sem,hpF,fRow,h1];refine KH (fmFail (K:=fK t o) (Z:=S)) (.inl rfl) rfl rfl rfl rfl ?_;simp only[go_sem];exact .done (wk.refl _)
 |false=>
  generalize Fy:({ S with fg:=XX s true S.fg }:FS)=S0;obtain⟨a,ha⟩:∃a:Nat,fs o ((Jh t s:Nat):Int)=a:=⟨(fs o ((Jh t s:Nat):Int)).toNat,by have:=(Jgk g (a:=Jh t s) om).1;omega⟩;have lC:a<=Jh t s:=by have:=(Jgk g (a:=Jh t s) om).2;omega
  generalize Es:Jh t s+1-a=mm;have e:Xh t o (doF t o (mnF t o) f) s i S=(λS1=>let S2:=if S1.bad.isSome then S1 else J4 t s S1;{ S2 with fg:=XX s false S2.fg }) ((KW a mm).foldl (doF t o (mnF t o) f) S0):=by unfold Xh;rw[if_neg (by rw[hb];decide)];simp only[ha,Gi,Es,Fy]
  rw[e];clear e;generalize OO:(λS1:FS=>let S2:=if S1.bad.isSome then S1 else J4 t s S1;({ S2 with fg:=XX s false S2.fg }:FS)) ((KW a mm).foldl (doF t o (mnF t o) f) S0)=SE;have FB:FI t S0:=by subst Fy;exact⟨hI.gl,hI.dl,hI.emp,hI.unf,hI.fnd,hI.fine,hI.ini,hI.typ⟩
  have ky:FM t o S0:=by subst Fy;exact hM
  have Uy:Ln S0.got:=by subst Fy;exact BH
  have OZ:uf t S0<f:=by subst Fy;have:=JeS hs hb;omega
  have PM:=Jde g hi hP hs Bo hm Cv AO ha;rw[Fy,Es]at PM;have El:=Jai (Jaf g hE f) FB ky OZ (a:=a) (m:=mm) om PM;have gy:=λZ=>fmExpr gK O0 (Z:=Z) hs Bo
  have Ra:(iz (fiZ t o t.nodes.length)).getD (Jh t s) []=[.int .i64 (a:Int)]:=by rw[JL (by rw[JbD];omega),fiZ_get om om,ha]
  have FQ:(iz (fiZ t o t.nodes.length)).length=t.nodes.length:=by rw[Jf,JbD]
  have BA:∀(Z:FS) (b:Bool),(∃q v,Q5 .int (.int .i64 (s:Int)) (kz Z.fg) 0=some (some (q,v))/\(kz Z.fg).set q (.int .i64 (s:Int),.bool b)=kz (XX s b Z.fg))\/(Q5 .int (.int .i64 (s:Int)) (kz Z.fg) 0=some none/\kz Z.fg++[(.int .i64 (s:Int),.bool b)]=kz (XX s b Z.fg)):=λZ b=>by
   rcases JaU (k:=s) Z.fg 0 with ⟨h1,_,h3⟩|⟨q,h1,h3⟩
   ·exact .inr ⟨h1,h3 b⟩
   ·exact .inl ⟨_,_,h1,by rw[Gr];exact h3 b⟩
  have Sq:Q5 .int (.int .i64 (s:Int)) (kz S.fg) 0=some none\/∃q,Q5 .int (.int .i64 (s:Int)) (kz S.fg) 0=some (some (q,.bool false)):=by
   rcases JaU (k:=s) S.fg 0 with ⟨h1,_,h3⟩|⟨q,h1,h3⟩
   ·exact .inl h1
   ·rw[hb]at h1;exact .inr ⟨_,h1⟩
  have Bj:hpF (fK t o) S0 []=[.arr 11 [fRow (fK t o) S.bad],.arr 1 (gz S.got),.arr 1 (bqz S.dn),.map (kz S.fd),.map (kz (XX s true S.fg))]:=by subst Fy;rfl
  rcases Sq with h1|⟨q0,h1⟩ <;> rcases BA S true with ⟨q,v,h2,h3⟩|⟨h2,h3⟩
  ·rw[h1]at h2;cases h2
  case' inr.inl=>rw[h1]at h2;cases h2
  case' inr.inr=>rw[h1]at h2;cases h2
  all_goals
   simp only[c180,go_sem,hpF,fRow,h1,h3];refine Jdq Bj.symm ?_;simp only[go_sem,hpF,fRow];refine KL [0,0,0,4,0,0,4,0,0,0] Jr vM ?_;simp only[go_sem];refine vy_me (gy S0) (.inl rfl) rfl rfl rfl rfl ?_;simp only[go_sem,fK,Ra,FQ]
   repeat refine anO ?_
   refine Js (I:=λj:Nat=>j<=mm) (inv:=λj=>mkT 60 [(0,.ptr 0 0 0),(1,.int .i64 (s:Int)),(6,.int .i64 ((a+j:Nat):Int))]) (hp:=λj=>hpF (fK t o) ((KW a j).foldl (doF t o (mnF t o) f) S0) []) (μ:=λj=>mm-j) 0 [0,1,2,3,4] om rfl ?_ ?_ ?_
   ·simp only[QA,Gj,Gl,ren,Jm];refine JI ?_;simp[K6,KZ]
   ·exact Qt (K:=fK t o) (Z:=S0) (X:=[]) rfl
   ·intro j hj;obtain⟨p1,p2,p3,p4⟩:=El j hj;have PO:=JhE ht (o:=o) Uy f (KW a j);have BJ:(KW a (j+1)).foldl (doF t o (mnF t o) f) S0=doF t o (mnF t o) f ((KW a j).foldl (doF t o (mnF t o) f) S0) (a+j):=by rw[Jas,GY];rfl
    have EF:((KW a j).foldl (doF t o (mnF t o) f) S0).bad.isSome=true\/j=mm->(KW a mm).foldl (doF t o (mnF t o) f) S0=(KW a j).foldl (doF t o (mnF t o) f) S0:=λh=>by
     rcases h with h|h
     ·have e:KW a mm=KW a j++(KW a mm).drop j:=by
       have:KW a j=(KW a mm).take j:=by unfold KW;rw[<-List.map_take,List.take_range,Nat.min_eq_left hj]
       rw[this,List.take_append_drop]
      rw[e,GY,fold_bad h]
     ·rw[h]
    generalize bZ:(KW a j).foldl (doF t o (mnF t o) f) S0=Sj at *;obtain⟨gj,dj,fdj,fgj,bj⟩:=Sj;have kM:=gy ⟨gj,dj,fdj,fgj,bj⟩;simp only[go_sem,hpF];refine KH kM (.inl rfl) rfl rfl rfl rfl ?_;by_cases Ab:j<mm
    ·have d2:(((a+j:Nat):Int)<=((Jh t s:Nat):Int))=True:=KQ
     cases bj with
     |none=>
      have hW:=ih _ (a+j) p1 p2 PO om (PM _ j p3 om p4) (by rw[uf_eq p3];exact OZ);simp only[go_sem,fK,hpF,fRow,d2,Gu,Gw];refine KH hW (.inl rfl) rfl rfl rfl rfl ?_;simp only[go_sem];refine⟨Ji,j+1,[0,1,2,3,4],om,om,rfl,?_,?_⟩
      ·rw[BJ];exact Qt (K:=fK t o) (X:=[]) rfl
      ·simp only[ren,Jm];refine JI ?_;simp[K6,KZ];omega
     |some b=>
      have BZ:=EF (.inl rfl);rw[BZ]at OO;simp only[Gn,if_true]at OO;subst OO;rcases BA ⟨gj,dj,fdj,fgj,some b⟩ false with ⟨q4,v4,h4,h5⟩|⟨h4,h5⟩
      all_goals
       dsimp only at h4 h5
       simp only[go_sem,fK,hpF,fRow,d2,Gn,Gp,h4,h5];exact .done (wk.refl _)
    ·have d2:(((a+j:Nat):Int)<=((Jh t s:Nat):Int))=False:=Kq;have BZ:=EF (.inr om);rw[BZ]at OO
     cases bj with
     |none=>
      simp only[Gu,Bool.false_eq_true,if_false]at OO;subst OO;have jW:=fmSettle gK O0 hs Bo p1.gl PO;simp only[go_sem,fK,hpF,fRow,d2,Gu,Gw];refine KH jW (.inl rfl) rfl rfl rfl rfl ?_;change KA _ _ _ _ _ _ _ (hpF (fK t o) (J4 t s _) []);generalize J4 t s ⟨gj,dj,fdj,fgj,none⟩=S2;rcases BA S2 false with ⟨q4,v4,h4,h5⟩|⟨h4,h5⟩
      all_goals
       simp only[go_sem,hpF,fRow,h4,h5];exact .done (wk.refl _)
     |some b=>
      simp only[Gn,if_true]at OO;subst OO;rcases BA ⟨gj,dj,fdj,fgj,some b⟩ false with ⟨q4,v4,h4,h5⟩|⟨h4,h5⟩
      all_goals
       dsimp only at h4 h5
       simp only[go_sem,fK,hpF,fRow,d2,Gn,Gp,h4,h5];exact .done (wk.refl _)
theorem fmDecl (hE:(QO t o).2=0)(ih:GoW t o f){S:FS}(hI:FI t S)(hM:FM t o S)(BH:Ln S.got)(hi:i<t.nodes.length)(h3:(nd t i).k=3)(hP:Jgn t o S i)(hu:uf t S<f+1):FMe Gs 137 [.int .i64 (i:Int)] (fK t o) S (JbI t o (doF t o (mnF t o) f) (mnF t o i) i S).1 (txV ((JbI t o (doF t o (mnF t o) f) (mnF t o i) i S).2.getD [])):=by
 have Ah:=g.many;have gK:GoodT (fK t o).t o:=g;have O0:(fK t o).t.Fit:=ht;obtain⟨m,hm⟩:∃m:Nat,JD t o i=m:=by obtain⟨IA,BZ,Ow,_,Pk⟩:=YQ g hE hi h3;exact⟨(JD t o i).toNat,om⟩
 have Es:mnF t o i=m:=by unfold mnF;rw[hm];rfl
 rw[Es];obtain⟨Ct,AO,Ez⟩:=Jaz g hE hi h3 hm;have Cs:(iz (ofL t o)).getD i []=[.int .i64 (m:Int)]:=by rw[JL (by rw[Xu];exact hi),Jh4 hi,hm]
 have Cc:(iz (ofL t o)).length=t.nodes.length:=by rw[Jf,Xu]
 have hg:=J7 Ct;have CJ:=JbA g Ct;have Aw:(iz (nd t m).kids).length=(nd t m).kids.length:=Jf;have Ca:0<(nd t m).kids.length->(iz (nd t m).kids).getD 0 []=[.int .i64 (JH t m 0:Int)]:=λh=>by rw[JL h,KF g Ct h]
 have A7:∀Z:FS,FI t Z->(gz Z.got).length=t.nodes.length/\(gz Z.got).getD m []=[txV (JE Z.got m)]:=λZ hZ=>⟨by rw[Yp,hZ.gl],Xw (by rw[hZ.gl];exact Ct)⟩
 unfold JbI;refine Kc (vfS c137_ok λN=>?_);rcases Ez with h|h|h|⟨h,s,k,s1,s2,s3,s4,s5,s6⟩
 ·rw[if_pos h];simp only[c137,go_sem,hpF,fRow,fK,Cs,Cc,Jb,hg,Nd.cv,h,Ga]
  repeat refine anO ?_
  exact Fnl.one (K:=fK t o) 1 rfl rfl rfl (wk.refl _)
 ·rw[iN7,if_pos (.inl h)];obtain⟨q1,q2,q3,q4⟩:=CJ (.inr (.inl om));have hW:=XY gK (Z:=S) (JH t m 0) (show JH t m 0<t.nodes.length by omega) q3 q4;simp only[c137,go_sem,hpF,fRow,fK,Cs,Cc,Jb,hg,Nd.cv,h,Ga,Aw,Ca q1]
  repeat refine anO ?_
  refine KH hW (.inl rfl) rfl rfl rfl rfl ?_;simp only[go_sem];exact Fnl.one (K:=fK t o) 1 rfl rfl rfl (wk.refl _)
 ·rw[iN7,iN7,iN7];obtain⟨g1,g2⟩:=A7 S hI;simp only[c137,go_sem,hpF,fRow,fK,Cs,Cc,Jb,hg,Nd.cv,h,Ga,g1,g2]
  repeat refine anO ?_
  exact Fnl.out (K:=fK t o) (wk.refl _) rfl
 ·rw[iN7];have hB:=fmBare (K:=fK t o) (Z:=S) (i:=m) Ct;by_cases hn:(nd t m).kids=[]
  ·rw[if_neg (by rintro(h2|⟨_,h2⟩);omega;exact h2 hn)];have he:(nd t m).kids.isEmpty=true:=by rw[hn];rfl
   change FMe _ _ _ _ _ _ (.bool (nd t m).kids.isEmpty) at hB;rw[he]at hB;have UI:(iz (upZ t t.nodes.length)).getD m []=[.int .i64 (s:Int)]:=by rw[JL (by rw[Jdu];exact Ct),up_kid g s2 s4]
   have Rs:(iz (upZ t t.nodes.length)).length=t.nodes.length:=by rw[Jf,Jdu]
   rw[s1,Gi]
   cases hb:J2 S.fd s with
   |true=>
    rw[if_neg sM];obtain⟨g1,g2⟩:=A7 S hI;rcases JaU (k:=s) S.fd 0 with ⟨_,h2,_⟩|⟨q,h1,_⟩
    ·rw[hb]at h2;cases h2
    rw[hb]at h1;simp only[c137,go_sem,hpF,fRow,fK,Cs,Cc,Jb,hg,Nd.cv,h,Ga]
    repeat refine anO ?_
    refine KH hB (.inl rfl) rfl rfl rfl rfl ?_;simp only[go_sem,hpF,fRow,fK,UI,Rs,h1,g1,g2]
    repeat refine anO ?_
    exact Fnl.out (K:=fK t o) (wk.refl _) rfl
   |false=>
    rw[if_pos ⟨h,rfl⟩];have hF:=fmForce g ht hE ih hI hM BH hi hP hu s2 s3 s4 h AO;obtain⟨f1,_⟩:=Jb6 g (Jaf g hE f) hI hM hi hP hu s2 s3 s4 h AO;generalize lG:Xh t o (doF t o (mnF t o) f) s i S=SF at *;obtain⟨g1,g2⟩:=A7 SF f1;have Dm:Q5 .int (.int .i64 (s:Int)) (kz S.fd) 0=some none\/∃q,Q5 .int (.int .i64 (s:Int)) (kz S.fd) 0=some (some (q,.bool false)):=by
     rcases JaU (k:=s) S.fd 0 with ⟨h1,_,h3⟩|⟨q,h1,h3⟩
     ·exact .inl h1
     ·rw[hb]at h1;exact .inr ⟨_,h1⟩
    rcases Dm with h1|⟨q,h1⟩
    all_goals
     simp only[c137,go_sem,hpF,fRow,fK,Cs,Cc,Jb,hg,Nd.cv,h,Ga]
     repeat refine anO ?_
     refine KH hB (.inl rfl) rfl rfl rfl rfl ?_;simp only[go_sem,hpF,fRow,fK,UI,Rs,h1]
     repeat refine anO ?_
     refine KH hF (.inl rfl) rfl rfl rfl rfl ?_;simp only[go_sem,hpF,fRow,fK,g1,g2]
     repeat refine anO ?_
     exact Fnl.out (K:=fK t o) (wk.refl _) rfl
  ·rw[if_pos (.inr ⟨h,hn⟩)];have he:(nd t m).kids.isEmpty=false:=by cases h:(nd t m).kids <;> simp_all
   change FMe _ _ _ _ _ _ (.bool (nd t m).kids.isEmpty) at hB;rw[he]at hB;obtain⟨q1,q2,q3,q4⟩:=CJ (.inr (.inr ⟨h,hn⟩));have hW:=XY gK (Z:=S) (JH t m 0) (show JH t m 0<t.nodes.length by omega) q3 q4;simp only[c137,go_sem,hpF,fRow,fK,Cs,Cc,Jb,hg,Nd.cv,h,Ga]
   repeat refine anO ?_
   refine KH hB (.inl rfl) rfl rfl rfl rfl ?_;simp only[go_sem,hpF,fRow,fK,Aw,Ca q1]
   repeat refine anO ?_
   refine KH hW (.inl rfl) rfl rfl rfl rfl ?_;simp only[go_sem];exact Fnl.one (K:=fK t o) 1 rfl rfl rfl (wk.refl _)
end
def Tx (m:Nat)(l:TL):Prop:=∀a∈l,(tyT a).length<=m
theorem Jbg{a:TyX}(h:(tyT a).length<=m):Tx m [a]:=λb hb=>by rw[He.1 hb];exact h
theorem one_tx2(h:Tx m l)(hm:3<=m):(tyT ((QH l).getD .int)).length<=m:=by
 cases ho:QH l with
 |none=>simpa [tyT]using hm
 |some a=>have:=Jfj.1 ho;subst this;exact h a sM
theorem prt_tx(h:Tx m l)(hm:3<=m):(tyT ((prt (QH l)).getD .int)).length<=m:=by have h1:=one_tx2 h hm;rcases ho:QH l with _|a|a|a|a <;> rw[ho]at h1 <;> simp[prt,tyT]at h1|- <;> omega
theorem given_tx{ls:List TL}(h:YV ls=some l)(hm:3<=m)(h2:∀x∈ls,Tx m x):Tx m l:=by
 unfold YV at h
 split at h
 ·cases h;exact h2 _ sM
 ·split at h
  ·cases h
   intro a ha;obtain⟨x,hx,rfl⟩:=GM.1 ha;have:=h2 x hx
   cases x with
   |nil=>simpa [tyT]using hm
   |cons b y=>exact this b sM
  ·cases h
theorem rule_tx{k:Nat}{ks:Lu}{K L:Nat->TL}{ty:TyX}{sp sr si gm:TL}(h:J9 k ks n K L ty sp sr si gm=some l)(hK:∀j,Tx 10000 (K j))(hL:Tx 10000 (L 1))(CJ:(tyT ty).length<=10000)(IV:Tx 10000 sr):Tx 20000 l:=by
 have up:∀{l:TL},Tx 10000 l->Tx 20000 l:=λh a ha=>by have:=h a ha;omega
 have hg:∀(m:Nat) (f:Nat->Nat),YV ((Gm m).map λj=>K (f j))=some l->Tx 20000 l:=λm f h=>up (given_tx h om λx hx=>by obtain⟨j,_,rfl⟩:=GM.1 hx;exact hK _)
 have BM:∀{c:Prop} [Decidable c] {x:TL},(if c then some x else none)=some l->Tx 20000 x->Tx 20000 l:=λh hx=>by
  split at h
  ·cases h;exact hx
  ·cases h
 have hi:Tx 20000 [.int]:=Jbg (by simp[tyT]);have hb:Tx 20000 [.bool]:=Jbg (by simp[tyT]);have hn:Tx 20000 []:=λa ha=>by cases ha
 have hp:∀j,(tyT ((prt (QH (K j))).getD .int)).length<=10000:=λj=>prt_tx (hK j) om
 have hs:∀{a:TyX},(tyT a).length<=10000->Tx 20000 [.str a]:=λh=>Jbg (by simp[tyT,Ya];omega)
 by_cases e1:k=1
 ·subst e1;cases h;exact hi
 by_cases e2:k=2
 ·subst e2;cases h;exact hb
 by_cases e4:k=4
 ·subst e4;rw[rk_cons]at h;exact BM h (hs (hp 1))
 by_cases e5:k=5\/k=6
 ·rw[rk_or e5]at h;exact BM h hb
 by_cases e7:k=7\/k=8
 ·rw[rk_eq e7]at h;exact BM h hb
 by_cases e9:9<=k/\k<=12
 ·rw[rk_lt e9]at h;exact BM h hb
 by_cases e13:13<=k/\k<=17
 ·rw[rk_add e13]at h;exact BM h hi
 by_cases e18:k=18
 ·subst e18;rw[rk_read]at h;exact BM h (up (Jbg (hp 0)))
 by_cases e19:k=19
 ·subst e19;rw[rk_not]at h;exact BM h hb
 by_cases e20:k=20
 ·subst e20;rw[rk_neg]at h;exact BM h hi
 by_cases e21:k=21
 ·subst e21;rw[rk_head]at h;exact BM h (up (Jbg (hp 0)))
 by_cases e22:k=22
 ·subst e22;rw[rk_tail]at h;exact BM h (up (hK _))
 by_cases e23:k=23
 ·subst e23;rw[JhP]at h;exact BM h hb
 by_cases e24:k=24
 ·subst e24;rw[rk_size]at h;exact BM h hi
 by_cases e25:k=25
 ·subst e25;cases h;exact hs CJ
 by_cases e26:k=26
 ·subst e26;rw[rk_call]at h;exact BM h (up IV)
 by_cases e27:k=27
 ·subst e27;rw[rk_if]at h;exact BM h (up (hK _))
 by_cases e28:k=28
 ·subst e28;rw[rk_loop]at h;exact BM h (up (hK _))
 by_cases e29:k=29
 ·subst e29;rw[JhR]at h;have:=one_tx2 hL om;exact BM h (Jbg (by simp[tyT];omega))
 by_cases e40:k=40
 ·subst e40;exact hg _ _ h
 by_cases e45:k=45
 ·subst e45;exact hg _ id h
 by_cases e42:k=42
 ·subst e42;rw[JhQ]at h
  split at h <;> cases h
  ·exact hn
  ·exact up (Jbg CJ)
 by_cases e64:k=64
 ·subst e64;cases h;exact up (Jbg CJ)
 by_cases e43:k=43
 ·subst e43;rw[rk_init]at h;exact BM h (up (Jbg (one_tx2 (hK 0) om)))
 by_cases e44:k=44
 ·subst e44;rw[rk_next]at h;exact BM h hn
 by_cases e47:k=47
 ·subst e47;cases h;exact hi
 by_cases e65:k=65
 ·subst e65;rw[rk_def]at h;exact BM h hn
 have:J9 k ks n K L ty sp sr si gm=some []:=by unfold J9;simp only[e1,e2,e4,e5,e7,e9,e13,e18,e19,e20,e21,e22,e23,e24,e25,e26,e27,e28,e29,e40,e45,e42,e64,e43,e44,e47,e65,if_false]
 rw[this]at h;cases h;exact hn
theorem fine_tx(hf:∀j,Yq (JE got j)=true)(j:Nat):Tx 10000 (JE got j):=λa ha=>by have:=Jio (hf j) ha;omega
theorem rule_sm(g:GoodT t o)(ht:t.Fit)(hf:∀j,Yq (JE got j)=true)(hi:i<t.nodes.length)(hm:m<t.nodes.length\/(nd t i).k≠26)(h:Xa t m got i=some l):Tx 20000 l:=by
 have Ah:=g.many;rw[JY]at h;have CJ:∀{j:Nat},j<t.nodes.length->(tyT (tyN t j)).length<=10000:=λh=>JeV om
 have aW:∀x y,x<t.nodes.length->(tyT (tyN t (JH t x y))).length<=10000:=λx y hx=>by
  refine CJ ?_;by_cases hy:y<(nd t x).kids.length
  ·have:=(Jt g hx hy).2.1;omega
  ·unfold JH;rw[Gb,Hd om];simp;omega
 refine rule_tx (k:=(nd t i).k) (n:=(nd t i).n.toNat) (ks:=(nd t i).kids) (K:=KK t got i) (L:=Jcz t got i) (sp:=JaI t m) (si:=Jaj t i) (gm:=JE got m) (sr:=if (nd t i).k=26 then Jaj t m else []) (Eq.trans ?_ h) (λj=>?_) ?_ (aW i 0 hi) ?_
 ·by_cases DJ:(nd t i).k=26
  ·rw[if_pos DJ]
  ·rw[if_neg DJ];exact Je7 rfl (λ_ _=>rfl) (λ_=>⟨rfl,rfl⟩) (λ_ _ _=>rfl) (λ_ _=>rfl) (λ_=>rfl) (λh=>absurd h DJ) (λ_=>rfl) (λ_=>rfl)
 ·unfold KK
  split
  ·exact fine_tx hf _
  ·intro a ha;cases ha
 ·unfold Jcz
  split
  ·exact fine_tx hf _
  ·intro a ha;cases ha
 ·split
  ·rename_i DJ;rcases hm with hm|hm
   ·intro a ha;unfold Jaj at ha;obtain⟨x,_,rfl⟩:=GM.1 ha;exact aW m _ hm
   ·exact absurd DJ hm
  ·intro a ha;cases ha
def TyR (f:Nat)(K:FT0)(S:FS)(i:Nat)(R:FS):Prop:=∃(S':FS) (x:CV) (b:Bool) (l:TL),x.closed=true/\FMe Gs f [.int .i64 (i:Int)] K S S' (.tup [x,.bool b])/\(b=true->x=txV l/\l.length<=30/\Tx 20000 l/\R=S'.fin i (some l))/\(b=false->R=S'.fail i)/\S'.got.length=K.t.nodes.length/\S'.dn.length=K.t.nodes.length
theorem TyR.of{S:FS}(h:Ans K S f [.int .i64 (i:Int)] r)(hl:∀l,r=some l->l.length<=30/\Tx 20000 l)(h1:S.got.length=K.t.nodes.length)(h2:S.dn.length=K.t.nodes.length):TyR f K S i (S.fin i r):=by
 obtain⟨x,q1,q2,q3⟩:=h
 cases r with
 |none=>exact⟨S,x,false,[],q1,q3,λh=>(by cases h),λ_=>rfl,h1,h2⟩
 |some l=>exact⟨S,x,true,l,q1,q3,λ_=>⟨q2 l rfl,(hl l rfl).1,(hl l rfl).2,rfl⟩,λh=>(by cases h),h1,h2⟩
theorem Jis {S:FS}(h:S.bad.isSome=true):S.fin i r=S/\S.fail i=S:=by
 have h2:S.fail i=S:=by unfold FS.fail;rw[if_pos h]
 refine⟨?_,h2⟩;unfold FS.fin
 cases r with
 |none=>exact h2
 |some l=>simp only;rw[if_pos h]
theorem Jdv:(txV l).closed=true:=by simp[txV,CV.closed]
section
variable(g:GoodT t o)(ht:t.Fit)
include g ht
omit ht in
theorem mean_nat (hE:(QO t o).2=0)(hi:i<t.nodes.length)(hs:JN t i=true):(ofL t o).getD i 0=(mnF t o i:Int)/\mnF t o i<t.nodes.length/\((nd t i).k=26->(nd t (mnF t o i)).k=65):=by
 have Ag:=(Xp hE).mean i hi hs;have hr:=JeB (t:=t) (o:=o) (i:=i);have h0:0<=JD t o i:=om
 obtain⟨d,hd⟩:∃d:Nat,JD t o i=d:=⟨(JD t o i).toNat,om⟩;have hm:mnF t o i=d:=by unfold mnF;rw[hd];rfl
 have h2:=Jc3 g (Xp hE) hi hd;rw[hm];exact⟨by rw[Jh4 hi,hd],h2.2.2.2,λhk=>((Jby (Xp hE) hi hk).1 hd).2.2⟩
theorem fmSmall (hE:(QO t o).2=0)(ih:GoW t o f){S:FS}(hI:FI t S)(hM:FM t o S)(BH:Ln S.got)(hi:i<t.nodes.length)(hb:S.bad=none)(hd:S.dn.getD i false=false)(hP:Jgn t o S i)(hu:uf t S<f+1)(h3:(nd t i).k=3):TyR 88 (fK t o) S i (doF t o (mnF t o) (f+1) S i):=by
 have Ah:=g.many;have hg:=J7 hi;have hD:=fmDecl g ht hE ih hI hM BH hi h3 hP hu;have hR:doF t o (mnF t o) (f+1) S i=(JbI t o (doF t o (mnF t o) f) (mnF t o i) i S).1.fin i (JbI t o (doF t o (mnF t o) f) (mnF t o i) i S).2:=by rw[doF,if_neg (by rw[hb,hd];decide),if_pos h3]
 rw[hR];have RA:∃l,(JbI t o (doF t o (mnF t o) f) (mnF t o i) i S).2=some l:=by
  unfold JbI
  split
  ·exact⟨_,rfl⟩
  ·split
   ·exact⟨_,rfl⟩
   ·split <;> exact⟨_,rfl⟩
 obtain⟨l,hl⟩:=RA;have C8:FI t (JbI t o (doF t o (mnF t o) f) (mnF t o i) i S).1/\l.length<=30/\Tx 20000 l:=by
  obtain⟨IA,BZ,Ow,_,Pk⟩:=YQ g hE hi h3;obtain⟨m,hm⟩:∃m:Nat,JD t o i=m:=⟨(JD t o i).toNat,om⟩;have Es:mnF t o i=m:=by unfold mnF;rw[hm];rfl
  obtain⟨Ct,AO,Ez⟩:=Jaz g hE hi h3 hm;rw[Es]at hl|-;have Bj:∀Z:FS,FI t Z->Ln Z.got->(JE Z.got m).length<=30/\Tx 20000 (JE Z.got m):=λZ h1 h2=>⟨h2 m,λa ha=>by have:=Jio (h1.fine m) ha;omega⟩
  have EA:∀x,x<t.nodes.length->JH t x 0<t.nodes.length:=λx hx=>by
   by_cases hy:0<(nd t x).kids.length
   ·have:=(Jt g hx hy).2.1;omega
   ·unfold JH;rw[Gb,Hd om];simp;omega
  unfold JbI at hl|-
  split at hl
  ·rename_i h;rw[if_pos h];cases hl;exact⟨hI,sM,Jbg (by simp[tyT])⟩
  ·rename_i h;rw[if_neg h]
   split at hl
   ·rename_i h;rw[if_pos h];cases hl;exact⟨hI,sM,Jbg (by have:=JeV (t:=t) (i:=JH t m 0) (by have:=EA m Ct;omega);omega)⟩
   ·rename_i h2;rw[if_neg h2]
    split at hl
    ·rename_i h4;rw[if_pos h4];simp only at hl|-
     cases hl
     rcases Ez with h5|h5|h5|⟨h5,s,k,s1,s2,s3,s4,s5,s6⟩
     ·exact absurd h5 h
     ·exact absurd (.inl h5) h2
     ·omega
     ·rw[s1,Gi];obtain⟨f1,_⟩:=Jb6 g (Jaf g hE f) hI hM hi hP hu s2 s3 s4 h5 AO;have kD:Ln (Xh t o (doF t o (mnF t o) f) s i S).got:=by
       unfold Xh
       split
       ·unfold FS.fail;split <;> exact BH
       ·simp only;have h1:=JhE ht (o:=o) (S:={ S with fg:=XX s true S.fg }) BH f (KW (fs o ((Jh t s:Nat):Int)).toNat (Jh t s+1-(fs o ((Jh t s:Nat):Int)).toNat))
        split
        ·exact h1
        ·exact JcR h1
      exact⟨f1,Bj _ f1 kD⟩
    ·rename_i h4;rw[if_neg h4];cases hl;exact⟨hI,Bj S hI BH⟩
 generalize JbI t o (doF t o (mnF t o) f) (mnF t o i) i S=D at *;obtain⟨Z,r⟩:=D;obtain⟨got,dn,fd,fg,bad⟩:=Z
 dsimp only at hl C8 hD|-
 subst hl;rw[Gp]at hD;refine⟨⟨got,dn,fd,fg,bad⟩,txV l,!bad.isSome,l,Jdv,?_,λh=>⟨rfl,C8.2.1,C8.2.2,rfl⟩,λh=>?_,C8.1.gl,C8.1.dl⟩
 ·refine Kc (vfS c88_ok λN=>?_);simp only[c88,go_sem,hpF,fRow,fK,Jb,hg,Nd.cv,h3,Ga]
  repeat refine anO ?_
  refine KH (K:=fK t o) hD (.inl rfl) rfl rfl rfl Jdv ?_;simp only[go_sem,hpF,fRow,fK];refine KL [0,0,0,0,1,0,0,0] Jr vM ?_;simp only[go_sem];refine Fnl.out (K:=fK t o) (S:=⟨got,dn,fd,fg,bad⟩) (wk.refl _) ?_;simp[CV.closed,Jp,Jdv]
 ·have bQ:bad.isSome=true:=by simpa using h
  have h1:=Jis (S:=⟨got,dn,fd,fg,bad⟩) (i:=i) (r:=some l) bQ;rw[h1.1,h1.2]
theorem fmTypes (hE:(QO t o).2=0)(ih:GoW t o f){S:FS}(hI:FI t S)(hM:FM t o S)(BH:Ln S.got)(hi:i<t.nodes.length)(hb:S.bad=none)(hd:S.dn.getD i false=false)(hP:Jgn t o S i)(hu:uf t S<f+1):TyR 53 (fK t o) S i (doF t o (mnF t o) (f+1) S i):=by
 have Ah:=g.many;have gK:GoodT (fK t o).t o:=g;have O0:(fK t o).t.Fit:=ht;have hg:=J7 hi;have FD:∀m,(m<t.nodes.length\/(nd t i).k≠26)->∀l,Xa t m S.got i=some l->l.length<=30/\Tx 20000 l:=λm hm l h=>by refine⟨?_,rule_sm g ht hI.fine hi hm h⟩;rw[JY]at h;exact rule_len h (λj=>by unfold KK;split;exact BH _;simp) (kids_len ht i) (sig_len ht _)
 have bG:(nd t i).k≠3->(nd t i).k≠41->doF t o (mnF t o) (f+1) S i=S.fin i (Xa t (mnF t o i) S.got i):=λh1 h2=>by rw[doF,if_neg (by rw[hb,hd];decide),if_neg h1,if_neg h2]
 have DJ:(nd t i).k=26->(fK t o).of.getD i 0=(mnF t o i:Int)/\mnF t o i<t.nodes.length/\(nd t (mnF t o i)).k=65:=λhk=>by obtain⟨h1,h2,h3⟩:=mean_nat g hE hi (by simp[JN,hk]);exact⟨h1,h2,h3 hk⟩
 have BC:(nd t i).k=44->(fK t o).of.getD i 0=(mnF t o i:Int)/\mnF t o i<t.nodes.length:=λhk=>by obtain⟨h1,h2,h3⟩:=mean_nat g hE hi (by simp[JN,hk]);exact⟨h1,h2⟩
 have hR:∀f',(∃R,R=doF t o (mnF t o) (f+1) S i/\TyR f' (fK t o) S i R)->TyR f' (fK t o) S i (doF t o (mnF t o) (f+1) S i):=λf' ⟨R,h1,h2⟩=>by rw[<-h1];exact h2
 have IU:((nd t i).k<=18->TyR 88 (fK t o) S i (doF t o (mnF t o) (f+1) S i))/\(18<(nd t i).k->(nd t i).k<=29->TyR 89 (fK t o) S i (doF t o (mnF t o) (f+1) S i))/\(29<(nd t i).k->TyR 90 (fK t o) S i (doF t o (mnF t o) (f+1) S i)):=by
  have Ca:(nd t i).k≠0:=λh0=>by have hn:=g.nds (nd t i) (by unfold nd;rw[Gb,Gx hi];exact Hl hi);rw[ndI_R]at hn;simp[h0,Qs]at hn
  refine⟨λh=>?_,λh1 h2=>?_,λh=>?_⟩
  ·by_cases h3:(nd t i).k=3
   ·exact fmSmall g ht hE ih hI hM BH hi hb hd hP hu h3
   ·rw[bG h3 om];refine TyR.of ?_ (FD _ (.inr om)) hI.gl hI.dl;by_cases h1:(nd t i).k=1\/(nd t i).k=2
    ·exact small1 gK hi h1
    ·exact small2 gK hi (show 4<=(nd t i).k/\(nd t i).k<=18 by omega) hI.gl hI.fine
  ·rw[bG om om];by_cases h3:(nd t i).k<=25
   ·exact TyR.of (great1 gK hi (show 19<=(nd t i).k/\(nd t i).k<=25 by omega) hI.gl hI.fine) (FD _ (.inr om)) hI.gl hI.dl
   ·refine TyR.of (great2 gK O0 hi (show 26<=(nd t i).k/\(nd t i).k<=29 by omega) hI.gl hI.fine BH Xu DJ) (FD _ ?_) hI.gl hI.dl;by_cases h6:(nd t i).k=26
    ·exact .inl (DJ h6).2.1
    ·exact .inr h6
  ·by_cases AQ:(nd t i).k=41
   ·obtain⟨PP,Ad⟩:=setF_ok gK (K:=fK t o) hI hi AQ;have hS:=fmSet gK O0 hI BH hi AQ;have Od:=setF_ln (K:=fK t o) (s:=i) BH;have bF:doF t o (mnF t o) (f+1) S i=(Y9 t i S).fin i (if Y1 t i (JE (Y9 t i S).got (Jh t i))=true then some [] else none):=by rw[doF,if_neg (by rw[hb,hd];decide),iN7,if_pos AQ]
    rw[bF];change FMe _ _ _ _ _ (Y9 t i S) (.bool (!(Y9 t i S).bad.isSome && Y1 t i (JE (Y9 t i S).got (Jh t i)))) at hS;change FI t (Y9 t i S) at PP;generalize Y9 t i S=Z at *;have hl:∀l:TL,l=[]->l.length<=30/\Tx 20000 l:=λl h=>by subst h;exact⟨sM,λa ha=>by cases ha⟩
    refine⟨Z,txV [],!Z.bad.isSome && Y1 t i (JE Z.got (Jh t i)),[],rfl,?_,λh=>?_,λh=>?_,PP.gl,PP.dl⟩
    ·refine Kc (vfS c90_ok λN=>?_);simp only[c90,go_sem,hpF,fRow,fK,Jb,hg,Nd.cv,AQ,Ga]
     repeat refine anO ?_
     refine KH (K:=fK t o) hS (.inl rfl) rfl rfl rfl rfl ?_;simp only[go_sem];exact Fnl.out (K:=fK t o) (YN ⟨wk.nils,wk.refl _,trivial⟩) rfl
    ·simp only[Bool.and_eq_true]at h;rw[if_pos h.2];exact⟨rfl,(hl [] rfl).1,(hl [] rfl).2,rfl⟩
    ·by_cases Re:Z.bad.isSome=true
     ·rw[(Jis Re).1,(Jis (r:=none) Re).2]
     ·rw[Bool.eq_false_iff.2 Re,G9,Gy]at h;rw[h];rfl
   ·rw[bG om AQ];exact TyR.of (part1 gK O0 hi (show 30<=(nd t i).k/\(nd t i).k≠41 by omega) hI.gl hI.fine BH Xu BC) (FD _ (.inr om)) hI.gl hI.dl
 obtain⟨s1,s2,s3⟩:=IU;have fin:∀f' (P1:TyR f' (fK t o) S i (doF t o (mnF t o) (f+1) S i)) (hC:∀(S':FS) (x:CV) (b:Bool),x.closed=true->FMe Gs f' [.int .i64 (i:Int)] (fK t o) S S' (.tup [x,.bool b])->FMe Gs 53 [.int .i64 (i:Int)] (fK t o) S S' (.tup [x,.bool b])),TyR 53 (fK t o) S i (doF t o (mnF t o) (f+1) S i):=λf' P1 hC=>by obtain⟨S',x,b,l,q1,q2,q3⟩:=P1;exact⟨S',x,b,l,q1,hC S' x b q1 q2,q3⟩
 have D7:∀{x:CV} {b:Bool},x.closed=true->(CV.tup [x,.bool b]).closed=true:=λh=>by simp[CV.closed,Jp,h]
 by_cases UG:(nd t i).k<=18
 ·refine fin _ (s1 UG) λS' x b hx hF=>?_
  have d1:((nd t i).k<=18)=True:=eq_true UG;have d2:(((nd t i).k:Int)<=18)=True:=KQ;refine Kc (vfS c53_ok λN=>?_);simp only[c53,go_sem,hpF,fRow,fK,Jb,hg,Nd.cv,d2]
  repeat refine anO ?_
  refine KH (K:=fK t o) hF (.inl rfl) rfl rfl rfl (D7 hx) ?_;simp only[go_sem];exact Fnl.out (K:=fK t o) (wk.refl _) (D7 hx)
 ·have d1:((nd t i).k<=18)=False:=eq_false UG;have d2:(((nd t i).k:Int)<=18)=False:=Kq;by_cases OT:(nd t i).k<=29
  ·refine fin _ (s2 om OT) λS' x b hx hF=>?_
   have d3:(((nd t i).k:Int)<=29)=True:=KQ;refine Kc (vfS c53_ok λN=>?_);simp only[c53,go_sem,hpF,fRow,fK,Jb,hg,Nd.cv,d2,d3]
   repeat refine anO ?_
   refine KH (K:=fK t o) hF (.inl rfl) rfl rfl rfl (D7 hx) ?_;simp only[go_sem];exact Fnl.out (K:=fK t o) (wk.refl _) (D7 hx)
  ·refine fin _ (s3 om) λS' x b hx hF=>?_
   have d3:(((nd t i).k:Int)<=29)=False:=Kq;refine Kc (vfS c53_ok λN=>?_);simp only[c53,go_sem,hpF,fRow,fK,Jb,hg,Nd.cv,d2,d3]
   repeat refine anO ?_
   refine KH (K:=fK t o) hF (.inl rfl) rfl rfl rfl (D7 hx) ?_;simp only[go_sem];exact Fnl.out (K:=fK t o) (wk.refl _) (D7 hx)
theorem lawDo (hE:(QO t o).2=0):∀f,GoW t o f
 |0=>λS i _ _ _ _ _ hu=>om
 |f+1=>λS i hI hM BH hi hP hu=>by
  have Ah:=g.many;obtain⟨got,dn,fd,fg,bad⟩:=S;have Bh:=hI.dl;have A7:=hI.gl
  dsimp only at Bh A7 BH
  have IC:(bqz dn).getD i []=[.bool (dn.getD i false)]:=bqz_get om;have Ua:(bqz dn).length=t.nodes.length:=by rw[bqz_len,Bh]
  refine Kc (vfS c31_ok λN=>?_)
  cases hd:dn.getD i false with
  |true=>
   have e:doF t o (mnF t o) (f+1) ⟨got,dn,fd,fg,bad⟩ i=⟨got,dn,fd,fg,bad⟩:=by rw[doF,if_pos (by simp only[hd,Bool.or_true])]
   rw[e];simp only[c31,go_sem,hpF,fRow,fK,IC,Ua,hd]
   repeat refine anO ?_
   exact .done (wk.refl _)
  |false=>
   cases bad with
   |some b=>
    have e:doF t o (mnF t o) (f+1) ⟨got,dn,fd,fg,some b⟩ i=⟨got,dn,fd,fg,some b⟩:=by rw[doF,if_pos sM]
    rw[e];simp only[c31,go_sem,hpF,fRow,fK,IC,Ua,hd,Gn,Gp]
    repeat refine anO ?_
    exact .done (wk.refl _)
   |none=>
    obtain⟨S',x,b,l,q1,q2,q3,q4,q5,q6⟩:=fmTypes g ht hE (lawDo hE f) hI hM BH hi rfl hd hP hu;generalize doF t o (mnF t o) (f+1) ⟨got,dn,fd,fg,none⟩ i=R at *;have D7:(CV.tup [x,.bool b]).closed=true:=by simp[CV.closed,Jp,q1]
    have FZ:=fmFail (K:=fK t o) (Z:=S') (i:=i);simp only[c31,go_sem,hpF,fRow,fK,IC,Ua,hd,Gu,Gw]
    repeat refine anO ?_
    refine KH (K:=fK t o) (Z:=⟨got,dn,fd,fg,none⟩) q2 (.inl rfl) rfl rfl rfl D7 ?_
    cases b with
    |false=>
     have e:=q4 rfl;have Dj:(S'.fail i).bad.isSome=true:=by unfold FS.fail;split;assumption;rfl
     rw[<-e]at FZ Dj;obtain⟨got1,dn1,fd1,fg1,bad1⟩:=R;obtain⟨b1,rfl⟩:=HV.1 Dj;simp only[go_sem];refine KH FZ (.inl rfl) rfl rfl rfl rfl ?_;simp only[go_sem,hpF,fRow,fK,Gn,Gp];exact .done (wk.refl _)
    |true=>
     obtain⟨rfl,l1,l2,l3⟩:=q3 rfl;have hG:=typGreat l om (λa ha=>by have:=l2 a ha;omega);simp only[go_sem];refine Kt (gok rfl) hG ?_
     cases Br:Yq l with
     |false=>
      have e:R=S'.fail i:=by
       rw[l3];unfold FS.fin;simp only
       split
       ·unfold FS.fail;rw[if_pos (by assumption)]
       ·rw[if_neg (by rw[Br];decide)]
      have Dj:(S'.fail i).bad.isSome=true:=by unfold FS.fail;split;assumption;rfl
      rw[<-e]at FZ Dj;clear l3 e q3 q4;obtain⟨got1,dn1,fd1,fg1,bad1⟩:=R;obtain⟨b1,rfl⟩:=HV.1 Dj;simp only[go_sem];refine KH FZ (.inl rfl) rfl rfl rfl rfl ?_;simp only[go_sem,hpF,fRow,fK,Gn,Gp];exact .done (wk.refl _)
     |true=>
      obtain⟨got1,dn1,fd1,fg1,bad1⟩:=S'
      dsimp only at q5 q6
      cases bad1 with
      |some b1=>rw[(Jis (S:=⟨got1,dn1,fd1,fg1,some b1⟩) rfl).1]at l3;rw[l3];simp only[go_sem,hpF,fRow,fK,Gn,Gp];exact .done (wk.refl _)
      |none=>
       have e:R=⟨if l=[] then got1 else got1.set i l,dn1.set i true,fd1,fg1,none⟩:=by rw[l3];unfold FS.fin;simp only;rw[if_neg vk,if_pos Br]
       rw[e];have bi:(gz got1).length=t.nodes.length:=by rw[Yp];exact q5
       have Re:(bqz dn1).length=t.nodes.length:=by rw[bqz_len];exact q6
       have CP:(txz l).length=l.length:=XR;have UY:(gz got1).getD i []=[txV (JE got1 i)]:=Xw (by rw[q5];exact hi);have Fv:(bqz dn1).getD i []=[.bool (dn1.getD i false)]:=bqz_get (by rw[q6];exact hi);by_cases Bd:l=[]
       ·subst Bd;have d2:((0:Int)<(([]:TL).length:Int))=False:=eq_false sM;rw[if_pos rfl];simp only[go_sem,hpF,fRow,fK,Gu,Gw,txV,CP,Re,Fv,bqz_set,Gf,Gg]
        repeat refine anO ?_
        exact .done (wk.refl _)
       ·have d2:((0:Int)<(l.length:Int))=True:=eq_true (by have:=List.length_pos_iff.2 Bd;omega);rw[if_neg Bd];have DR:(gz got1).set i [.rslc 1 (txz l) none]=gz (got1.set i l):=gz_set;simp only[go_sem,hpF,fRow,fK,Gu,Gw,txV,CP,d2,Re,bi,UY,Fv,bqz_set,DR,Gf,Gg]
        repeat refine anO ?_
        exact .done (wk.refl _)
end
theorem fn_fnl{args:Ls}{v0:CV}(h:CallsC P Env.none f args [] λv H'=>Fnl 0 v0 [] v H')(ha:Jp args=true)(hv:v0.closed=true):Fn P f args v0:=Jin ((CallsC.fnl h).mono λ_ _ h=>h.1) ha hv
theorem Fnl.drop {v v0:CV}(hc:v.closed=true)(hw:wk v v0):Fnl 0 v0 [] v H:=by refine .ren [] rfl ?_;rw[Xm v hc];exact .done hw
theorem ok_pad (h:Ok P E n0 N Q k T (H++[.dead])):Ok P E n0 N Q k T H:=by intro m w a b cs kr rest hp hd hk;obtain⟨hs,ho,he⟩:=Sim.pad (n0:=n0) hp.sim;exact Reach.step (.refl _ _) he (h _ w a b cs kr rest ⟨hs,K8 ho (KN.refl _) _ _ hp.tmps,by have:=hp.long;simp;omega⟩ (hd.ext he) hk)
theorem ok_pads:∀(m:Nat) {H:Lt},Ok P E n0 N Q k T (H++Gh m .dead)->Ok P E n0 N Q k T H
 |0,H,h=>by simpa using h
 |m+1,H,h=>ok_pad (ok_pads m (by rw[List.append_assoc];exact h))
theorem NoD.none {p:Nat}(h1:(T.all λc=>(refs c).isEmpty)=true)(h2:(H.all λo=>(JhV o).isEmpty)=true):NoD p T H:=by rw[List.all_eq_true]at h1 h2;exact⟨λc hc i hi=>(by have:=h1 c hc;rw[Hg]at this;rw[this]at hi;cases hi),λo ho i hi=>(by have:=h2 o ho;rw[Hg]at this;rw[this]at hi;cases hi)⟩
theorem nf_at:∀{l l':Ls}{t:Nat}{c':CV},wks l l'->l'[t]? = some c'->∃c,l[t]? = some c/\Cm.wk c c'
 |[],[],_,_,_,h=>by simp at h
 |c::l,c'::l',0,d,hw,h=>by simp at h;subst h;exact⟨c,rfl,hw.1⟩
 |c::l,c'::l',t+1,d,hw,h=>by simp at h;simpa using nf_at hw.2 h
theorem nf_ln:∀{l l':Ls},wks l l'->l.length=l'.length
 |[],[],_=>rfl
 |_::l,_::l',hw=>by simp[nf_ln hw.2]
theorem vr_wkE{els els':LM}(hH:H[i]? = some (.arr z els))(hl:els.length=els'.length)(hw:∀(j:Nat) (a b:Ls),els[j]? = some a->els'[j]? = some b->wks a b)(h:KA P E n0 N Q k T (H.set i (.arr z els'))):Ok P E n0 N Q k T H:=by
 intro m w a' b' cs kr rest hp hd hk;have hs:=hp.sim;have DR:∀{k:Nat} {o:CObj},(H.set i (.arr z els'))[k]? = some o->(k=i/\o=.arr z els')\/(k≠i/\H[k]? = some o):=λ{k o} h=>by
  by_cases EA:k=i
  ·subst EA;rw[List.getElem?_set_self (GG.1 hH).1]at h;exact .inl ⟨rfl,(Option.some.inj h).symm⟩
  ·rw[List.getElem?_set_ne (λg=>EA g.symm)]at h;exact .inr ⟨EA,h⟩
 have key:∀(k:Nat) o,(H.set i (.arr z els'))[k]? = some o->∃o',H[k]? = some o'/\o'.alive=o.alive:=λk o h=>by
  rcases DR h with ⟨rfl,rfl⟩|⟨_,h2⟩
  ·exact⟨_,hH,rfl⟩
  ·exact⟨o,h2,rfl⟩
 have AC:Sim E m (H.set i (.arr z els')) w:=by
  refine⟨by rw[GK];exact hs.len,λk o x hk hx=>?_,hs.imm,hs.one,λk k' o o' x x' hk AL ha AX hx Av hB=>?_,λk o x hk ha hx=>?_,λk s b hk=>?_,λk o x hk ha hx=>?_,hs.extlt,hs.gl⟩
  ·rcases DR hk with ⟨rfl,rfl⟩|⟨_,h2⟩
   ·obtain⟨hz,c,elem,h1,h2,h3,h4,h5⟩:=hs.obj k _ x hH hx;refine⟨hz,c,elem,h1,h2,by rw[<-hl];exact h3,λj e he=>?_,h5⟩;have hj:j<els.length:=by rw[hl];exact(GG.1 he).1
    have dO:=hw j _ e (Gx hj) he;obtain⟨q1,q2⟩:=h4 j _ (Gx hj);refine⟨by rw[<-nf_ln dO];exact q1,λt c' C9=>?_⟩;obtain⟨c0,g1,g2⟩:=nf_at dO C9;obtain⟨r,r1,r2⟩:=q2 t c0 g1;exact⟨r,r1,g2 _ _ _ r2⟩
   ·exact hs.obj k o x h2 hx
  ·obtain⟨p,hp,CY⟩:=key k o hk;obtain⟨p',E9,I1⟩:=key k' o' AL;exact hs.sep k k' p p' x x' hp E9 (CY.trans ha) (I1.trans AX) hx Av hB
  ·obtain⟨p,hp,CY⟩:=key k o hk;exact hs.ro k p x hp (CY.trans ha) hx
  ·rcases DR hk with ⟨_,h2⟩|⟨_,h2⟩
   ·cases h2
   ·exact hs.ext k s b h2
  ·obtain⟨p,hp,CY⟩:=key k o hk;exact hs.extsep k p x hp (CY.trans ha) hx
 have he:Ext n0 m H w m (H.set i (.arr z els')) w:=by
  refine⟨Gv _,λ_ _ _=>rfl,KN.refl _,λB hB=>.inl ?_,λB i v hv=>.inl hv,λk x _ hx=>hx,λh=>h,rfl,rfl,rfl⟩;rcases hB with h|⟨k,o,x,hk,ha,hx,hB⟩
  ·exact .inl h
  ·obtain⟨p,hp,CY⟩:=key k o hk;exact .inr ⟨k,p,x,hp,CY.trans ha,hx,hB⟩
 exact Reach.step (.refl _ _) he (Jz _ _ _ h _ w a' b' cs kr rest ⟨AC,hp.tmps,by rw[GK];exact hp.long⟩ (hd.ext he) hk)
theorem vr_pads (m:Nat)(hH:H++Gh m .dead=H')(h:KA P E n0 N Q k T H'):Ok P E n0 N Q k T H:=ok_pads m (by rw[hH];exact Jz _ _ _ h)
def nfH (t:Tr)(of up fi:Lu)(X:Lt):Lt:=.arr 11 [[.rslc 5 (ndz t.nodes) none,.rslc 1 (iz t.items) none,.rslc 1 (iz of) none,.slc 5 0 t.nodes.length (some t.nodes.length),.slc 6 0 t.nodes.length (some t.nodes.length),.slc 1 0 t.nodes.length (some t.nodes.length),.slc 2 0 t.nodes.length (some t.nodes.length),.map 3,.map 4,.int .i64 0,.bool false]] :: .arr 1 (gz (Gh t.nodes.length [])) :: .arr 1 (bqz (Gh t.nodes.length false)) :: .map [] :: .map [] :: .arr 1 (iz up) :: .arr 1 (iz fi) :: .arr 1 [[.ptr 0 0 0]]::X
theorem nfH_ren{of:Lu}:Ko [0,1,2,3,4,5,6,7] (nfH t of up fi X)=nfH t of up fi []:=by show [_,Yd _ (.arr 1 (gz _)),Yd _ (.arr 1 (bqz _)),_,_,Yd _ (.arr 1 (iz up)),Yd _ (.arr 1 (iz fi)),_]=_;simp only[Yd];rw[Ja (QS _),Ja (QV _),Ja (Jd _),Ja (Jd _)];rfl
theorem nfH_frz{of:Lu}{id:Nat}{e:LM}:Kv (id+8) z e (nfH t of up fi X)=nfH t of up fi ((X.map (Qj (id+8) z e)).set id .dead):=by
 have h0:∀(j:Nat) (a b:Nat) (c:Option Nat),j<8->frz (id+8) z e (.slc j a b c)=.slc j a b c:=λj a b c h=>by simp only[frz];rw[iN7]
 have h1:frz (id+8) z e (.ptr 0 0 0)=.ptr 0 0 0:=by simp only[frz];rw[iN7]
 simp only[nfH,Kv,Gj,Gl,Qj,JV,h0 5 _ _ _ vk,h0 6 _ _ _ vk,h0 1 _ _ _ vk,h0 2 _ _ _ vk,h1,Jy (QS _),Jy (QV _),Jy (Jd _),Gd];rfl
theorem nfH_end{of:Lu}(hK:K=⟨t,of,upZ t t.nodes.length,fiZ t o t.nodes.length⟩):Fnl 0 (.ptr 0 0 0) (hpF K (FS.start t) []) (.ptr 0 0 0) (nfH t of (upZ t t.nodes.length) (fiZ t o t.nodes.length) []):=by
 subst hK;have hu:(iz (upZ t t.nodes.length)).length=t.nodes.length:=by rw[Jf,Jdu]
 have hf:(iz (fiZ t o t.nodes.length)).length=t.nodes.length:=by rw[Jf,JbD]
 have h1:∀(j a b id:Nat) (c:Option Nat) (z:Nat) (e:LM),j≠id->frz id z e (.slc j a b c)=.slc j a b c:=λj a b id c z e h=>by simp only[frz];rw[if_neg h]
 have h2:∀(id z:Nat) (e:LM),0≠id->frz id z e (.ptr 0 0 0)=.ptr 0 0 0:=λid z e h=>by simp only[frz];rw[if_neg h]
 have h3:∀(id z:Nat) (e:LM) (n:Nat),e.length=n->frz id z e (.slc id 0 n (some n))=.rslc z e none:=λid z e n h=>by subst h;simp only[frz,if_true,Gr,Gv,Gq,List.take_length]
 have e1:Kv 5 1 (iz (upZ t t.nodes.length)) (nfH t of (upZ t t.nodes.length) (fiZ t o t.nodes.length) [])=[.arr 11 [[.rslc 5 (ndz t.nodes) none,.rslc 1 (iz t.items) none,.rslc 1 (iz of) none,.rslc 1 (iz (upZ t t.nodes.length)) none,.slc 6 0 t.nodes.length (some t.nodes.length),.slc 1 0 t.nodes.length (some t.nodes.length),.slc 2 0 t.nodes.length (some t.nodes.length),.map 3,.map 4,.int .i64 0,.bool false]],.arr 1 (gz (Gh t.nodes.length [])),.arr 1 (bqz (Gh t.nodes.length false)),.map [],.map [],.dead,.arr 1 (iz (fiZ t o t.nodes.length)),.arr 1 [[.ptr 0 0 0]]]:=by simp only[nfH,Kv,Gj,Gl,Qj,JV,h1 6 _ _ 5 _ _ _ vk,h1 1 _ _ 5 _ _ _ vk,h1 2 _ _ 5 _ _ _ vk,h2 5 _ _ vk,h3 5 1 _ _ hu,Jy (QS _),Jy (QV _),Jy (Jd _),Gd,Gc];rfl
 have e2:Kv 6 1 (iz (fiZ t o t.nodes.length)) [.arr 11 [[.rslc 5 (ndz t.nodes) none,.rslc 1 (iz t.items) none,.rslc 1 (iz of) none,.rslc 1 (iz (upZ t t.nodes.length)) none,.slc 6 0 t.nodes.length (some t.nodes.length),.slc 1 0 t.nodes.length (some t.nodes.length),.slc 2 0 t.nodes.length (some t.nodes.length),.map 3,.map 4,.int .i64 0,.bool false]],.arr 1 (gz (Gh t.nodes.length [])),.arr 1 (bqz (Gh t.nodes.length false)),.map [],.map [],.dead,.arr 1 (iz (fiZ t o t.nodes.length)),.arr 1 [[.ptr 0 0 0]]]=hpF ⟨t,of,upZ t t.nodes.length,fiZ t o t.nodes.length⟩ (FS.start t) [.dead,.dead,.arr 1 [[.ptr 0 0 0]]]:=by simp only[Kv,Gj,Gl,Qj,JV,h1 1 _ _ 6 _ _ _ vk,h1 2 _ _ 6 _ _ _ vk,h2 6 _ _ vk,h3 6 1 _ _ hf,Jy (QS _),Jy (QV _),Jy (Jd _),Gd,Gc];rfl
 refine .frz 5 1 (iz (upZ t t.nodes.length)) rfl (Jd _) ?_;rw[h2 5 _ _ vk,e1];refine .frz 6 1 (iz (fiZ t o t.nodes.length)) rfl (Jd _) ?_;rw[h2 6 _ _ vk,e2];refine .ren [0,1,2,3,4] rfl ?_;rw[Qt (Y:=[]) rfl];exact .done (wk.refl _)
section
variable(g:GoodT t o)(ht:t.Fit)
include g ht
theorem newFinder (of:Lu):CallsC Gs Env.none 30 [t.cv,.agg [.rslc 1 (iz of) none]] [] λv H'=>v=.ptr 0 0 0/\H'=hpF ⟨t,of,upZ t t.nodes.length,fiZ t o t.nodes.length⟩ (FS.start t) []:=by
 have Ah:=g.many;refine CallsC.fnl ?_;refine vfS c30_ok λN=>?_
 simp only[c30,go_sem,Tr.cv,Tr.row,Jb];refine Je (id:=0) (z:=2) (els:=[t.row]) rfl rfl ?_;simp only[go_sem,Tr.row];refine Je (id:=1) (z:=1) (els:=[[.rslc 1 (iz of) none]]) rfl rfl ?_;simp only[go_sem];refine vr_ren [] rfl ?_;simp only[go_sem];refine vr_pads 8 rfl ?_;simp only[go_sem];refine Jdq (H':=[.dead,.dead,.dead,.dead,.dead,.dead,.dead,.dead]) rfl ?_;simp only[go_sem];have Ov:∀(ρ:Lx) (id i n:Nat),Jm id ρ 0=some i->ren ρ (.slc id 0 n (some n))=.slc i 0 n (some n):=λρ id i n h=>by simp only[ren,h]
 have Es:∀(ρ:Lx) (id i:Nat),Jm id ρ 0=some i->ren ρ (.map id)=.map i:=λρ id i h=>by simp only[ren,h]
 have d9:∀(ρ:Lx) (id i:Nat),Jm id ρ 0=some i->ren ρ (.ptr id 0 0)=.ptr i 0 0:=λρ id i h=>by simp only[ren,h]
 have U3:∀b:Int,0<=b->b<=24->(Cond.and (.ile 0 (t.nodes.length:Int)) (.and (.ile (t.nodes.length:Int) (t.nodes.length:Int)) (.and (.ile (t.nodes.length:Int) 281474976710656) (.ile (b*(t.nodes.length:Int)) 281474976710656)))).holds:=λb h1 h2=>by
  refine⟨?_,?_,?_,?_⟩
  ·show (0:Int)<=_;omega
  ·show (t.nodes.length:Int)<=_;omega
  ·show (t.nodes.length:Int)<=_;omega
  ·show b*(t.nodes.length:Int)<=_;have:=Int.mul_le_mul h2 (show (t.nodes.length:Int)<=700 by omega) om om;omega
 have PZ:∀(m:Nat) (c:CV),refs c=[]->JhV (.arr 1 (Gh m [c]))=[]:=λm c h=>by simp[JhV,Jgg,h,List.flatMap_replicate]
 refine vr_dregZ 0 [(0,[]),(0,[]),(0,[]),(0,[]),(6,[]),(0,[]),(7,[]),(0,[]),(2,[]),(0,[]),(3,[]),(4,[]),(5,[]),(0,[5,6,1,2,3,4]),(1,[5,6,1,2,3,4]),(8,[]),(8,[0])] Jr vM (NoD.none rfl rfl) ?_;refine JdT rfl rfl (GQ rfl) rfl sM ?_;simp only[go_sem];refine JdT rfl rfl (GQ rfl) rfl sM ?_;simp only[go_sem];refine JdT rfl rfl trivial rfl sM ?_;simp only[go_sem];refine JdT rfl rfl trivial rfl sM ?_;simp only[go_sem];refine JdU 5 (λid=>.slc id 0 t.nodes.length (some t.nodes.length)) (.arr 1 (Gh t.nodes.length [.int .i64 0])) rfl (λ_=>rfl) (U3 8 vk vk) (λ_ _ _ h=>Ov _ _ _ _ h) rfl rfl rfl vk vk (PZ _ _ rfl) sM ?_;simp only[go_sem,Gc,Gd];refine JdT rfl rfl trivial rfl sM ?_;simp only[go_sem];refine JdU 6 (λid=>.slc id 0 t.nodes.length (some t.nodes.length)) (.arr 1 (Gh t.nodes.length [.int .i64 0])) rfl (λ_=>rfl) (U3 8 vk vk) (λ_ _ _ h=>Ov _ _ _ _ h) rfl rfl rfl vk vk (PZ _ _ rfl) sM ?_;simp only[go_sem,Gc,Gd];refine JdT rfl rfl trivial rfl sM ?_;simp only[go_sem];refine JdU 1 (λid=>.slc id 0 t.nodes.length (some t.nodes.length)) (.arr 1 (Gh t.nodes.length [.nils])) rfl (λ_=>rfl) (U3 24 vk vk) (λ_ _ _ h=>Ov _ _ _ _ h) rfl rfl rfl vk vk (PZ _ _ rfl) sM ?_;simp only[go_sem,Gc,Gd];refine JdT rfl rfl trivial rfl sM ?_;simp only[go_sem];refine JdU 2 (λid=>.slc id 0 t.nodes.length (some t.nodes.length)) (.arr 1 (Gh t.nodes.length [.bool false])) rfl (λ_=>rfl) (U3 1 vk vk) (λ_ _ _ h=>Ov _ _ _ _ h) rfl rfl rfl vk vk (PZ _ _ rfl) sM ?_;simp only[go_sem,Gc,Gd];refine JdU 3 (λid=>.map id) (.map []) rfl (λ_=>rfl) trivial (λ_ _ _ h=>Es _ _ _ h) rfl rfl rfl vk vk rfl sM ?_;simp only[go_sem,Gc,Gd];refine JdU 4 (λid=>.map id) (.map []) rfl (λ_=>rfl) trivial (λ_ _ _ h=>Es _ _ _ h) rfl rfl rfl vk vk rfl sM ?_;simp only[go_sem,Gc,Gd];have AO:∀(H:Lt) (i:Nat),(∃ob,H[i]? = some ob/\ob.alive=true)->okId H 0 i:=λH i ⟨ob,h1,h2⟩=>⟨(GG.1 h1).1,λhd=>by rw[hd]at h1;cases h1;cases h2⟩
 refine JdT rfl rfl trivial rfl (by intro i hi;simp only[G8,GZ,or_false]at hi;rcases hi with rfl|rfl|rfl|rfl|rfl|rfl <;> exact AO _ _ ⟨_,rfl,rfl⟩) ?_
 simp only[go_sem];refine JdU 0 (λid=>.ptr id 0 0) (.arr 11 [[.rslc 5 (ndz t.nodes) none,.rslc 1 (iz t.items) none,.rslc 1 (iz of) none,.slc 5 0 t.nodes.length (some t.nodes.length),.slc 6 0 t.nodes.length (some t.nodes.length),.slc 1 0 t.nodes.length (some t.nodes.length),.slc 2 0 t.nodes.length (some t.nodes.length),.map 3,.map 4,.int .i64 0,.bool false]]) rfl (λ_=>rfl) trivial (λ_ _ _ h=>d9 _ _ _ h) rfl rfl rfl vk vk rfl (by intro i hi;simp only[G8,GZ,or_false]at hi;rcases hi with rfl|rfl|rfl|rfl|rfl|rfl <;> exact AO _ _ ⟨_,rfl,rfl⟩) ?_
 simp only[go_sem,Gc];refine JdU 7 (λid=>.ptr id 0 0) (.arr 1 [[.nilp]]) rfl (λ_=>rfl) trivial (λ_ _ _ h=>d9 _ _ _ h) rfl rfl rfl vk vk rfl sM ?_;simp only[go_sem,Gc,Gd];refine vz_set 7 (.arr 1 [[.ptr 0 0 0]]) rfl (λH2 h=>?_) (c:=.and (.le 1 1) (.le 1 1)) (v:=.un) ?_ rfl rfl rfl (by intro i hi;rw[He]at hi;subst hi;exact AO _ _ ⟨_,rfl,rfl⟩) sM ?_
 ·have h2:H2[7]? = some (CObj.arr 1 [[CV.nilp]]):=h;simp only[exec,go_sem,h2]
 ·exact⟨Gv _,Gv _⟩
 simp only[vdz,go_sem,JV,frz,ren,JB,Gc,Gd,GH,Gq,GD,if_true,if_false];refine vr_wkE (i:=1) (z:=1) (els':=gz (Gh t.nodes.length [])) rfl (by simp[gz]) (λj a b h1 h2=>?_) ?_
 ·rw[Gz]at h1;simp only[gz,List.map_replicate,Gz]at h2
  split at h1
  ·rename_i hj;rw[if_pos hj]at h2
   cases h1;cases h2
   exact⟨wk.nils,trivial⟩
  ·cases h1
 simp only[go_sem,Gc,Gd];refine Jdq (H':=nfH t of (upZ t 0) (fiZ t o 0) []) (by rw[upZ_zero g,fiZ_zero];simp[nfH,bqz,iz]) ?_;simp only[go_sem,Jb];refine Js (I:=λj:Nat=>j<=t.nodes.length) (inv:=λj=>mkT 71 [(6,.ptr 7 0 0),(30,.rslc 5 (ndz t.nodes) none),(31,.int .i64 (t.nodes.length:Int)),(32,.int .i64 (j:Int))]) (hp:=λj=>nfH t of (upZ t j) (fiZ t o j) []) (μ:=λj=>t.nodes.length-j) 0 [0,1,2,3,4,5,6,7] om rfl ?_ nfH_ren ?_
 ·simp only[QA,Gj,Gl,ren,Jm];refine JI ?_;simp[K6,KZ]
 ·intro j hj;by_cases Ab:j<t.nodes.length
  ·have d2:=dtT j t.nodes.length;have hg:=J7 Ab;simp only[go_sem,nfH,d2,Jb,hg,Nd.cv]
   repeat refine anO ?_
   have fr:Kv 8 1 [[.int .i64 (j:Int)]] (nfH t of (upZ t j) (fiZ t o j) [.arr 1 [[.int .i64 (j:Int)]],.arr 5 [(nd t j).cv]])=nfH t of (upZ t j) (fiZ t o j) [.dead,.arr 5 [(nd t j).cv]]:=nfH_frz (id:=0);have fr2:Kv 9 5 [(nd t j).cv] (nfH t of (upZ t j) (fiZ t o j) [.dead,.arr 5 [(nd t j).cv]])=nfH t of (upZ t j) (fiZ t o j) [.dead,.dead]:=nfH_frz (id:=1);simp only[nfH,Nd.cv]at fr fr2;refine Je (id:=8) (z:=1) (els:=[[.int .i64 (j:Int)]]) rfl rfl ?_;rw[fr];simp only[go_sem,Q3,frz,Gj,Gl,GH,Gq,GD,if_true,if_false];refine Je (id:=9) (z:=5) (els:=[(nd t j).cv]) rfl rfl ?_;simp only[Nd.cv];rw[fr2];simp only[go_sem,Q3,frz,Gj,Gl,GH,Gq,GD,if_true,if_false];refine KL [1,0,0,1,0,0,1,2] Jr vM ?_;have FQ:(iz (fiZ t o j)).length=t.nodes.length:=by rw[Jf,JbD]
   have Mk:(iz (fiZ t o j)).getD j []=[.int .i64 ((fiZ t o j).getD j 0)]:=JL (by rw[JbD];exact Ab);simp only[go_sem,FQ,Mk,Jfv]
   repeat refine anO ?_
   refine Kk (backward (nd t j).kids) ?_;simp only[go_sem];have BL:=(JfK ht Ab).kidn;refine Jdq (H':=nfH t of (XK (j:Int) (upZ t j) ((nd t j).kids.reverse.take 0)) ((fiZ t o j).set j (fiS o j (nd t j).kids 0)) [.dead,.dead]) rfl ?_;simp only[go_sem];refine vr_rfuncJ (xs:=bks (nd t j).kids) (Γ:=Unit) (λs _=>True) (λs _=>nfH t of (XK (j:Int) (upZ t j) ((nd t j).kids.reverse.take s)) ((fiZ t o j).set j (fiS o j (nd t j).kids s)) [.dead,.dead]) () trivial rfl rfl rfl rfl c87_ok nm (backward1 _ om) (by simp[bks]) rfl ?_ ?_
   ·intro s _ c _ hc;have Dw:s<(nd t j).kids.length:=by have:=(GG.1 hc).1;rwa [Jf1]at this
    rw[bks_get Dw]at hc
    cases hc
    have Eo:s<(nd t j).kids.reverse.length:=by rw[List.length_reverse];exact Dw
    have Al:(nd t j).kids.reverse.take (s+1)=(nd t j).kids.reverse.take s++[(nd t j).kids.reverse.getD s 0]:=by rw[List.take_succ_eq_append_getElem Eo,Gb,Gx Eo];rfl
    have Ap:(nd t j).kids.reverse.getD s 0∈(nd t j).kids:=by rw[Gb,Gx Eo,Gp,<-List.mem_reverse];exact Hl Eo
    have kZ:=g.kid Ab Ap;have Ij:fiS o j (nd t j).kids (s+1)=fs o ((nd t j).kids.reverse.getD s 0):=by unfold fiS;rw[iN7,Nat.add_sub_cancel]
    generalize (nd t j).kids.reverse.getD s 0=k at *;obtain⟨c,rfl⟩:∃c:Nat,k=c:=⟨k.toNat,om⟩;have Oi:(iz (XK (j:Int) (upZ t j) ((nd t j).kids.reverse.take s))).length=t.nodes.length:=by rw[Jf,JbT,Jdu]
    have A7:(iz ((fiZ t o j).set j (fiS o j (nd t j).kids s))).length=t.nodes.length:=by rw[Jf,GK,JbD]
    have UY:∀x:Nat,x<t.nodes.length->(iz ((fiZ t o j).set j (fiS o j (nd t j).kids s))).getD x []=[.int .i64 (if x=j then fiS o j (nd t j).kids s else(fiZ t o j).getD x 0)]:=λx hx=>by
     rw[JL (by rw[GK,JbD];exact hx),Gb,List.getElem?_set];by_cases e:j=x
     ·subst e;simp[JbD,hx]
     ·rw[if_neg e,if_neg (λh=>e h.symm),<-Gb]
    have Dp:=UY c om;have BG:=UY j Ab;rw[iN7,fiZ_get om om]at Dp;rw[if_pos rfl]at BG;have iC:(iz (XK (j:Int) (upZ t j) ((nd t j).kids.reverse.take s))).getD c []=[.int .i64 ((XK (j:Int) (upZ t j) ((nd t j).kids.reverse.take s)).getD c 0)]:=JL (by rw[JbT,Jdu];omega);simp only[go_sem,nfH];refine KL [1,0,0,1,0,1,0,0,1,0,0,1,0,0,1,0,1,1,1,2,1,2] Jr vM ?_;simp only[go_sem,Oi,A7,Dp,BG,iC,Jfv]
    repeat refine anO ?_
    rw[Al,Jcs,Ij,List.set_set];exact⟨(),rfl⟩
   ·intro _ _;rw[Jf1,GU sM,<-upZ_succ g Ab,fiZ_succ g Ab];simp only[go_sem];refine⟨Ji,j+1,[0,1,2,3,4,5,6,7],om,om,rfl,nfH_ren,?_⟩;simp only[ren,Jm];refine JI ?_;simp[K6,KZ]
  ·have d2:=dfF j t.nodes.length;obtain rfl:j=t.nodes.length:=om
   simp only[go_sem,nfH,d2];exact nfH_end rfl
end
def JiG (t:Tr)(o:Lu):CV:=if (QO t o).2≠0 then .tup [.agg [.nils],.int .i64 ((QO t o).1:Int),.int .i64 (QO t o).2] else match (JM t o).bad with
 |some i=>.tup [.agg [.nils],.int .i64 (i:Int),.int .i64 11]
 |none=>.tup [.agg [.rslc 1 (gz (JM t o).got) none],.int .i64 0,.int .i64 0]
def cpG (got:List TL)(n j:Nat):List TL:=(Gm n).map λx=>if x<j then JE got x else []
theorem cpG_len{j:Nat}:(cpG got n j).length=n:=by simp[cpG]
theorem cpG_set{j:Nat}:(cpG got n j).set j (JE got j)=cpG got n (j+1):=by
 refine G7 (by simp[cpG]) λx h1 h2=>?_
 rw[List.getElem_set];simp only[cpG,G6,GX];by_cases e:j=x
 ·subst e;simp
 ·rw[if_neg e];by_cases h:x<j
  ·rw[if_pos h,iP7]
  ·rw[if_neg h,iN7]
theorem cpG_all(h:got.length=n):cpG got n n=got:=by
 refine G7 (by simp[cpG,h]) λx h1 h2=>?_
 simp only[cpG,G6,GX];rw[if_pos (by simpa [cpG]using h1)];unfold JE;rw[Gb,Gx h2];rfl
theorem nf_in{S:FS}{x:CV}(hx:x.closed=true):Ko [1,2,3,4,5,0] (Y5 [] 1 0 (hpF K S []) [.arr 1 [[x]]])=hpF K S [.arr 1 [[x]]]:=by
 have h1:=JaS (τ:=tau [] 1) (z:=1) (QS S.got);have h2:=JaS (τ:=tau [] 1) (z:=1) (QV S.dn);have h3:∀l:List (Nat×Bool),moO (tau [] 1) (.map (kz l))=.map (kz l):=λl=>by show CObj.map ((kz l).map λp=>(mo _ p.1,mo _ p.2))=_;unfold kz;rw[List.map_map];rfl
 have e:Y5 [] 1 0 (hpF K S []) [.arr 1 [[x]]]=[.arr 1 [[x]],moO (tau [] 1) (.arr 11 [fRow K S.bad]),.arr 1 (gz S.got),.arr 1 (bqz S.dn),.map (kz S.fd),.map (kz S.fg)]:=by rw[<-h1,<-h2,<-h3 S.fd,<-h3 S.fg];rfl
 rw[e];show [Yd _ (moO (tau [] 1) (.arr 11 [fRow K S.bad])),Yd _ (.arr 1 (gz S.got)),Yd _ (.arr 1 (bqz S.dn)),Yd _ (.map (kz S.fd)),Yd _ (.map (kz S.fg)),Yd _ (.arr 1 [[x]])]=_;have h4:∀l:List (Nat×Bool),Yd [1,2,3,4,5,0] (.map (kz l))=.map (kz l):=λl=>by rw[JhU,ren_kz]
 rw[h4,h4];simp only[Yd];rw[Ja (QS _),Ja (QV _)];have h5:JB [1,2,3,4,5,0] [x]=[x]:=by simp only[JB,Xm x hx]
 simp only[Gj,Gl,h5];rfl
theorem in_ren{S:FS}:Ko [0,1,2,3,4,5,6] (hpF K S [.arr 1 [[.slc 6 0 n (some n)]],.arr 1 (gz got)])=hpF K S [.arr 1 [[.slc 6 0 n (some n)]],.arr 1 (gz got)]:=by refine Qt ?_;show [Yd _ (.arr 1 [[.slc 6 0 n (some n)]]),Yd _ (.arr 1 (gz got))]=_;simp only[Yd];rw[Ja (QS _)];rfl
section
variable(g:GoodT t o)(ht:t.Fit)
include g ht
omit ht in
theorem in_pre {S':FS}{j:Nat}(hj:j<t.nodes.length)(hd:S'.bad=none->∀k,k<j->S'.dn.getD (0+k) false=true):Jgn t o S' j:=λhb=>by
 have Bt:=hd hb;refine⟨λc hc=>?_,λv hv Cu OW _=>?_⟩
 ·have Ar:=(JC g hj hc).2;have:=Bt c om;rw[Gr]at this;exact this
 ·have:=Bt v om;rw[Gr]at this;exact this
theorem JaM:Fn Gs 9 [t.cv] (JiG t o):=by
 have Ah:=g.many;have hR:=nResolve g ht;refine fn_fnl ?_ rfl (by unfold JiG;split;rfl;split <;> rfl);refine vfS c9_ok λN=>?_
 simp only[c9,go_sem,Tr.cv,Tr.row];refine Kk hR ?_;by_cases hE:(QO t o).2=0
 ·rw[if_pos hE];simp only[go_sem];refine Je (id:=0) (z:=2) (els:=[t.row]) rfl rfl ?_;simp only[go_sem,Tr.row];refine Je (id:=2) (z:=1) (els:=[[.rslc 1 (iz (ofL t o)) none]]) rfl rfl ?_;simp only[go_sem];refine vr_ren [1] rfl ?_;simp only[go_sem];refine Jdq (H':=[.arr 1 [[.nils]]]) rfl ?_;simp only[go_sem,JV,frz,ren,JB,GH,Gq,GD,if_true,if_false,Jm];have hI:=Jid g hE;have El:∀j,(KW 0 (j+1)).foldl (doF t o (mnF t o) (t.nodes.length+1)) (FS.start t)=doF t o (mnF t o) (t.nodes.length+1) ((KW 0 j).foldl (doF t o (mnF t o) (t.nodes.length+1)) (FS.start t)) j:=λj=>by rw[Jas,GY,Gr];rfl
  have Ak:(KW 0 t.nodes.length).foldl (doF t o (mnF t o) (t.nodes.length+1)) (FS.start t)=JM t o:=by
   unfold JM KW
   congr 1
   exact List.map_congr_left (λx _=>Gr x) |>.trans (List.map_id _)
  have Uy:Ln (FS.start t).got:=λj=>by
   unfold FS.start JE;simp only[Gb,Gz]
   split <;> simp
  have BH:=λj=>JhE ht (o:=o) (S:=FS.start t) Uy (t.nodes.length+1) (KW 0 j)
  have OZ:uf t (FS.start t)<=t.nodes.length:=by unfold uf;have:=List.length_filter_le (λs=>!J2 (FS.start t).fg s) (Gm t.nodes.length);rw[List.length_range]at this;exact this
  refine vr_locE [] (.inl rfl) (newFinder g ht (ofL t o)) rfl rfl rfl (v2:=.ptr 1 0 0) rfl rfl ?_;simp only[go_sem,Jb,Gf,Gg,Gr];refine Js (I:=λj:Nat=>j<=t.nodes.length) (inv:=λj=>mkT 67 [(1,.rptr [.rslc 5 (ndz t.nodes) none,.rslc 1 (iz t.items) none]),(2,.ptr 5 0 0),(6,.ptr 0 0 0),(25,.int .i64 (t.nodes.length:Int)),(26,.int .i64 (j:Int))]) (hp:=λj=>hpF (fK t o) ((KW 0 j).foldl (doF t o (mnF t o) (t.nodes.length+1)) (FS.start t)) [.arr 1 [[.nils]]]) (μ:=λj=>t.nodes.length-j) 0 [1,2,3,4,5,0] om rfl ?_ (nf_in rfl) ?_
  ·simp only[QA,Gj,Gl,ren,Jm];refine JI ?_;simp[K6,KZ]
  ·intro j hj;obtain⟨q1,q2,q3,q4⟩:=hI j hj;have PO:=BH j;by_cases Ab:j<t.nodes.length
   ·have d2:=dtT j t.nodes.length;have hW:=lawDo g ht hE (t.nodes.length+1) _ j q1 q2 PO Ab (in_pre g Ab q4) (by rw[uf_eq q3];omega);rw[<-El]at hW;simp only[go_sem,d2];refine KH hW (.inl rfl) rfl rfl rfl rfl ?_;simp only[go_sem];refine⟨Ji,j+1,[0,1,2,3,4,5],om,om,rfl,Qt rfl,?_⟩;simp only[ren,Jm];refine JI ?_;simp[K6,KZ]
   ·have d2:=dfF j t.nodes.length;obtain rfl:j=t.nodes.length:=om
    have CJ:JiG t o=match (JM t o).bad with
     |some i=>.tup [.agg [.nils],.int .i64 (i:Int),.int .i64 11]
     |none=>.tup [.agg [.rslc 1 (gz (JM t o).got) none],.int .i64 0,.int .i64 0]:=by unfold JiG;rw[if_neg (λh=>h hE)]
    rw[Ak]at q1 PO|-;have A7:=q1.gl;have jV:∀x,Yq (JE (JM t o).got x)=true:=q1.fine;generalize JM t o=SI at *;obtain⟨got,dn,fd,fg,bad⟩:=SI
    dsimp only at A7 PO CJ jV
    cases bad with
    |some i=>
     rw[CJ];simp only[go_sem,d2,hpF,fRow,fK,Gn,Gp];refine KL [0,0,0,0,4,2005,0,0] Jr vM ?_;simp only[go_sem,yexecN (show 1000<=2005 by decide)];refine vy_set 5 (.arr 1 [[.nils]]) (.inl rfl) (c:=.and (.le 1 1) (.le 1 1)) (v:=.un) (λH2 h=>?_) ⟨Gv _,Gv _⟩ sM ?_
     ·have h2:H2[5]? = some (CObj.arr 1 [[CV.nils]]):=h;simp only[exec,go_sem,h2]
     simp only[go_sem,Gc,Gd];exact Fnl.drop rfl (wk.refl _)
    |none=>
     rw[CJ];simp only[go_sem,d2,hpF,fRow,fK,Gu,Gw,Jb];have bq:(gz got).length=t.nodes.length:=by rw[Yp,A7]
     have Ar:∀j,(gz (cpG got t.nodes.length j)).length=t.nodes.length:=λj=>by rw[Yp,cpG_len]
     refine⟨⟨om,om,om,om⟩,?_⟩;refine vr_wkE (i:=6) (z:=1) (els':=gz (cpG got t.nodes.length 0)) rfl (by rw[Ar];simp) (λj a b h1 h2=>?_) ?_
     ·rw[Gz]at h1;have e:gz (cpG got t.nodes.length 0)=Gh t.nodes.length [txV []]:=by simp[gz,cpG,List.map_const']
      rw[e,Gz]at h2
      split at h1
      ·rename_i hj;rw[if_pos hj]at h2
       cases h1;cases h2
       exact⟨wk.nils,trivial⟩
      ·cases h1
     simp only[go_sem,Gc,Gd];refine Js (I:=λj:Nat=>j<=t.nodes.length) (inv:=λj=>mkT 67 [(2,.ptr 5 0 0),(6,.ptr 0 0 0),(49,.int .i64 (t.nodes.length:Int)),(50,.int .i64 (j:Int))]) (hp:=λj=>hpF (fK t o) ⟨got,dn,fd,fg,none⟩ [.arr 1 [[.slc 6 0 t.nodes.length (some t.nodes.length)]],.arr 1 (gz (cpG got t.nodes.length j))]) (μ:=λj=>t.nodes.length-j) 0 [0,1,2,3,4,5,6] om rfl ?_ (in_ren (K:=fK t o) (S:=⟨got,dn,fd,fg,none⟩)) ?_
     ·simp only[QA,Gj,Gl,ren,Jm];refine JI ?_;simp[K6,KZ]
     ·intro j hj;by_cases Ab:j<t.nodes.length
      ·have d3:=dtT j t.nodes.length;have BG:=Xw (l:=got) (i:=j) om;have jJ:=Xw (l:=cpG got t.nodes.length j) (i:=j) (by rw[cpG_len];exact Ab);have hC:=cloneTx (l:=JE got j) (by have:=PO j;omega);have BA:(gz (cpG got t.nodes.length j)).set j [.rslc 1 (txz (JE got j)) none]=gz (cpG got t.nodes.length (j+1)):=by rw[<-cpG_set,<-gz_set];rfl
       simp only[go_sem,d3,hpF,fRow,fK];refine KL [0,1,0,0,0,0,1,0,1,1,0,1,2] Jr vM ?_;simp only[go_sem,bq,BG]
       repeat refine anO ?_
       refine vy_f (.inl rfl) hC ?_;simp only[go_sem,txV,Ar,jJ,Gf,Gg,BA]
       repeat refine anO ?_
       refine⟨Ji,j+1,[0,1,2,3,4,5,6],om,om,rfl,in_ren (K:=fK t o) (S:=⟨got,dn,fd,fg,none⟩),?_⟩;simp only[ren,Jm];refine JI ?_;simp[K6,KZ]
      ·have d3:=dfF j t.nodes.length;obtain rfl:j=t.nodes.length:=om
       rw[cpG_all A7];simp only[go_sem,d3,hpF,fRow,fK];have hz:frz 6 1 (gz got) (.tup [.agg [.slc 6 0 t.nodes.length (some t.nodes.length)],.int .i64 0,.int .i64 0])=.tup [.agg [.rslc 1 (gz got) none],.int .i64 0,.int .i64 0]:=by simp only[frz,JV,if_true,Gr,Gq];rw[iP7,GU om]
       refine .frz 6 1 (gz got) rfl (QS _) ?_;rw[hz];exact Fnl.drop rfl (wk.refl _)
 ·rw[if_neg hE];have e:JiG t o=.tup [.agg [.nils],.int .i64 ((QO t o).1:Int),.int .i64 (QO t o).2]:=by unfold JiG;rw[if_pos hE]
  have d1:((QO t o).2 != 0)=true:=by simpa using hE
  rw[e];simp only[go_sem,d1];exact Fnl.drop rfl (wk.refl _)
end
end Go.Cm
end
end
