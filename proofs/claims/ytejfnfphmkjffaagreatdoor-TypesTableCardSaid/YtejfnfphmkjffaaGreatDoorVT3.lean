/-
  A part of the proof. Conditions: none.
-/
import Derived.Test.YtejfnfphmkjffaaGreatDoorVT2
set_option linter.unusedSimpArgs false
set_option linter.unusedVariables false
open Int renaming cast_ofNat_Int->Ga,toNat_natCast->Gi
open List renaming getD_eq_getElem?_getD->Gb,set_cons_zero->Gc,set_cons_succ->Gd,length_cons->Gf,length_nil->Gg,replicate->Gh,getElem?_eq_getElem->Gx,map_cons->Gj,map_nil->Gl,drop_zero->Gq,range->Gm,getElem?_replicate->Gz,getElem?_eq_some_iff->GG,getD_cons_zero->GH,mem_range->GA,all_eq_false->GI,length_take->GJ,take_of_length_le->GU,length_set->GK,take_zero->GL,drop_succ_cons->GV,getElem_range->GX,foldl_append->GY,mem_map->GM,not_mem_nil->GZ,length_drop->G5,getElem_map->G6,ext_getElem->G7,getElem?_take_of_lt->Ha,mem_cons->G8,getElem?_eq_none->Hd,mem_singleton->He,isEmpty_nil->Hf,isEmpty_iff->Hg,getElem_mem->Hl,range_succ->Hm,nil_append->Ho,append_nil->Hq,all_append->Hr,all_cons->Ht,all_nil->Hu
open Bool renaming and_true->Gt,true_and->Gy,false_and->GN,not_false->G9,not_true->Hw,false_or->Hy,true_or->Hz
open Nat renaming zero_add->Gr,le_refl->Gv,le_of_ble_eq_true->GQ,reduceEqDiff->GD,sub_zero->GR
open Go.Proofs.Tryz renaming prog->Gs
open Option renaming isSome_some->Gn,getD_some->Gp,isSome_none->Gu,getD_none->Gw,isSome_iff_exists->HV
noncomputable section
section
set_option maxRecDepth 100000
set_option maxHeartbeats 4000000
open Go.Proofs
namespace Go.Cm
section
section
variable {K:FT0}{Z:FS}{o:List Int}(g:GoodT K.t o)(ht:K.t.Fit)
include g ht
omit ht in
theorem great1 {i m:Nat}(hi:i<K.t.nodes.length)(hk:19<=(nd K.t i).k/\(nd K.t i).k<=25)(hl:Z.got.length=K.t.nodes.length)(hf:∀j,X6 (Ju Z.got j)=true):Ans K Z 93 [.int .i64 (i:Int)] (Xa K.t m Z.got i):=by
 have Aj:=g.many;have hg:=J3 hi;have A7:(gz Z.got).length=K.t.nodes.length:=by rw[X5,hl]
 have hp:=JfR g hi (Qz g hi (.inl hk));have Aw:(nd K.t i).kids.length=1:=by rw[hp];rfl
 have h0:=Jz g hi (i:=0) (by omega);have k0:=JcJ g (got:=Z.got) hi (j:=0) (by omega) (J2 g hi (by omega));rw[Gi]at k0;have Cs:=Jcq g hi;generalize gZ:JG K.t i 0=a at *;have Am:a<K.t.nodes.length:=by omega
 have Ie:=QW (l:=Z.got) (i:=a) (by omega);have hB:=λw=>fmAre (K:=K) (Z:=Z) (w:=tyT w) (ks:=[(a:Int)]) hl (by simp;omega) (by simp)
 simp only[JaA,Gi]at hB;have iZ:=hB .int;have O9:=hB .bool;have O4:=Jf2 (K:=K) Am hl (hf a);have aU:=fmArrayed (K:=K) Am hl (hf a);clear hB;rcases (show (nd K.t i).k=19\/(nd K.t i).k=20\/(nd K.t i).k=21\/(nd K.t i).k=23\/(nd K.t i).k=24\/(nd K.t i).k=22\/(nd K.t i).k=25 by omega) with hk|hk|hk|hk|hk|hk|hk
 ·refine Ans.of (txV [.bool]) (by rw[JL,hk,rk_not,k0]) rfl (λ_=>rfl) ?_;refine J8 (vfS c93_ok λN=>?_);simp -implicitDefEqProofs only[c93,go_sem,hpF,fRow,Jb,hg,Nd.cv,hk,hp,Ga]
  repeat refine anO ?_
  refine Ku O9 (.inl rfl) rfl rfl rfl rfl ?_;simp -implicitDefEqProofs only[go_sem];exact .one 1 rfl rfl rfl (wk.refl _)
 ·refine Ans.of (txV [.int]) (by rw[JL,hk,rk_neg,k0]) rfl (λ_=>rfl) ?_;refine J8 (vfS c93_ok λN=>?_);simp -implicitDefEqProofs only[c93,go_sem,hpF,fRow,Jb,hg,Nd.cv,hk,hp,Ga]
  repeat refine anO ?_
  refine Ku iZ (.inl rfl) rfl rfl rfl rfl ?_;simp -implicitDefEqProofs only[go_sem];exact .one 1 rfl rfl rfl (wk.refl _)
 ·refine Ans.of (.rslc 1 [[S (opT (prt (Ke (Ju Z.got a))))]] none) (by rw[JL,hk,rk_head,k0]) rfl (λh=>?_) ?_
  ·obtain⟨e,he⟩:=JeC.1 h;rw[he];rfl
  refine J8 (vfS c93_ok λN=>?_);simp -implicitDefEqProofs only[c93,go_sem,hpF,fRow,Jb,hg,Nd.cv,hk,hp,Ga,Kn,Xw,Gf,Gg]
  repeat refine anO ?_
  refine Ku O4 (.inl rfl) rfl rfl rfl rfl ?_;simp -implicitDefEqProofs only[go_sem,hpF];exact .one 1 rfl rfl rfl (wk.refl _)
 ·refine Ans.of (txV [.bool]) (by rw[JL,hk,JgJ,k0]) rfl (λ_=>rfl) ?_;refine J8 (vfS c93_ok λN=>?_);simp -implicitDefEqProofs only[c93,go_sem,hpF,fRow,Jb,hg,Nd.cv,hk,hp,Ga,Kn,Xw,Gf,Gg]
  repeat refine anO ?_
  refine Ku O4 (.inl rfl) rfl rfl rfl rfl ?_;simp -implicitDefEqProofs only[go_sem,hpF];exact .one 1 rfl rfl rfl (wk.refl _)
 ·refine Ans.of (txV [.int]) (by rw[JL,hk,rk_size,k0]) rfl (λ_=>rfl) ?_;refine J8 (vfS c93_ok λN=>?_);simp -implicitDefEqProofs only[c93,go_sem,hpF,fRow,Jb,hg,Nd.cv,hk,hp,Ga,Kn,Xw,Gf,Gg]
  repeat refine anO ?_
  refine Ku aU (.inl rfl) rfl rfl rfl rfl ?_;simp -implicitDefEqProofs only[go_sem,hpF];exact .one 1 rfl rfl rfl (wk.refl _)
 ·refine Ans.of (txV (Ju Z.got a)) (by rw[JL,hk,rk_tail,k0]) rfl (λ_=>rfl) ?_;refine J8 (vfS c93_ok λN=>?_);simp -implicitDefEqProofs only[c93,go_sem,hpF,fRow,Jb,hg,Nd.cv,hk,hp,Ga,Kn,Xw,Gf,Gg]
  repeat refine anO ?_
  refine Ku O4 (.inl rfl) rfl rfl rfl rfl ?_;simp -implicitDefEqProofs only[go_sem,hpF,fRow];refine JQ [0,0,0,1,0,0,0,1,1,0,0,0] Jp (by decide +kernel) ?_;simp -implicitDefEqProofs only[go_sem,Ie,A7,Gf,Gg]
  repeat refine anO ?_
  exact .out (wk.refl _) rfl
 ·obtain⟨_,_,q3,q4⟩:=Cs (.inl hk);have CB:=Jd9 (t:=K.t) (i:=a) (by omega);refine Ans.of (b:=true) (l:=[.str (tyN K.t a)]) (txV [.str (tyN K.t a)]) (by rw[JL,hk,rk_nil,gZ];rfl) rfl (λ_=>rfl) ?_;refine J8 (vfS c93_ok λN=>?_);simp -implicitDefEqProofs only[c93,go_sem,hpF,fRow,Jb,hg,Nd.cv,hk,hp,Ga,Kn,Xw,Gf,Gg]
  repeat refine anO ?_
  refine Ku (XF g a Am q3 q4) (.inl rfl) rfl rfl rfl rfl ?_;simp -implicitDefEqProofs only[go_sem];refine JV (Jd6 _ (by omega)) ?_;simp -implicitDefEqProofs only[go_sem,hpF];exact .one 1 rfl rfl rfl (wk.refl _)
theorem great2 {i m:Nat}(hi:i<K.t.nodes.length)(hk:26<=(nd K.t i).k/\(nd K.t i).k<=29)(hl:Z.got.length=K.t.nodes.length)(hf:∀j,X6 (Ju Z.got j)=true)(BR:Ln Z.got)(Bb:K.of.length=K.t.nodes.length)(hm:(nd K.t i).k=26->K.of.getD i 0=(m:Int)/\m<K.t.nodes.length/\(nd K.t m).k=65):Ans K Z 93 [.int .i64 (i:Int)] (Xa K.t m Z.got i):=by
 have Aj:=g.many;have hg:=J3 hi;have A7:(gz Z.got).length=K.t.nodes.length:=by rw[X5,hl]
 have Af:(iz (nd K.t i).kids).length=(nd K.t i).kids.length:=Jg;have BK:=(JeS ht hi).kidn;have hK:∀j,j<(nd K.t i).kids.length->∃c:Nat,(iz (nd K.t i).kids).getD j []=[.int .i64 (c:Int)]/\c<K.t.nodes.length/\KK K.t Z.got i j=Ju Z.got c:=λj hj=>by
  have h1:=Jz g hi (i:=j) hj;exact⟨JG K.t i j,by rw[JH hj,J2 g hi hj],by omega,by rw[JcJ g hi hj (J2 g hi hj),Gi]⟩
 have hB:=λ(c:Nat) (hc:c<K.t.nodes.length)=>fmAre (K:=K) (Z:=Z) (w:=tyT .bool) (ks:=[(c:Int)]) hl (by simp;omega) (by simp)
 simp only[JaA,Gi]at hB;rcases (show (nd K.t i).k=26\/(nd K.t i).k=27\/(nd K.t i).k=28\/(nd K.t i).k=29 by omega) with hk|hk|hk|hk
 ·obtain⟨m1,m2,m3⟩:=hm hk;obtain⟨x,Be,Bd,hC⟩:=fmCall g ht (Z:=Z) hi hk Bb m1 m2 m3 hl;refine⟨x,Be,Bd,?_⟩;refine J8 (vfS c93_ok λN=>?_);simp -implicitDefEqProofs only[c93,go_sem,hpF,fRow,Jb,hg,Nd.cv,hk,Ga]
  repeat refine anO ?_
  refine Ku hC (.inl rfl) rfl rfl rfl (by simp only[CV.closed,Jm,Be,Gt]) ?_;simp -implicitDefEqProofs only[go_sem];exact .out (wk.refl _) (by simp only[CV.closed,Jm,Be,Gt])
 ·have h3:=kids_if g hi hk;obtain⟨a,a1,a2,a3⟩:=hK 0 (by omega);obtain⟨b,b1,b2,b3⟩:=hK 1 (by omega);obtain⟨c,c1,c2,c3⟩:=hK 2 (by omega);rw[h3]at Af;have Ie:=QW (l:=Z.got) (i:=a) (by omega);have Uk:=QW (l:=Z.got) (i:=b) (by omega);have EU:=QW (l:=Z.got) (i:=c) (by omega);have hE:=equalTx (Ju Z.got b) (Ju Z.got c) (by have:=BR b;omega);refine Ans.of (txV (Ju Z.got b)) (by rw[JL,hk,rk_if,a3,b3,c3]) rfl (λ_=>rfl) ?_;refine J8 (vfS c93_ok λN=>?_);simp -implicitDefEqProofs only[c93,go_sem,hpF,fRow,Jb,hg,Nd.cv,hk,Ga]
  repeat refine anO ?_
  refine JQ [0,0,0,1,0,0,0,1,1,0,0,0,0,0,1,0,0,0,0,1,0,0,0,1,1,0,0,0,1,0,0,0,1,1,0,0,0,0] Jp (by decide +kernel) ?_;simp -implicitDefEqProofs only[go_sem,Af,a1,b1,Uk,A7]
  repeat refine anO ?_
  refine vy_row (iz [(a:Int)]) (.inl rfl) rfl rfl rfl rfl ?_;simp -implicitDefEqProofs only[go_sem];refine vy_p (.inl rfl) ((hB a a2).on rfl rfl) ?_
  cases hx:(Ju Z.got a == [TyX.bool]) with
  |false=>
   simp -implicitDefEqProofs only[go_sem,GN];exact .out (wk.refl _) rfl
  |true=>
   simp -implicitDefEqProofs only[go_sem,Af,b1,c1,Uk,EU,A7,Gy]
   repeat refine anO ?_
   refine Jgh (gok rfl) hE ?_;simp -implicitDefEqProofs only[go_sem];exact .out (wk.refl _) rfl
 ·obtain⟨n,b,n1,n2,n3,_⟩:=XZ g hi hk;change (nd K.t i).n=n at n1;change b<(nd K.t i).kids.length at n3;obtain⟨a,a1,a2,a3⟩:=hK n (by omega);obtain⟨c,c1,c2,c3⟩:=hK ((nd K.t i).kids.length-1) (by omega);have EU:=QW (l:=Z.got) (i:=c) (by omega);refine Ans.of (txV (Ju Z.got c)) (by rw[JL,hk,rk_loop,n1,Gi,a3,c3]) rfl (λ_=>rfl) ?_;refine J8 (vfS c93_ok λN=>?_);simp -implicitDefEqProofs only[c93,go_sem,hpF,fRow,Jb,hg,Nd.cv,hk,Ga]
  repeat refine anO ?_
  refine JQ [0,0,0,1,0,0,0,0,0,0,1,1,0,0,0,1,0,0,0,1,0,0] Jp (by decide +kernel) ?_;simp -implicitDefEqProofs only[go_sem,Af,c1,EU,A7,n1,a1]
  repeat refine And.intro (by first|omega|exact⟨by omega,by omega⟩|exact Jh) ?_
  refine vy_row (iz [(a:Int)]) (.inl rfl) rfl rfl rfl rfl ?_;simp -implicitDefEqProofs only[go_sem];refine vy_p (.inl rfl) ((hB a a2).on rfl rfl) ?_;simp -implicitDefEqProofs only[go_sem];exact .out (wk.refl _) rfl
 ·obtain⟨x,Be,Bd,hC⟩:=fmCells g ht (m:=m) hi hk hl hf;refine⟨x,Be,Bd,?_⟩;refine J8 (vfS c93_ok λN=>?_);rw[Nd.cv,hk]at hC;simp -implicitDefEqProofs only[c93,go_sem,hpF,fRow,Jb,hg,Nd.cv,hk,Ga]
  repeat refine anO ?_
  refine Ku hC (.inl rfl) rfl rfl rfl (by simp only[CV.closed,Jm,Be,Gt]) ?_;simp -implicitDefEqProofs only[go_sem];exact .out (wk.refl _) (by simp only[CV.closed,Jm,Be,Gt])
end
end
section
theorem gvn_drop {t:Tr}{o:List Int}(g:GoodT t o){got:List TL}{i n:Nat}(hi:i<t.nodes.length):gvn got ((nd t i).kids.drop n)=Yt ((Gm ((nd t i).kids.length-n)).map λj=>KK t got i (n+j)):=by
 unfold gvn
 congr 1
 refine G7 (by simp) λj h1 h2=>?_
 simp only[List.length_map,G5]at h1;simp only[G6,List.getElem_drop,GX];have h3:=JcJ g (got:=got) hi (j:=n+j) (by omega) (J2 g hi (by omega));have h4:(nd t i).kids[n+j]=(nd t i).kids.getD (n+j) 0:=by rw[Gb,Gx (by omega)];rfl
 rw[h3,h4,J2 g hi (by omega)]
section
variable {K:FT0}{Z:FS}{o:List Int}(g:GoodT K.t o)(ht:K.t.Fit)
include g ht
theorem part1 {i m:Nat}(hi:i<K.t.nodes.length)(hk:30<=(nd K.t i).k/\(nd K.t i).k≠41)(hl:Z.got.length=K.t.nodes.length)(hf:∀j,X6 (Ju Z.got j)=true)(BR:Ln Z.got)(Bb:K.of.length=K.t.nodes.length)(hm:(nd K.t i).k=44->K.of.getD i 0=(m:Int)/\m<K.t.nodes.length):Ans K Z 94 [.int .i64 (i:Int)] (Xa K.t m Z.got i):=by
 have Aj:=g.many;have hg:=J3 hi;have A7:(gz Z.got).length=K.t.nodes.length:=by rw[X5,hl]
 have Af:(iz (nd K.t i).kids).length=(nd K.t i).kids.length:=Jg;have BK:=(JeS ht hi).kidn;have Cs:=Jcq g hi;have hK:∀j,j<(nd K.t i).kids.length->∃c:Nat,(iz (nd K.t i).kids).getD j []=[.int .i64 (c:Int)]/\c<K.t.nodes.length/\KK K.t Z.got i j=Ju Z.got c/\JG K.t i j=c:=λj hj=>by
  have h1:=Jz g hi (i:=j) hj;exact⟨JG K.t i j,by rw[JH hj,J2 g hi hj],by omega,by rw[JcJ g hi hj (J2 g hi hj),Gi],rfl⟩
 have Ml:∀k∈(nd K.t i).kids,0<=k/\k<K.t.nodes.length:=λk hk=>by have:=g.kid hi hk;omega
 by_cases Ec:(nd K.t i).k=40
 ·obtain⟨n,n1,n2,_⟩:=block_kids g hi Ec;change (nd K.t i).n=n at n1;change n<=(nd K.t i).kids.length at n2;obtain⟨x,Be,Bd,hC⟩:=fmGiven (K:=K) (Z:=Z) (ks:=(nd K.t i).kids.drop n) hl (λk hk=>Ml k (List.mem_of_mem_drop hk)) (by rw[G5];omega);have Bq:(iz ((nd K.t i).kids.drop n)).take ((nd K.t i).kids.length-n)=iz ((nd K.t i).kids.drop n):=GU (by rw[Jg,G5];omega);have hr:Xa K.t m Z.got i=gvn Z.got ((nd K.t i).kids.drop n):=by
   rw[JL,Ec,rk_block,gvn_drop g hi,n1,Gi]
  rw[hr];refine⟨x,Be,Bd,?_⟩;refine J8 (vfS c94_ok λN=>?_);simp -implicitDefEqProofs only[c94,go_sem,hpF,fRow,Jb,hg,Nd.cv,Ec,n1,Ga,Af,drop_iz,Bq]
  repeat refine And.intro (by first|omega|exact⟨by omega,by omega⟩|exact⟨by omega,by omega,by omega⟩) ?_
  refine Ku hC (.inl rfl) rfl rfl rfl (by simp only[CV.closed,Jm,Be,Gt]) ?_;simp -implicitDefEqProofs only[go_sem];exact .out (wk.refl _) (by simp only[CV.closed,Jm,Be,Gt])
 by_cases aZ:(nd K.t i).k=45
 ·obtain⟨x,Be,Bd,hC⟩:=fmGiven (K:=K) (Z:=Z) (ks:=(nd K.t i).kids) hl Ml (by omega);have hr:Xa K.t m Z.got i=gvn Z.got (nd K.t i).kids:=by
   have:=gvn_drop g (got:=Z.got) (n:=0) hi;rw[Gq]at this;rw[JL,aZ,rk_give,this];simp only[GR,Gr]
  rw[hr];refine⟨x,Be,Bd,?_⟩;refine J8 (vfS c94_ok λN=>?_);simp -implicitDefEqProofs only[c94,go_sem,hpF,fRow,Jb,hg,Nd.cv,aZ,Ga]
  repeat refine anO ?_
  refine Ku hC (.inl rfl) rfl rfl rfl (by simp only[CV.closed,Jm,Be,Gt]) ?_;simp -implicitDefEqProofs only[go_sem];exact .out (wk.refl _) (by simp only[CV.closed,Jm,Be,Gt])
 by_cases Ck:(nd K.t i).k=42
 ·have hB:=fmBare (K:=K) (Z:=Z) hi;by_cases hn:(nd K.t i).kids=[]
  ·rw[hn]at hB;refine Ans.of (b:=true) (l:=[]) (txV []) (by rw[JL,Ck,JgK,if_pos hn];rfl) rfl (λ_=>rfl) ?_;refine J8 (vfS c94_ok λN=>?_);simp -implicitDefEqProofs only[c94,go_sem,hpF,fRow,Jb,hg,Nd.cv,Ck,Ga]
   repeat refine anO ?_
   refine Ku hB (.inl rfl) rfl rfl rfl rfl ?_;simp -implicitDefEqProofs only[go_sem,Hf];exact .out (YW ⟨wk.nils,wk.refl _,trivial⟩) rfl
  ·obtain⟨q1,q2,q3,q4⟩:=Cs (.inr (.inr ⟨Ck,hn⟩));obtain⟨a,a1,a2,a3,a4⟩:=hK 0 q1;rw[a4]at q3 q4;have Ai:(nd K.t i).kids.isEmpty=false:=by cases h:(nd K.t i).kids <;> simp_all
   rw[Ai]at hB;refine Ans.of (b:=true) (l:=[tyN K.t a]) (txV [tyN K.t a]) (by rw[JL,Ck,JgK,if_neg hn,a4];rfl) rfl (λ_=>rfl) ?_;refine J8 (vfS c94_ok λN=>?_);simp -implicitDefEqProofs only[c94,go_sem,hpF,fRow,Jb,hg,Nd.cv,Ck,Ga]
   repeat refine anO ?_
   refine Ku hB (.inl rfl) rfl rfl rfl rfl ?_;simp -implicitDefEqProofs only[go_sem,Af,a1];refine anO ?_;refine Ku (XF g a a2 q3 q4) (.inl rfl) rfl rfl rfl rfl ?_;simp -implicitDefEqProofs only[go_sem,hpF];exact .one 1 rfl rfl rfl (wk.refl _)
 by_cases CO:(nd K.t i).k=64
 ·obtain⟨q1,q2,q3,q4⟩:=Cs (.inr (.inl (by omega)));obtain⟨a,a1,a2,a3,a4⟩:=hK 0 q1;rw[a4]at q3 q4;refine Ans.of (b:=true) (l:=[tyN K.t a]) (txV [tyN K.t a]) (by rw[JL,CO,rk_param,a4];rfl) rfl (λ_=>rfl) ?_;refine J8 (vfS c94_ok λN=>?_);simp -implicitDefEqProofs only[c94,go_sem,hpF,fRow,Jb,hg,Nd.cv,CO,Ga,Af,a1]
  repeat refine anO ?_
  refine Ku (XF g a a2 q3 q4) (.inl rfl) rfl rfl rfl rfl ?_;simp -implicitDefEqProofs only[go_sem,hpF];exact .one 1 rfl rfl rfl (wk.refl _)
 by_cases Cy:(nd K.t i).k=43
 ·have h1:=Qz g hi (.inr (.inl Cy));obtain⟨a,a1,a2,a3,a4⟩:=hK 0 (by omega);refine Ans.of (.rslc 1 [[S (opT (Ke (Ju Z.got a)))]] none) (by rw[JL,Cy,rk_init,a3]) rfl (λh=>?_) ?_
  ·cases ho:Ke (Ju Z.got a) with
   |none=>rw[ho]at h;cases h
   |some e=>rfl
  refine J8 (vfS c94_ok λN=>?_);simp -implicitDefEqProofs only[c94,go_sem,hpF,fRow,Jb,hg,Nd.cv,Cy,Ga,Af,a1]
  repeat refine anO ?_
  refine Ku (fmOne (Z:=Z) a2 hl) (.inl rfl) rfl rfl rfl rfl ?_;simp -implicitDefEqProofs only[go_sem,hpF];exact .one 1 rfl rfl rfl (wk.refl _)
 by_cases BO:(nd K.t i).k=44
 ·have h1:=Qz g hi (.inr (.inr (.inl BO)));obtain⟨a,a1,a2,a3,a4⟩:=hK 0 (by omega);obtain⟨m1,m2⟩:=hm BO;have Oz:(iz K.of).getD i []=[.int .i64 (m:Int)]:=by rw[JH (by omega),m1]
  have Bp:(iz K.of).length=K.t.nodes.length:=by rw[Jg,Bb]
  have hA:=fmAre (K:=K) (Z:=Z) (w:=opT (Ke (Ju Z.got m))) (ks:=[(a:Int)]) hl (by simp;omega) (by simp);have hb:areB Z.got (opT (Ke (Ju Z.got m))) [(a:Int)]=((Ke (Ju Z.got m)).isSome && Ju Z.got a == [(Ke (Ju Z.got m)).getD .int]):=by
   cases Ke (Ju Z.got m) with
   |none=>rw[show opT none=[] from rfl,are_none];rfl
   |some e=>rw[show opT (some e)=tyT e from rfl,JaA,Gi];rfl
  rw[hb]at hA;refine Ans.of (l:=[]) (txV []) (by rw[JL,BO,rk_next,a3]) rfl (λ_=>rfl) ?_;refine J8 (vfS c94_ok λN=>?_);simp -implicitDefEqProofs only[c94,go_sem,hpF,fRow,Jb,hg,Nd.cv,BO,Ga,Oz,Bp]
  repeat refine anO ?_
  refine Ku (fmOne (Z:=Z) m2 hl) (.inl rfl) rfl rfl rfl rfl ?_;simp -implicitDefEqProofs only[go_sem,hpF,Af,a1];refine anO ?_;refine JcM (K:=K) (Z:=Z) 1 rfl rfl rfl ?_;simp -implicitDefEqProofs only[go_sem,JY,frz,Gj,Gl,Qc,Gc,Gd,hpF,Nat.reduceAdd,GD,Gr,Gv,Gq,List.take_succ_cons,GL,Gf,Gg];refine Ku hA (.inl rfl) rfl rfl rfl rfl ?_;simp -implicitDefEqProofs only[go_sem,hpF];exact .out (YW ⟨wk.nils,wk.refl _,trivial⟩) rfl
 by_cases BV:(nd K.t i).k=47
 ·refine Ans.of (b:=true) (l:=[.int]) (txV [.int]) (by rw[JL,BV];rfl) rfl (λ_=>rfl) ?_;refine J8 (vfS c94_ok λN=>?_);simp -implicitDefEqProofs only[c94,go_sem,hpF,fRow,Jb,hg,Nd.cv,BV,Ga]
  repeat refine anO ?_
  exact .one 1 rfl rfl rfl (wk.refl _)
 by_cases BG:(nd K.t i).k=65
 ·have BC:=Jht g hi BG;obtain⟨a,a1,a2,a3,a4⟩:=hK ((nd K.t i).kids.length-1) (by omega);have Ie:=QW (l:=Z.got) (i:=a) (by omega);have DU:=sig_len ht i;have eY:∀x∈YA K.t i,(tyT x).length<=100000:=λx hx=>by
   unfold YA at hx;obtain⟨j,hj,rfl⟩:=GM.1 hx;have hj:=GA.1 hj;have hm:=Jz g hi (i:=(nd K.t i).n.toNat+j) (by omega);have:=Jd9 (t:=K.t) (i:=JG K.t i ((nd K.t i).n.toNat+j)) (by omega);omega
  have hG:=typGreat (YA K.t i) (by omega) eY;have hE:=equalTx (Ju Z.got a) (YA K.t i) (by have:=BR a;omega);have hb:(X6 (YA K.t i) && Ju Z.got a == YA K.t i)=(Ju Z.got a == YA K.t i):=by
   cases he:(Ju Z.got a == YA K.t i) with
   |false=>rw[Bool.and_false]
   |true=>rw[<-eq_of_beq he,hf a];rfl
  refine Ans.of (b:=X6 (YA K.t i) && Ju Z.got a == YA K.t i) (l:=[]) (txV []) (by rw[JL,BG,rk_def,a3,hb]) rfl (λ_=>rfl) ?_;refine J8 (vfS c94_ok λN=>?_);simp -implicitDefEqProofs only[c94,go_sem,hpF,fRow,Jb,hg,Nd.cv,BG,Ga]
  repeat refine anO ?_
  refine Ku (fmSign g ht hi BG) (.inl rfl) rfl rfl rfl rfl ?_;simp -implicitDefEqProofs only[go_sem,hpF,fRow];refine JQ [0,0,0,0,0,0,0,1,0,0,0,0,0,0,1,1,0,0,0,0,0] Jp (by decide +kernel) ?_;simp -implicitDefEqProofs only[go_sem];refine Jgh (.inl rfl) hG ?_
  cases gH:X6 (YA K.t i) with
  |false=>
   simp -implicitDefEqProofs only[go_sem,GN];exact .out (YW ⟨wk.nils,wk.refl _,trivial⟩) rfl
  |true=>
   simp -implicitDefEqProofs only[go_sem,Gy,Af,a1,Ie,A7]
   repeat refine And.intro (by first|omega|exact⟨by omega,by omega⟩|exact Jh) ?_
   refine Jgh (gok rfl) hE ?_;simp -implicitDefEqProofs only[go_sem];exact .out (YW ⟨wk.nils,wk.refl _,trivial⟩) rfl
 ·refine Ans.of (b:=true) (l:=[]) (txV []) (by rw[JL,rk_else (by omega) (by omega)];rfl) rfl (λ_=>rfl) ?_;have kk:∀q:Nat,(nd K.t i).k≠q->(((nd K.t i).k:Int) == (q:Int))=false:=λq h=>kb h
  have e40:=kk 40 Ec;have e45:=kk 45 aZ;have e41:=kk 41 hk.2;have e42:=kk 42 Ck;have e64:=kk 64 CO;have e43:=kk 43 Cy;have e44:=kk 44 BO;have e47:=kk 47 BV;have e65:=kk 65 BG;simp only[Ga]at e40 e45 e41 e42 e64 e43 e44 e47 e65;refine J8 (vfS c94_ok λN=>?_);simp -implicitDefEqProofs only[c94,go_sem,hpF,fRow,Jb,hg,Nd.cv,e40,e45,e41,e42,e64,e43,e44,e47,e65]
  repeat refine anO ?_
  exact .out (YW ⟨wk.nils,wk.refl _,trivial⟩) rfl
end
end
section
section
variable {P:Program}{E:Env}{n0:Nat}{N:Fr}{Q:Exit->List CV->List CObj->Prop}{H:List CObj}{T:List CV}{k:List KItem}{l:List IOper}{bs:List Nat}{K:FT0}{Z:FS}
theorem five {α:Type}{H:List α}{a b c d e:α}(h0:H[0]? = some a)(h1:H[1]? = some b)(h2:H[2]? = some c)(h3:H[3]? = some d)(h4:H[4]? = some e):∃X,H=a::b::c::d::e::X:=by
 match H,h0,h1,h2,h3,h4 with
 |a'::b'::c'::d'::e'::X,h0,h1,h2,h3,h4=>
  simp at h0 h1 h2 h3 h4;exact⟨X,by rw[h0,h1,h2,h3,h4]⟩
theorem vy_me {d:Option Nat}{ge:Option (Nat×Bool)}{f:Nat}{ags:List IArg}{args:List CV}{res:CV}{X:List CObj}(hM:FMe P f args K Z Z res)(hg:GOk T ge)(ha:ags.map (Ka T)=.ptr 0 0 0::args)(hH:H=hpF K Z X)(hc:Jm args=true)(hr:res.closed=true)(h:vdy P E n0 N Q k l bs (put T d res) H):vdyR P E n0 N Q none d (.call f ags) ge 4 k l bs T H:=by
 refine⟨res,H,?_,h⟩;show HS P E _ T H res H (.on [1,2,3,4,5],.on []);subst hH;refine⟨λ_ _=>rfl,λT2 H2 ag hx=>?_⟩;have IY:∀i,i<5->H2[i]? = (hpF K Z X)[i]?:=λi hi=>by
  have:=hx (i+1) (by simp only[Foot.has,G8,GZ,or_false];omega);simpa [hat]using this
 obtain⟨X2,rfl⟩:=five (IY 0 (by decide)) (IY 1 (by decide)) (IY 2 (by decide)) (IY 3 (by decide)) (IY 4 (by decide));have e2:ags.map (Ka T)=ags.map (Ka T2):=Xy (Jj ag).2;refine⟨_,λy hy=>(by cases hy),λ_ _=>rfl,λn0 N Q k l Ap=>Jeu (Yr ag hg) (by rw[<-e2,ha];exact hM.on (X:=X2) hc hr) ?_⟩;rintro v' H' ⟨rfl,rfl⟩;exact Ap
end
section
variable {K:FT0}{Z:FS}
theorem fmFail {i:Nat}:FMe Gs 64 [.int .i64 (i:Int)] K Z (Z.fail i) (.tup []):=by
 obtain⟨got,dn,fd,fg,bad⟩:=Z;refine J8 (Kc c64_ok λN=>?_)
 cases bad with
 |none=>
  simp -implicitDefEqProofs only[c64,go_sem,hpF,fRow,Gu,Gw,Gf,Gg]
  repeat refine anO ?_
  exact .done (wk.refl _)
 |some b=>
  simp -implicitDefEqProofs only[c64,go_sem,hpF,fRow,Gn,Gp];exact .done (wk.refl _)
variable {o:List Int}(g:GoodT K.t o)(ht:K.t.Fit)
include g ht
theorem fmSettle {s:Nat}(hs:s<K.t.nodes.length)(hk:(nd K.t s).k=41)(hl:Z.got.length=K.t.nodes.length)(BR:Ln Z.got):FMe Gs 154 [.int .i64 (s:Int)] K Z (J5 K.t s Z) (.tup []):=by
 have Aj:=g.many;have hg:=J3 hs;have A7:(gz Z.got).length=K.t.nodes.length:=by rw[X5,hl]
 have BK:=(JeS ht hs).kidn;obtain⟨n,n1,n2,n3,n4⟩:=YH g hs hk;change (nd K.t s).n=n at n1;change (nd K.t s).kids.length=n+1 at n2;have hE:=fmExpr g ht (Z:=Z) hs hk;obtain⟨_,_,_,hL⟩:=KF g hs hk;have Ie:=QW (l:=Z.got) (i:=Ji K.t s) (by omega);have dA:=BR (Ji K.t s);refine J8 (vfS c154_ok λN=>?_);simp -implicitDefEqProofs only[c154,go_sem,hpF,fRow];refine JQ [0,0,0,0,4,0,0,0,0,0,0,4,0,0,4,4,4,1005,2005,0] Jp (by decide +kernel) ?_;simp -implicitDefEqProofs only[go_sem,Jb,hg,Nd.cv,n1]
 repeat refine And.intro (by first|omega|exact⟨by omega,by omega⟩|(simp;done)) ?_
 refine vy_me hE (.inl rfl) rfl rfl rfl rfl ?_;simp -implicitDefEqProofs only[go_sem,Ie,A7,JhF (show 1000<=1005 by decide)]
 repeat refine And.intro (by first|omega|exact⟨by omega,by omega⟩|(simp;done)) ?_
 refine vy_new 5 (c:=.tt) (λid=>.ptr id 0 0) (.arr 5 [[.int .u8 0,S [],.int .i64 0,.nils,.int .i64 0]]) (.inl rfl) rfl (λH2=>rfl) trivial (by decide) ?_;simp -implicitDefEqProofs only[go_sem,JhF (show 1000<=2005 by decide)];refine vy_set 5 (c:=.and (.le 1 1) (.le 5 5)) (v:=.un) (.arr 5 [ndA (nd K.t s) n]) (.inl rfl) (λH2 h=>?_) ⟨Gv _,Gv _⟩ (by simp) ?_
 ·simp only[List.getElem?_cons_succ,List.getElem?_cons_zero]at h;simp only[exec,go_sem,h];rfl
 have Bz:(txz (Ju Z.got (Ji K.t s))).length=(Ju Z.got (Ji K.t s)).length:=QO;by_cases Ad:(Ju Z.got (Ji K.t s)).length=n
 case neg=>
  have hS:J5 K.t s Z=Z.fail s:=by
   unfold J5;simp only;rw[if_neg (by rw[n1,Gi];exact Ad)]
  have d1:(((Ju Z.got (Ji K.t s)).length:Int) != (n:Int))=true:=by simp;omega
  rw[hS];simp -implicitDefEqProofs only[go_sem,txV,Bz,d1,ndA];refine Ku (fmFail (Z:=Z)) (.inl rfl) rfl rfl rfl rfl ?_;simp -implicitDefEqProofs only[go_sem];exact .out (wk.refl _) rfl
 have hS:J5 K.t s Z = { Z with got:=JaW K.t s (Ju Z.got (Ji K.t s)) Z.got n,fd:=X4 s true Z.fd }:=by
  unfold J5;simp only;rw[n1,Gi,if_pos Ad]
 rw[hS];clear hS;generalize Ju Z.got (Ji K.t s)=l at *;have d1:((l.length:Int) != (n:Int))=false:=by simp[Ad]
 have Af:(iz ((nd K.t s).kids.take n)).length=n:=by rw[Jg,GJ];omega
 simp -implicitDefEqProofs only[go_sem,txV,Bz,d1,ndA,Jeb,GR,Af]
 repeat refine And.intro (by first|omega|exact⟨by omega,by omega⟩|exact⟨by omega,by omega,by omega⟩|(simp[Jg];omega)) ?_
 have DK:∀j,(JaW K.t s l Z.got j).length=K.t.nodes.length:=λj=>by rw[Jak];exact hl
 refine Jv (I:=λj:Nat=>j<=n) (inv:=λj=>mkT 64 [(0,.ptr 0 0 0),(1,.int .i64 (s:Int)),(5,txV l),(37,.rslc 1 (iz ((nd K.t s).kids.take n)) none),(38,.int .i64 (n:Int)),(39,.int .i64 (j:Int))]) (hp:=λj=>hpF K { Z with got:=JaW K.t s l Z.got j } []) (μ:=λj=>n-j) 0 [0,1,2,3,4] (by omega) rfl ?_ ?_ ?_
 ·simp only[KY,Gj,Gl,ren,Jn];refine JM ?_;simp[K5,KX,txV]
 ·exact Qd (K:=K) (Z:=Z) (X:=[.arr 5 [ndA (nd K.t s) n]]) rfl
 ·intro j hj;by_cases Ab:j<n
  ·have d2:=dtT j n;have hc:=J2 g hs (j:=j) (by omega);have hm:=Jz g hs (i:=j) (by omega);have BD:(iz ((nd K.t s).kids.take n)).getD j []=[.int .i64 (JG K.t s j:Int)]:=by
    rw[JH (by rw[GJ];omega),Gb,Ha Ab,<-Gb,hc]
   have hB:=fmBare (K:=K) (Z:={ Z with got:=JaW K.t s l Z.got j }) (i:=JG K.t s j) (by omega);have EK:JaW K.t s l Z.got (j+1)=if (nd K.t (JG K.t s j)).kids=[] then(JaW K.t s l Z.got j).set (JG K.t s j) [l.getD j .int] else JaW K.t s l Z.got j:=rfl
   simp -implicitDefEqProofs only[go_sem,hpF,fRow,d2,BD,Af]
   repeat refine anO ?_
   refine Ku hB (.inl rfl) rfl rfl rfl rfl ?_;by_cases he:(nd K.t (JG K.t s j)).kids=[]
   ·rw[if_pos he]at EK;have CE:=QW (l:=JaW K.t s l Z.got j) (i:=JG K.t s j) (by rw[DK];omega);have Z9:(gz (JaW K.t s l Z.got j)).length=K.t.nodes.length:=by rw[X5,DK]
    have DF:(gz (JaW K.t s l Z.got j)).set (JG K.t s j) [.rslc 1 (txz [l.getD j .int]) none]=gz (JaW K.t s l Z.got (j+1)):=by rw[EK];exact gz_set
    have DU:((txz l).drop j).take (((j:Int)+1).toNat-j)=txz [l.getD j .int]:=by
     rw[show ((j:Int)+1).toNat-j=1 by omega];rw[List.drop_eq_getElem_cons (by rw[Bz];omega)];simp[txz,Gb,Gx (show j<l.length by omega)]
    simp -implicitDefEqProofs only[go_sem,hpF,fRow,he,Hf];refine JQ [0,0,0,1,0,0,0,0,0,0,1,2] Jp (by decide +kernel) ?_;simp -implicitDefEqProofs only[go_sem,txV,Bz,Z9,CE,DU,DF,splice,Gf,Gg,GL,GV,Gq,Ho]
    repeat refine And.intro (by first|omega|exact⟨by omega,by omega⟩|exact⟨by omega,by omega,by omega⟩|exact Jh) ?_
    refine⟨j+1,[0,1,2,3,4],by omega,by omega,rfl,?_,?_⟩
    ·exact Qd (K:=K) (Z:={ Z with got:=JaW K.t s l Z.got (j+1) }) (X:=[]) rfl
    ·simp only[ren,Jn];refine JM ?_;simp[K5,KX]
   ·rw[if_neg he]at EK;have Ai:(nd K.t (JG K.t s j)).kids.isEmpty=false:=by cases h:(nd K.t (JG K.t s j)).kids <;> simp_all
    simp -implicitDefEqProofs only[go_sem,hpF,fRow,Ai,txV];refine⟨Jh,j+1,[0,1,2,3,4],by omega,by omega,rfl,?_,?_⟩
    ·rw[EK];exact Qd (K:=K) (Z:={ Z with got:=JaW K.t s l Z.got j }) (X:=[]) rfl
    ·simp only[ren,Jn];refine JM ?_;simp[K5,KX]
  ·have d2:=dfF j n;obtain rfl:j=n:=by omega
   rcases Jap (k:=s) Z.fd 0 with ⟨h1,_,h3⟩|⟨q,h1,h3⟩
   ·simp -implicitDefEqProofs only[go_sem,hpF,fRow,d2,h1,h3];exact .done (wk.refl _)
   ·rw[Gr]at h1;simp -implicitDefEqProofs only[go_sem,hpF,fRow,d2,h1,h3];exact .done (wk.refl _)
omit ht in
theorem setF_ok (hI:FI K.t Z){s:Nat}(hs:s<K.t.nodes.length)(hk:(nd K.t s).k=41):FI K.t (Jag K.t s Z)/\((Jag K.t s Z).bad=none->(Ju (Jag K.t s Z).got (Ji K.t s)).length=nB K.t s):=by
 unfold Jag
 split
 ·rename_i hf;exact⟨hI,λ_=>(hI.fnd s hf).2.2.1⟩
 ·obtain⟨h1,_,h3,_⟩:=Yj g hI hs hk;exact⟨h1,λhb=>(h1.fnd s (h3 hb)).2.2.1⟩
omit g ht in
theorem setF_ln {s:Nat}(h:Ln Z.got):Ln (Jag K.t s Z).got:=by
 unfold Jag;split
 ·exact h
 ·exact Jcd h
def agr1 (t:Tr)(s:Nat)(l:TL)(k:Nat):Bool:=(nd t (JG t s k)).kids.isEmpty || tyN t (JG t (JG t s k) 0) == l.getD k .int
theorem fmSet {s:Nat}(hI:FI K.t Z)(BR:Ln Z.got)(hs:s<K.t.nodes.length)(hk:(nd K.t s).k=41):FMe Gs 128 [.int .i64 (s:Int)] K Z (Jag K.t s Z) (.bool (!(Jag K.t s Z).bad.isSome && Jab K.t s (Ju (Jag K.t s Z).got (Ji K.t s)))):=by
 have Aj:=g.many;have hg:=J3 hs;have BK:=(JeS ht hs).kidn;obtain⟨n,n1,n2,n3,n4⟩:=YH g hs hk;change (nd K.t s).n=n at n1;change (nd K.t s).kids.length=n+1 at n2;obtain⟨b1,b2,_,hL⟩:=KF g hs hk;have Ua:nB K.t s=n:=by omega
 obtain⟨O7,Ad⟩:=setF_ok g hI hs hk;have MK:=fmSettle g ht (Z:=Z) hs hk hI.gl BR;refine J8 (vfS c128_ok λN=>?_);have BN:∀l,Jab K.t s l=(Gm n).all λk=>agr1 K.t s l k:=λl=>by
  unfold Jab agr1;rw[n1,Gi]
 rw[BN];have BL:∀j,j<n->∃c:Nat,(iz ((nd K.t s).kids.take n)).getD j []=[.int .i64 (c:Int)]/\c<K.t.nodes.length/\JG K.t s j=c/\(nd K.t c).k=42:=λj hj=>by
  have hm:=b2 j (by omega);refine⟨JG K.t s j,?_,by omega,rfl,hm.1⟩;rw[JH (by rw[GJ];omega),Gb,Ha hj,<-Gb,J2 g hs (by omega)]
 have Af:(iz ((nd K.t s).kids.take n)).length=n:=by rw[Jg,GJ];omega
 have ML:=setF_ln (K:=K) (s:=s) BR
 cases hb:J7 Z.fd s with
 |false=>
  have e:Jag K.t s Z=J5 K.t s Z:=by unfold Jag;rw[hb];rfl
  rw[<-e]at MK;rcases Jap (k:=s) Z.fd 0 with ⟨h1,_,_⟩|⟨q,h1,_⟩
  case' inr=>rw[hb]at h1
  all_goals
   simp -implicitDefEqProofs only[c128,go_sem,hpF,fRow,h1];refine Ku MK (.inl rfl) rfl rfl rfl rfl ?_;clear MK e;generalize Jag K.t s Z=Z1 at *;obtain⟨got1,dn1,fd1,fg1,bad1⟩:=Z1;have hE:=fmExpr g ht (Z:=⟨got1,dn1,fd1,fg1,bad1⟩) hs hk;have hB:=λ(c:Nat) (hc:c<K.t.nodes.length)=>fmBare (K:=K) (Z:=⟨got1,dn1,fd1,fg1,bad1⟩) (i:=c) hc
   have hW:=λ(c:Nat) h1 h2 h3=>XF (Z:=⟨got1,dn1,fd1,fg1,bad1⟩) g c h1 h2 h3
   have ET:=O7.gl
   dsimp only at Ad ML ET
   cases bad1 with
   |some b=>
    simp -implicitDefEqProofs only[go_sem,hpF,fRow,Gn,Gp,Hw,GN];exact .done (wk.refl _)
   |none=>
    have Fj:=Ad rfl;have A7:(gz got1).length=K.t.nodes.length:=by rw[X5,ET]
    have Ie:=QW (l:=got1) (i:=Ji K.t s) (by rw[ET];omega);generalize Ju got1 (Ji K.t s)=l at *;have Bz:(txz l).length=n:=by rw[QO,Fj,Ua]
    simp -implicitDefEqProofs only[go_sem,hpF,fRow,Gu,Gw,G9,Gy,Jb,hg,Nd.cv,n1,Gf,Gg,splice,GL,GV,Gq,Ho,Hq]
    repeat refine And.intro (by first|omega|exact⟨by omega,by omega⟩|(simp;done)) ?_
    refine JQ [0,0,0,4,0,0,4,4,4,0] Jp (by decide +kernel) ?_;simp -implicitDefEqProofs only[go_sem];refine vy_me hE (.inl rfl) rfl rfl rfl rfl ?_;simp -implicitDefEqProofs only[go_sem,Ie,A7,txV,Jeb,GR,Af]
    repeat refine And.intro (by first|omega|exact⟨by omega,by omega⟩|exact⟨by omega,by omega,by omega⟩|(simp[Jg];omega)) ?_
    refine Jv (I:=λj:Nat=>j<=n/\(Gm j).all (λk=>agr1 K.t s l k)=true) (inv:=λj=>mkT 76 [(0,.ptr 0 0 0),(6,txV l),(44,.rslc 1 (iz ((nd K.t s).kids.take n)) none),(45,.int .i64 (n:Int)),(46,.int .i64 (j:Int))]) (hp:=λj=>hpF K ⟨got1,dn1,fd1,fg1,none⟩ []) (μ:=λj=>n-j) 0 [0,1,2,3,4] ⟨by omega,rfl⟩ rfl ?_ ?_ ?_
    ·simp only[KY,Gj,Gl,ren,Jn];refine JM ?_;simp[K5,KX,txV]
    ·exact Qd (K:=K) (Z:=⟨got1,dn1,fd1,fg1,none⟩) (X:=[.arr 5 [ndA (nd K.t s) n]]) rfl
    ·rintro j ⟨hj,Bl⟩;by_cases Ab:j<n
     ·have d2:=dtT j n;obtain⟨c,c1,c2,c3,c4⟩:=BL j Ab;have EU:=J3 c2;have UL:=Jaf (l:=l) (i:=j) (by omega);have Cg:(Gm (j+1)).all (λk=>agr1 K.t s l k)=((nd K.t c).kids.isEmpty || tyN K.t (JG K.t c 0) == l.getD j .int):=by
       rw[Hm,Hr,Bl,Gy,Ht,Hu,Gt];unfold agr1;rw[c3]
      have E8:∀b,(Gm (j+1)).all (λk=>agr1 K.t s l k)=b->b=false->(Gm n).all (λk=>agr1 K.t s l k)=false:=λb h1 h2=>by
       subst h2;obtain⟨x,hx,UD⟩:=GI.1 h1;exact GI.2 ⟨x,GA.2 (by have:=GA.1 hx;omega),UD⟩
      simp -implicitDefEqProofs only[go_sem,hpF,fRow,d2,c1,Af]
      repeat refine anO ?_
      refine JQ [0,0,4,0,0,0,0,0,0,0,4,0,0,0,0,0,0,4,0,0,0,0,0,0] Jp (by decide +kernel) ?_;simp -implicitDefEqProofs only[go_sem];refine vy_me (hB c c2) (.inl rfl) rfl rfl rfl rfl ?_;by_cases he:(nd K.t c).kids=[]
      ·have F4:(nd K.t c).kids.isEmpty=true:=by rw[he];rfl
       rw[F4,Hz]at Cg;simp -implicitDefEqProofs only[go_sem,F4,txV];refine⟨Jh,j+1,[0,1,2,3,4],⟨by omega,Cg⟩,by omega,rfl,?_,?_⟩
       ·exact Qd (K:=K) (Z:=⟨got1,dn1,fd1,fg1,none⟩) (X:=[]) rfl
       ·simp only[ren,Jn];refine JM ?_;simp[K5,KX]
      ·have F4:(nd K.t c).kids.isEmpty=false:=by cases h:(nd K.t c).kids <;> simp_all
       obtain⟨q1,q2,q3,q4⟩:=Jcq g c2 (.inr (.inr ⟨c4,he⟩));have FX:=J2 g c2 (j:=0) q1;have Fv:=JH (l:=(nd K.t c).kids) (i:=0) q1;rw[FX]at Fv;have Ay:(iz (nd K.t c).kids).length=(nd K.t c).kids.length:=Jg;rw[F4,Hy]at Cg;simp -implicitDefEqProofs only[go_sem,F4,Jb,EU,Nd.cv,Ay,Fv]
       repeat refine And.intro (by first|omega|exact⟨by omega,by omega⟩|exact GQ rfl) ?_
       refine vy_me (hW (JG K.t c 0) (by omega) q3 q4) (gok rfl) rfl rfl rfl rfl ?_;simp -implicitDefEqProofs only[go_sem,txV,Bz,UL,tyT_eq]
       repeat refine anO ?_
       cases hx:(tyN K.t (JG K.t c 0) == l.getD j .int) with
       |true=>
        rw[hx]at Cg;simp -implicitDefEqProofs only[go_sem];refine⟨Jh,j+1,[0,1,2,3,4],⟨by omega,Cg⟩,by omega,rfl,?_,?_⟩
        ·exact Qd (K:=K) (Z:=⟨got1,dn1,fd1,fg1,none⟩) (X:=[]) rfl
        ·simp only[ren,Jn];refine JM ?_;simp[K5,KX]
       |false=>
        rw[hx]at Cg;rw[E8 _ Cg rfl];simp -implicitDefEqProofs only[go_sem];exact .done (wk.refl _)
     ·have d2:=dfF j n;obtain rfl:j=n:=by omega
      rw[Bl];simp -implicitDefEqProofs only[go_sem,hpF,fRow,d2];exact .done (wk.refl _)
 |true=>
  have e:Jag K.t s Z=Z:=by unfold Jag;rw[hb];rfl
  rw[e]at O7 Ad ML|-;clear MK;rcases Jap (k:=s) Z.fd 0 with ⟨_,h2,_⟩|⟨q,h1,_⟩
  ·rw[hb]at h2;cases h2
  rw[hb]at h1;simp -implicitDefEqProofs only[c128,go_sem,hpF,fRow,h1]
  rename FS=>Z1
  obtain⟨got1,dn1,fd1,fg1,bad1⟩:=Z1;have hE:=fmExpr g ht (Z:=⟨got1,dn1,fd1,fg1,bad1⟩) hs hk;have hB:=λ(c:Nat) (hc:c<K.t.nodes.length)=>fmBare (K:=K) (Z:=⟨got1,dn1,fd1,fg1,bad1⟩) (i:=c) hc
  have hW:=λ(c:Nat) h1 h2 h3=>XF (Z:=⟨got1,dn1,fd1,fg1,bad1⟩) g c h1 h2 h3
  have ET:=O7.gl
  dsimp only at Ad ML ET
  cases bad1 with
  |some b=>
   simp -implicitDefEqProofs only[go_sem,Gn,Gp,Hw,GN];exact .done (wk.refl _)
  |none=>
   have Fj:=Ad rfl;have A7:(gz got1).length=K.t.nodes.length:=by rw[X5,ET]
   have Ie:=QW (l:=got1) (i:=Ji K.t s) (by rw[ET];omega);generalize Ju got1 (Ji K.t s)=l at *;have Bz:(txz l).length=n:=by rw[QO,Fj,Ua]
   simp -implicitDefEqProofs only[go_sem,Gu,Gw,G9,Gy,Jb,hg,Nd.cv,n1,Gf,Gg,GL,GV,Gq,Hq]
   repeat refine And.intro (by first|omega|exact⟨by omega,by omega⟩|(simp;done)) ?_
   refine JQ [0,0,0,4,0,0,4,4,4,0] Jp (by decide +kernel) ?_;simp -implicitDefEqProofs only[go_sem];refine vy_me hE (.inl rfl) rfl rfl rfl rfl ?_;simp -implicitDefEqProofs only[go_sem,Ie,A7,txV,Jeb,GR,Af]
   repeat refine And.intro (by first|omega|exact⟨by omega,by omega⟩|exact⟨by omega,by omega,by omega⟩|(simp[Jg];omega)) ?_
   refine Jv (I:=λj:Nat=>j<=n/\(Gm j).all (λk=>agr1 K.t s l k)=true) (inv:=λj=>mkT 76 [(0,.ptr 0 0 0),(6,txV l),(44,.rslc 1 (iz ((nd K.t s).kids.take n)) none),(45,.int .i64 (n:Int)),(46,.int .i64 (j:Int))]) (hp:=λj=>hpF K ⟨got1,dn1,fd1,fg1,none⟩ []) (μ:=λj=>n-j) 0 [0,1,2,3,4] ⟨by omega,rfl⟩ rfl ?_ ?_ ?_
   ·simp only[KY,Gj,Gl,ren,Jn];refine JM ?_;simp[K5,KX,txV]
   ·exact Qd (K:=K) (Z:=⟨got1,dn1,fd1,fg1,none⟩) (X:=[.arr 5 [ndA (nd K.t s) n]]) rfl
   ·rintro j ⟨hj,Bl⟩;by_cases Ab:j<n
    ·have d2:=dtT j n;obtain⟨c,c1,c2,c3,c4⟩:=BL j Ab;have EU:=J3 c2;have UL:=Jaf (l:=l) (i:=j) (by omega);have Cg:(Gm (j+1)).all (λk=>agr1 K.t s l k)=((nd K.t c).kids.isEmpty || tyN K.t (JG K.t c 0) == l.getD j .int):=by
      rw[Hm,Hr,Bl,Gy,Ht,Hu,Gt];unfold agr1;rw[c3]
     have E8:∀b,(Gm (j+1)).all (λk=>agr1 K.t s l k)=b->b=false->(Gm n).all (λk=>agr1 K.t s l k)=false:=λb h1 h2=>by
      subst h2;obtain⟨x,hx,UD⟩:=GI.1 h1;exact GI.2 ⟨x,GA.2 (by have:=GA.1 hx;omega),UD⟩
     simp -implicitDefEqProofs only[go_sem,hpF,fRow,d2,c1,Af]
     repeat refine anO ?_
     refine JQ [0,0,4,0,0,0,0,0,0,0,4,0,0,0,0,0,0,4,0,0,0,0,0,0] Jp (by decide +kernel) ?_;simp -implicitDefEqProofs only[go_sem];refine vy_me (hB c c2) (.inl rfl) rfl rfl rfl rfl ?_;by_cases he:(nd K.t c).kids=[]
     ·have F4:(nd K.t c).kids.isEmpty=true:=by rw[he];rfl
      rw[F4,Hz]at Cg;simp -implicitDefEqProofs only[go_sem,F4,txV];refine⟨Jh,j+1,[0,1,2,3,4],⟨by omega,Cg⟩,by omega,rfl,?_,?_⟩
      ·exact Qd (K:=K) (Z:=⟨got1,dn1,fd1,fg1,none⟩) (X:=[]) rfl
      ·simp only[ren,Jn];refine JM ?_;simp[K5,KX]
     ·have F4:(nd K.t c).kids.isEmpty=false:=by cases h:(nd K.t c).kids <;> simp_all
      obtain⟨q1,q2,q3,q4⟩:=Jcq g c2 (.inr (.inr ⟨c4,he⟩));have FX:=J2 g c2 (j:=0) q1;have Fv:=JH (l:=(nd K.t c).kids) (i:=0) q1;rw[FX]at Fv;have Ay:(iz (nd K.t c).kids).length=(nd K.t c).kids.length:=Jg;rw[F4,Hy]at Cg;simp -implicitDefEqProofs only[go_sem,F4,Jb,EU,Nd.cv,Ay,Fv]
      repeat refine And.intro (by first|omega|exact⟨by omega,by omega⟩|exact GQ rfl) ?_
      refine vy_me (hW (JG K.t c 0) (by omega) q3 q4) (gok rfl) rfl rfl rfl rfl ?_;simp -implicitDefEqProofs only[go_sem,txV,Bz,UL,tyT_eq]
      repeat refine anO ?_
      cases hx:(tyN K.t (JG K.t c 0) == l.getD j .int) with
      |true=>
       rw[hx]at Cg;simp -implicitDefEqProofs only[go_sem];refine⟨Jh,j+1,[0,1,2,3,4],⟨by omega,Cg⟩,by omega,rfl,?_,?_⟩
       ·exact Qd (K:=K) (Z:=⟨got1,dn1,fd1,fg1,none⟩) (X:=[]) rfl
       ·simp only[ren,Jn];refine JM ?_;simp[K5,KX]
      |false=>
       rw[hx]at Cg;rw[E8 _ Cg rfl];simp -implicitDefEqProofs only[go_sem];exact .done (wk.refl _)
    ·have d2:=dfF j n;obtain rfl:j=n:=by omega
     rw[Bl];simp -implicitDefEqProofs only[go_sem,hpF,fRow,d2];exact .done (wk.refl _)
end
end
section
end
theorem doF_bad {t:Tr}{o:List Int}{mean:Nat->Nat}{f i:Nat}{S:FS}(h:S.bad.isSome=true):doF t o mean f S i=S:=by
 cases f with
 |zero=>rfl
 |succ f=>rw[doF,if_pos (by rw[h];rfl)]
theorem fold_bad {t:Tr}{o:List Int}{mean:Nat->Nat}{f:Nat}{S:FS}(h:S.bad.isSome=true):∀l:List Nat,l.foldl (doF t o mean f) S=S
 |[]=>rfl
 |i::l=>by rw[List.foldl_cons,doF_bad h];exact fold_bad h l
section
section
variable {P:Program}{E:Env}{n0:Nat}{N:Fr}{Q:Exit->List CV->List CObj->Prop}{H H':List CObj}{T:List CV}{k:List KItem}
theorem JcL (e:H=H')(h:Ko P E n0 N Q k T H'):Ok P E n0 N Q k T H:=by
 subst e;exact JA _ _ _ h
end
def fK (t:Tr)(o:List Int):FT0:=⟨t,ofL t o,upZ t t.nodes.length,fiZ t o t.nodes.length⟩
abbrev mnF (t:Tr)(o:List Int):Nat->Nat:=λi=>(JN t o i).toNat
def GoW (t:Tr)(o:List Int)(f:Nat):Prop:=∀S i,FI t S->FM t o S->Ln S.got->i<t.nodes.length->JhE t o S i->uf t S<f->FMe Gs 40 [.int .i64 (i:Int)] (fK t o) S (doF t o (mnF t o) f S i) (.tup [])
section
variable {t:Tr}{o:List Int}(g:GoodT t o)(ht:t.Fit)
include g ht
omit g in
theorem JgD {S:FS}(h:Ln S.got)(f:Nat):∀l:List Nat,Ln (l.foldl (doF t o (mnF t o) f) S).got:=by
 intro l
 induction l generalizing S with
 |nil=>exact h
 |cons x l ih=>exact ih (doF_ln ht f S x h)
theorem fmForce (hE:(XL t o).2=0){f:Nat}(ih:GoW t o f){S:FS}{i m s:Nat}(hI:FI t S)(hM:FM t o S)(BR:Ln S.got)(hi:i<t.nodes.length)(hP:JhE t o S i)(hu:uf t S<f+1)(hs:s<t.nodes.length)(BH:(nd t s).k=41)(hm:(m:Int)∈(nd t s).kids)(Cv:(nd t m).k=42)(AQ:inS t o (m:Int) i):FMe Gs 150 [.int .i64 (s:Int),.int .i64 (i:Int)] (fK t o) S (Xd t o (doF t o (mnF t o) f) s i S) (.tup []):=by
 have Aj:=g.many;have gK:GoodT (fK t o).t o:=g;have Oq:(fK t o).t.Fit:=ht;obtain⟨_,_,_,hL⟩:=KF g hs BH;refine J8 (vfS c150_ok λN=>?_)
 cases hb:J7 S.fg s with
 |true=>
  have e:Xd t o (doF t o (mnF t o) f) s i S=S.fail i:=by unfold Xd;rw[if_pos hb]
  rw[e];rcases Jap (k:=s) S.fg 0 with ⟨_,h2,_⟩|⟨q,h1,_⟩
  ·rw[hb]at h2;cases h2
  rw[hb]at h1;simp -implicitDefEqProofs only[c150,go_sem,hpF,fRow,h1];refine Ku (fmFail (K:=fK t o) (Z:=S)) (.inl rfl) rfl rfl rfl rfl ?_;simp -implicitDefEqProofs only[go_sem];exact .done (wk.refl _)
 |false=>
  generalize F7:({ S with fg:=X4 s true S.fg }:FS)=S0;obtain⟨a,ha⟩:∃a:Nat,fs o ((Ji t s:Nat):Int)=a:=⟨(fs o ((Ji t s:Nat):Int)).toNat,by have:=(fs_le g (a:=Ji t s) (by omega)).1;omega⟩;have jC:a<=Ji t s:=by have:=(fs_le g (a:=Ji t s) (by omega)).2;omega
  generalize D8:Ji t s+1-a=mm;have e:Xd t o (doF t o (mnF t o) f) s i S=(λS1=>let S2:=if S1.bad.isSome then S1 else J5 t s S1;{ S2 with fg:=X4 s false S2.fg }) ((KQ a mm).foldl (doF t o (mnF t o) f) S0):=by
   unfold Xd;rw[if_neg (by rw[hb];decide)];simp only[ha,Gi,D8,F7]
  rw[e];clear e;generalize Oh:(λS1:FS=>let S2:=if S1.bad.isSome then S1 else J5 t s S1;({ S2 with fg:=X4 s false S2.fg }:FS)) ((KQ a mm).foldl (doF t o (mnF t o) f) S0)=SE;have Mg:FI t S0:=by subst F7;exact⟨hI.gl,hI.dl,hI.emp,hI.unf,hI.fnd,hI.fine,hI.ini,hI.typ⟩
  have iK:FM t o S0:=by subst F7;exact hM
  have Sz:Ln S0.got:=by subst F7;exact BR
  have Pi:uf t S0<f:=by subst F7;have:=Jgp hs hb;omega
  have aM:=JeK g hi hP hs BH hm Cv AQ ha;rw[F7,D8]at aM;have Ez:=JaO (Ja8 g hE f) Mg iK Pi (a:=a) (m:=mm) (by omega) aM;have dE:=λZ=>fmExpr gK Oq (Z:=Z) hs BH
  have Pp:(iz (fiZ t o t.nodes.length)).getD (Ji t s) []=[.int .i64 (a:Int)]:=by
   rw[JH (by rw[Ja4];omega),fiZ_get (by omega) (by omega),ha]
  have I8:(iz (fiZ t o t.nodes.length)).length=t.nodes.length:=by rw[Jg,Ja4]
  have BB:∀(Z:FS) (b:Bool),(∃q v,QL .int (.int .i64 (s:Int)) (kz Z.fg) 0=some (some (q,v))/\(kz Z.fg).set q (.int .i64 (s:Int),.bool b)=kz (X4 s b Z.fg))\/(QL .int (.int .i64 (s:Int)) (kz Z.fg) 0=some none/\kz Z.fg++[(.int .i64 (s:Int),.bool b)]=kz (X4 s b Z.fg)):=λZ b=>by
   rcases Jap (k:=s) Z.fg 0 with ⟨h1,_,h3⟩|⟨q,h1,h3⟩
   ·exact .inr ⟨h1,h3 b⟩
   ·exact .inl ⟨_,_,h1,by rw[Gr];exact h3 b⟩
  have Ry:QL .int (.int .i64 (s:Int)) (kz S.fg) 0=some none\/∃q,QL .int (.int .i64 (s:Int)) (kz S.fg) 0=some (some (q,.bool false)):=by
   rcases Jap (k:=s) S.fg 0 with ⟨h1,_,h3⟩|⟨q,h1,h3⟩
   ·exact .inl h1
   ·rw[hb]at h1;exact .inr ⟨_,h1⟩
  have Ca:hpF (fK t o) S0 []=[.arr 11 [fRow (fK t o) S.bad],.arr 1 (gz S.got),.arr 1 (bqz S.dn),.map (kz S.fd),.map (kz (X4 s true S.fg))]:=by subst F7;rfl
  rcases Ry with h1|⟨q0,h1⟩ <;> rcases BB S true with ⟨q,v,h2,h3⟩|⟨h2,h3⟩
  ·rw[h1]at h2;cases h2
  case' inr.inl=>rw[h1]at h2;cases h2
  case' inr.inr=>rw[h1]at h2;cases h2
  all_goals
   simp -implicitDefEqProofs only[c150,go_sem,hpF,fRow,h1,h3];refine JcL Ca.symm ?_;simp -implicitDefEqProofs only[go_sem,hpF,fRow];refine JQ [0,0,0,4,0,0,4,0,0,0] Jp (by decide +kernel) ?_;simp -implicitDefEqProofs only[go_sem];refine vy_me (dE S0) (.inl rfl) rfl rfl rfl rfl ?_;simp -implicitDefEqProofs only[go_sem,fK,Pp,I8]
   repeat refine anO ?_
   refine Jv (I:=λj:Nat=>j<=mm) (inv:=λj=>mkT 60 [(0,.ptr 0 0 0),(1,.int .i64 (s:Int)),(6,.int .i64 ((a+j:Nat):Int))]) (hp:=λj=>hpF (fK t o) ((KQ a j).foldl (doF t o (mnF t o) f) S0) []) (μ:=λj=>mm-j) 0 [0,1,2,3,4] (by omega) rfl ?_ ?_ ?_
   ·simp only[KY,Gj,Gl,ren,Jn];refine JM ?_;simp[K5,KX]
   ·exact Qd (K:=fK t o) (Z:=S0) (X:=[]) rfl
   ·intro j hj;obtain⟨p1,p2,p3,p4⟩:=Ez j hj;have O6:=JgD ht (o:=o) Sz f (KQ a j);have Cg:(KQ a (j+1)).foldl (doF t o (mnF t o) f) S0=doF t o (mnF t o) f ((KQ a j).foldl (doF t o (mnF t o) f) S0) (a+j):=by rw[JaN,GY];rfl
    have El:((KQ a j).foldl (doF t o (mnF t o) f) S0).bad.isSome=true\/j=mm->(KQ a mm).foldl (doF t o (mnF t o) f) S0=(KQ a j).foldl (doF t o (mnF t o) f) S0:=λh=>by
     rcases h with h|h
     ·have e:KQ a mm=KQ a j++(KQ a mm).drop j:=by
       have:KQ a j=(KQ a mm).take j:=by
        unfold KQ;rw[<-List.map_take,List.take_range,Nat.min_eq_left hj]
       rw[this,List.take_append_drop]
      rw[e,GY,fold_bad h]
     ·rw[h]
    generalize aK:(KQ a j).foldl (doF t o (mnF t o) f) S0=Sj at *;obtain⟨gj,dj,fdj,fgj,bj⟩:=Sj;have iX:=dE ⟨gj,dj,fdj,fgj,bj⟩;simp -implicitDefEqProofs only[go_sem,hpF];refine Ku iX (.inl rfl) rfl rfl rfl rfl ?_;by_cases Ab:j<mm
    ·have d2:(((a+j:Nat):Int)<=((Ji t s:Nat):Int))=True:=Kl
     cases bj with
     |none=>
      have hW:=ih _ (a+j) p1 p2 O6 (by omega) (aM _ j p3 (by omega) p4) (by rw[uf_eq p3];exact Pi);simp -implicitDefEqProofs only[go_sem,fK,hpF,fRow,d2,Gu,Gw];refine Ku hW (.inl rfl) rfl rfl rfl rfl ?_;simp -implicitDefEqProofs only[go_sem];refine⟨Jh,j+1,[0,1,2,3,4],by omega,by omega,rfl,?_,?_⟩
      ·rw[Cg];exact Qd (K:=fK t o) (X:=[]) rfl
      ·simp only[ren,Jn];refine JM ?_;simp[K5,KX];omega
     |some b=>
      have Cq:=El (.inl rfl);rw[Cq]at Oh;simp only[Gn,if_true]at Oh;subst Oh;rcases BB ⟨gj,dj,fdj,fgj,some b⟩ false with ⟨q4,v4,h4,h5⟩|⟨h4,h5⟩
      all_goals
       dsimp only at h4 h5
       simp -implicitDefEqProofs only[go_sem,fK,hpF,fRow,d2,Gn,Gp,h4,h5];exact .done (wk.refl _)
    ·have d2:(((a+j:Nat):Int)<=((Ji t s:Nat):Int))=False:=Ki;have Cq:=El (.inr (by omega));rw[Cq]at Oh
     cases bj with
     |none=>
      simp only[Gu,Bool.false_eq_true,if_false]at Oh;subst Oh;have Uq:=fmSettle gK Oq hs BH p1.gl O6;simp -implicitDefEqProofs only[go_sem,fK,hpF,fRow,d2,Gu,Gw];refine Ku Uq (.inl rfl) rfl rfl rfl rfl ?_;change Ko _ _ _ _ _ _ _ (hpF (fK t o) (J5 t s _) []);generalize J5 t s ⟨gj,dj,fdj,fgj,none⟩=S2;rcases BB S2 false with ⟨q4,v4,h4,h5⟩|⟨h4,h5⟩
      all_goals
       simp -implicitDefEqProofs only[go_sem,hpF,fRow,h4,h5];exact .done (wk.refl _)
     |some b=>
      simp only[Gn,if_true]at Oh;subst Oh;rcases BB ⟨gj,dj,fdj,fgj,some b⟩ false with ⟨q4,v4,h4,h5⟩|⟨h4,h5⟩
      all_goals
       dsimp only at h4 h5
       simp -implicitDefEqProofs only[go_sem,fK,hpF,fRow,d2,Gn,Gp,h4,h5];exact .done (wk.refl _)
theorem fmDecl (hE:(XL t o).2=0){f:Nat}(ih:GoW t o f){S:FS}{i:Nat}(hI:FI t S)(hM:FM t o S)(BR:Ln S.got)(hi:i<t.nodes.length)(h3:(nd t i).k=3)(hP:JhE t o S i)(hu:uf t S<f+1):FMe Gs 120 [.int .i64 (i:Int)] (fK t o) S (JbF t o (doF t o (mnF t o) f) (mnF t o i) i S).1 (txV ((JbF t o (doF t o (mnF t o) f) (mnF t o i) i S).2.getD [])):=by
 have Aj:=g.many;have gK:GoodT (fK t o).t o:=g;have Oq:(fK t o).t.Fit:=ht;obtain⟨m,hm⟩:∃m:Nat,JN t o i=m:=by
  obtain⟨Ib,Cq,MX,_,OI⟩:=Y4 g hE hi h3;exact⟨(JN t o i).toNat,by omega⟩
 have D8:mnF t o i=m:=by unfold mnF;rw[hm];rfl
 rw[D8];obtain⟨C8,AQ,Eh⟩:=Y5 g hE hi h3 hm;have FP:(iz (ofL t o)).getD i []=[.int .i64 (m:Int)]:=by rw[JH (by rw[Q9];exact hi),Jev hi,hm]
 have Bp:(iz (ofL t o)).length=t.nodes.length:=by rw[Jg,Q9]
 have hg:=J3 C8;have Cs:=Jcq g C8;have Aw:(iz (nd t m).kids).length=(nd t m).kids.length:=Jg;have FX:0<(nd t m).kids.length->(iz (nd t m).kids).getD 0 []=[.int .i64 (JG t m 0:Int)]:=λh=>by rw[JH h,J2 g C8 h]
 have A7:∀Z:FS,FI t Z->(gz Z.got).length=t.nodes.length/\(gz Z.got).getD m []=[txV (Ju Z.got m)]:=λZ hZ=>⟨by rw[X5,hZ.gl],QW (by rw[hZ.gl];exact C8)⟩
 unfold JbF;refine J8 (vfS c120_ok λN=>?_);rcases Eh with h|h|h|⟨h,s,k,s1,s2,s3,s4,s5,s6⟩
 ·rw[if_pos h];simp -implicitDefEqProofs only[c120,go_sem,hpF,fRow,fK,FP,Bp,Jb,hg,Nd.cv,h,Ga]
  repeat refine anO ?_
  exact Fnl.one (K:=fK t o) 1 rfl rfl rfl (wk.refl _)
 ·rw[iN7,if_pos (.inl h)];obtain⟨q1,q2,q3,q4⟩:=Cs (.inr (.inl (by omega)));have hW:=XF gK (Z:=S) (JG t m 0) (show JG t m 0<t.nodes.length by omega) q3 q4;simp -implicitDefEqProofs only[c120,go_sem,hpF,fRow,fK,FP,Bp,Jb,hg,Nd.cv,h,Ga,Aw,FX q1]
  repeat refine anO ?_
  refine Ku hW (.inl rfl) rfl rfl rfl rfl ?_;simp -implicitDefEqProofs only[go_sem];exact Fnl.one (K:=fK t o) 1 rfl rfl rfl (wk.refl _)
 ·rw[iN7,iN7,iN7];obtain⟨g1,g2⟩:=A7 S hI;simp -implicitDefEqProofs only[c120,go_sem,hpF,fRow,fK,FP,Bp,Jb,hg,Nd.cv,h,Ga,g1,g2]
  repeat refine anO ?_
  exact Fnl.out (K:=fK t o) (wk.refl _) rfl
 ·rw[iN7];have hB:=fmBare (K:=fK t o) (Z:=S) (i:=m) C8;by_cases hn:(nd t m).kids=[]
  ·rw[if_neg (by rintro(h2|⟨_,h2⟩);omega;exact h2 hn)];have he:(nd t m).kids.isEmpty=true:=by rw[hn];rfl
   change FMe _ _ _ _ _ _ (.bool (nd t m).kids.isEmpty) at hB;rw[he]at hB;have SK:(iz (upZ t t.nodes.length)).getD m []=[.int .i64 (s:Int)]:=by rw[JH (by rw[JcP];exact C8),up_kid g s2 s4]
   have PL:(iz (upZ t t.nodes.length)).length=t.nodes.length:=by rw[Jg,JcP]
   rw[s1,Gi]
   cases hb:J7 S.fd s with
   |true=>
    rw[if_neg (by simp)];obtain⟨g1,g2⟩:=A7 S hI;rcases Jap (k:=s) S.fd 0 with ⟨_,h2,_⟩|⟨q,h1,_⟩
    ·rw[hb]at h2;cases h2
    rw[hb]at h1;simp -implicitDefEqProofs only[c120,go_sem,hpF,fRow,fK,FP,Bp,Jb,hg,Nd.cv,h,Ga]
    repeat refine anO ?_
    refine Ku hB (.inl rfl) rfl rfl rfl rfl ?_;simp -implicitDefEqProofs only[go_sem,hpF,fRow,fK,SK,PL,h1,g1,g2]
    repeat refine anO ?_
    exact Fnl.out (K:=fK t o) (wk.refl _) rfl
   |false=>
    rw[if_pos ⟨h,rfl⟩];have hF:=fmForce g ht hE ih hI hM BR hi hP hu s2 s3 s4 h AQ;obtain⟨f1,_⟩:=Jcv g (Ja8 g hE f) hI hM hi hP hu s2 s3 s4 h AQ;generalize jE:Xd t o (doF t o (mnF t o) f) s i S=SF at *;obtain⟨g1,g2⟩:=A7 SF f1;have CK:QL .int (.int .i64 (s:Int)) (kz S.fd) 0=some none\/∃q,QL .int (.int .i64 (s:Int)) (kz S.fd) 0=some (some (q,.bool false)):=by
     rcases Jap (k:=s) S.fd 0 with ⟨h1,_,h3⟩|⟨q,h1,h3⟩
     ·exact .inl h1
     ·rw[hb]at h1;exact .inr ⟨_,h1⟩
    rcases CK with h1|⟨q,h1⟩
    all_goals
     simp -implicitDefEqProofs only[c120,go_sem,hpF,fRow,fK,FP,Bp,Jb,hg,Nd.cv,h,Ga]
     repeat refine anO ?_
     refine Ku hB (.inl rfl) rfl rfl rfl rfl ?_;simp -implicitDefEqProofs only[go_sem,hpF,fRow,fK,SK,PL,h1]
     repeat refine anO ?_
     refine Ku hF (.inl rfl) rfl rfl rfl rfl ?_;simp -implicitDefEqProofs only[go_sem,hpF,fRow,fK,g1,g2]
     repeat refine anO ?_
     exact Fnl.out (K:=fK t o) (wk.refl _) rfl
  ·rw[if_pos (.inr ⟨h,hn⟩)];have he:(nd t m).kids.isEmpty=false:=by cases h:(nd t m).kids <;> simp_all
   change FMe _ _ _ _ _ _ (.bool (nd t m).kids.isEmpty) at hB;rw[he]at hB;obtain⟨q1,q2,q3,q4⟩:=Cs (.inr (.inr ⟨h,hn⟩));have hW:=XF gK (Z:=S) (JG t m 0) (show JG t m 0<t.nodes.length by omega) q3 q4;simp -implicitDefEqProofs only[c120,go_sem,hpF,fRow,fK,FP,Bp,Jb,hg,Nd.cv,h,Ga]
   repeat refine anO ?_
   refine Ku hB (.inl rfl) rfl rfl rfl rfl ?_;simp -implicitDefEqProofs only[go_sem,hpF,fRow,fK,Aw,FX q1]
   repeat refine anO ?_
   refine Ku hW (.inl rfl) rfl rfl rfl rfl ?_;simp -implicitDefEqProofs only[go_sem];exact Fnl.one (K:=fK t o) 1 rfl rfl rfl (wk.refl _)
end
end
def Tx (m:Nat)(l:TL):Prop:=∀a∈l,(tyT a).length<=m
theorem JaK {m:Nat}{a:TyX}(h:(tyT a).length<=m):Tx m [a]:=λb hb=>by
 rw[He.1 hb];exact h
theorem one_tx2 {m:Nat}{l:TL}(h:Tx m l)(hm:3<=m):(tyT ((Ke l).getD .int)).length<=m:=by
 cases ho:Ke l with
 |none=>simpa [tyT]using hm
 |some a=>
  have:=Jer.1 ho;subst this;exact h a (by simp)
theorem prt_tx {m:Nat}{l:TL}(h:Tx m l)(hm:3<=m):(tyT ((prt (Ke l)).getD .int)).length<=m:=by
 have h1:=one_tx2 h hm;rcases ho:Ke l with _|a|a|a|a <;> rw[ho]at h1 <;> simp[prt,tyT]at h1|- <;> omega
theorem given_tx {m:Nat}{ls:List TL}{l:TL}(h:Yt ls=some l)(hm:3<=m)(h2:∀x∈ls,Tx m x):Tx m l:=by
 unfold Yt at h
 split at h
 ·cases h;exact h2 _ (by simp)
 ·split at h
  ·cases h
   intro a ha;obtain⟨x,hx,rfl⟩:=GM.1 ha;have:=h2 x hx
   cases x with
   |nil=>simpa [tyT]using hm
   |cons b y=>exact this b (by simp)
  ·cases h
theorem rule_tx {k n:Nat}{ks:List Int}{K L:Nat->TL}{ty:TyX}{sp sr si gm l:TL}(h:JI k ks n K L ty sp sr si gm=some l)(hK:∀j,Tx 10000 (K j))(hL:Tx 10000 (L 1))(Cs:(tyT ty).length<=10000)(Ip:Tx 10000 sr):Tx 20000 l:=by
 have up:∀{l:TL},Tx 10000 l->Tx 20000 l:=λh a ha=>by have:=h a ha;omega
 have hg:∀(m:Nat) (f:Nat->Nat),Yt ((Gm m).map λj=>K (f j))=some l->Tx 20000 l:=λm f h=>up (given_tx h (by omega) λx hx=>by
  obtain⟨j,_,rfl⟩:=GM.1 hx;exact hK _)
 have BM:∀{c:Prop} [Decidable c] {x:TL},(if c then some x else none)=some l->Tx 20000 x->Tx 20000 l:=λh hx=>by
  split at h
  ·cases h;exact hx
  ·cases h
 have hi:Tx 20000 [.int]:=JaK (by simp[tyT]);have hb:Tx 20000 [.bool]:=JaK (by simp[tyT]);have hn:Tx 20000 []:=λa ha=>by cases ha
 have hp:∀j,(tyT ((prt (Ke (K j))).getD .int)).length<=10000:=λj=>prt_tx (hK j) (by omega)
 have hs:∀{a:TyX},(tyT a).length<=10000->Tx 20000 [.str a]:=λh=>JaK (by simp[tyT,QD];omega)
 by_cases e1:k=1
 ·subst e1;cases h;exact hi
 by_cases e2:k=2
 ·subst e2;cases h;exact hb
 by_cases e4:k=4
 ·subst e4;rw[rk_cons]at h;exact BM h (hs (hp 1))
 by_cases e5:k=5\/k=6
 ·rw[rk_or e5]at h;exact BM h hb
 by_cases e7:k=7\/k=8
 ·rw[rk_eq e7]at h;exact BM h hb
 by_cases e9:9<=k/\k<=12
 ·rw[rk_lt e9]at h;exact BM h hb
 by_cases e13:13<=k/\k<=17
 ·rw[rk_add e13]at h;exact BM h hi
 by_cases e18:k=18
 ·subst e18;rw[rk_read]at h;exact BM h (up (JaK (hp 0)))
 by_cases e19:k=19
 ·subst e19;rw[rk_not]at h;exact BM h hb
 by_cases e20:k=20
 ·subst e20;rw[rk_neg]at h;exact BM h hi
 by_cases e21:k=21
 ·subst e21;rw[rk_head]at h;exact BM h (up (JaK (hp 0)))
 by_cases e22:k=22
 ·subst e22;rw[rk_tail]at h;exact BM h (up (hK _))
 by_cases e23:k=23
 ·subst e23;rw[JgJ]at h;exact BM h hb
 by_cases e24:k=24
 ·subst e24;rw[rk_size]at h;exact BM h hi
 by_cases e25:k=25
 ·subst e25;cases h;exact hs Cs
 by_cases e26:k=26
 ·subst e26;rw[rk_call]at h;exact BM h (up Ip)
 by_cases e27:k=27
 ·subst e27;rw[rk_if]at h;exact BM h (up (hK _))
 by_cases e28:k=28
 ·subst e28;rw[rk_loop]at h;exact BM h (up (hK _))
 by_cases e29:k=29
 ·subst e29;rw[JgL]at h;have:=one_tx2 hL (by omega);exact BM h (JaK (by simp[tyT];omega))
 by_cases e40:k=40
 ·subst e40;exact hg _ _ h
 by_cases e45:k=45
 ·subst e45;exact hg _ id h
 by_cases e42:k=42
 ·subst e42;rw[JgK]at h
  split at h <;> cases h
  ·exact hn
  ·exact up (JaK Cs)
 by_cases e64:k=64
 ·subst e64;cases h;exact up (JaK Cs)
 by_cases e43:k=43
 ·subst e43;rw[rk_init]at h;exact BM h (up (JaK (one_tx2 (hK 0) (by omega))))
 by_cases e44:k=44
 ·subst e44;rw[rk_next]at h;exact BM h hn
 by_cases e47:k=47
 ·subst e47;cases h;exact hi
 by_cases e65:k=65
 ·subst e65;rw[rk_def]at h;exact BM h hn
 have:JI k ks n K L ty sp sr si gm=some []:=by
  unfold JI;simp only[e1,e2,e4,e5,e7,e9,e13,e18,e19,e20,e21,e22,e23,e24,e25,e26,e27,e28,e29,e40,e45,e42,e64,e43,e44,e47,e65,if_false]
 rw[this]at h;cases h;exact hn
theorem fine_tx {got:List TL}(hf:∀j,X6 (Ju got j)=true)(j:Nat):Tx 10000 (Ju got j):=λa ha=>by have:=Jhg (hf j) ha;omega
theorem rule_sm {t:Tr}{o:List Int}(g:GoodT t o)(ht:t.Fit){m i:Nat}{got:List TL}{l:TL}(hf:∀j,X6 (Ju got j)=true)(hi:i<t.nodes.length)(hm:m<t.nodes.length\/(nd t i).k≠26)(h:Xa t m got i=some l):Tx 20000 l:=by
 have Aj:=g.many;rw[JL]at h;have Cs:∀{j:Nat},j<t.nodes.length->(tyT (tyN t j)).length<=10000:=λh=>Jd9 (by omega)
 have bN:∀x y,x<t.nodes.length->(tyT (tyN t (JG t x y))).length<=10000:=λx y hx=>by
  refine Cs ?_;by_cases hy:y<(nd t x).kids.length
  ·have:=(Jz g hx hy).2.1;omega
  ·unfold JG;rw[Gb,Hd (by omega)];simp;omega
 refine rule_tx (k:=(nd t i).k) (n:=(nd t i).n.toNat) (ks:=(nd t i).kids) (K:=KK t got i) (L:=Jcp t got i) (sp:=JaF t m) (si:=YA t i) (gm:=Ju got m) (sr:=if (nd t i).k=26 then YA t m else []) (Eq.trans ?_ h) (λj=>?_) ?_ (bN i 0 hi) ?_
 ·by_cases Cz:(nd t i).k=26
  ·rw[if_pos Cz]
  ·rw[if_neg Cz];exact ruleK_congr rfl (λ_ _=>rfl) (λ_=>⟨rfl,rfl⟩) (λ_ _ _=>rfl) (λ_ _=>rfl) (λ_=>rfl) (λh=>absurd h Cz) (λ_=>rfl) (λ_=>rfl)
 ·unfold KK
  split
  ·exact fine_tx hf _
  ·intro a ha;cases ha
 ·unfold Jcp
  split
  ·exact fine_tx hf _
  ·intro a ha;cases ha
 ·split
  ·rename_i Cz;rcases hm with hm|hm
   ·intro a ha;unfold YA at ha;obtain⟨x,_,rfl⟩:=GM.1 ha;exact bN m _ hm
   ·exact absurd Cz hm
  ·intro a ha;cases ha
section
def TyR (f:Nat)(K:FT0)(S:FS)(i:Nat)(R:FS):Prop:=∃(S':FS) (x:CV) (b:Bool) (l:TL),x.closed=true/\FMe Gs f [.int .i64 (i:Int)] K S S' (.tup [x,.bool b])/\(b=true->x=txV l/\l.length<=30/\Tx 20000 l/\R=S'.fin i (some l))/\(b=false->R=S'.fail i)/\S'.got.length=K.t.nodes.length/\S'.dn.length=K.t.nodes.length
theorem TyR.of {f:Nat}{K:FT0}{S:FS}{i:Nat}{r:Option TL}(h:Ans K S f [.int .i64 (i:Int)] r)(hl:∀l,r=some l->l.length<=30/\Tx 20000 l)(h1:S.got.length=K.t.nodes.length)(h2:S.dn.length=K.t.nodes.length):TyR f K S i (S.fin i r):=by
 obtain⟨x,q1,q2,q3⟩:=h
 cases r with
 |none=>exact⟨S,x,false,[],q1,q3,λh=>(by cases h),λ_=>rfl,h1,h2⟩
 |some l=>exact⟨S,x,true,l,q1,q3,λ_=>⟨q2 l rfl,(hl l rfl).1,(hl l rfl).2,rfl⟩,λh=>(by cases h),h1,h2⟩
theorem Jhl {S:FS}{i:Nat}{r:Option TL}(h:S.bad.isSome=true):S.fin i r=S/\S.fail i=S:=by
 have h2:S.fail i=S:=by unfold FS.fail;rw[if_pos h]
 refine⟨?_,h2⟩;unfold FS.fin
 cases r with
 |none=>exact h2
 |some l=>simp only;rw[if_pos h]
theorem JcQ {l:TL}:(txV l).closed=true:=by simp[txV,CV.closed]
section
variable {t:Tr}{o:List Int}(g:GoodT t o)(ht:t.Fit)
include g ht
omit ht in
theorem JdR (hE:(XL t o).2=0){i:Nat}(hi:i<t.nodes.length)(hs:Kr t i=true):(ofL t o).getD i 0=(mnF t o i:Int)/\mnF t o i<t.nodes.length/\((nd t i).k=26->(nd t (mnF t o i)).k=65):=by
 have Ai:=(JcE hE).mean i hi hs;have hr:=JgW (t:=t) (o:=o) (i:=i);have h0:0<=JN t o i:=by omega
 obtain⟨d,hd⟩:∃d:Nat,JN t o i=d:=⟨(JN t o i).toNat,by omega⟩;have hm:mnF t o i=d:=by unfold mnF;rw[hd];rfl
 have h2:=mean_text g (JcE hE) hi hd;rw[hm];exact⟨by rw[Jev hi,hd],h2.2.2.2,λhk=>((JeA (JcE hE) hi hk).1 hd).2.2⟩
theorem fmSmall (hE:(XL t o).2=0){f:Nat}(ih:GoW t o f){S:FS}{i:Nat}(hI:FI t S)(hM:FM t o S)(BR:Ln S.got)(hi:i<t.nodes.length)(hb:S.bad=none)(hd:S.dn.getD i false=false)(hP:JhE t o S i)(hu:uf t S<f+1)(h3:(nd t i).k=3):TyR 92 (fK t o) S i (doF t o (mnF t o) (f+1) S i):=by
 have Aj:=g.many;have hg:=J3 hi;have hD:=fmDecl g ht hE ih hI hM BR hi h3 hP hu;have hR:doF t o (mnF t o) (f+1) S i=(JbF t o (doF t o (mnF t o) f) (mnF t o i) i S).1.fin i (JbF t o (doF t o (mnF t o) f) (mnF t o i) i S).2:=by
  rw[doF,if_neg (by rw[hb,hd];decide),if_pos h3]
 rw[hR];have PV:∃l,(JbF t o (doF t o (mnF t o) f) (mnF t o i) i S).2=some l:=by
  unfold JbF
  split
  ·exact⟨_,rfl⟩
  ·split
   ·exact⟨_,rfl⟩
   ·split <;> exact⟨_,rfl⟩
 obtain⟨l,hl⟩:=PV;have CR:FI t (JbF t o (doF t o (mnF t o) f) (mnF t o i) i S).1/\l.length<=30/\Tx 20000 l:=by
  obtain⟨Ib,Cq,MX,_,OI⟩:=Y4 g hE hi h3;obtain⟨m,hm⟩:∃m:Nat,JN t o i=m:=⟨(JN t o i).toNat,by omega⟩;have D8:mnF t o i=m:=by unfold mnF;rw[hm];rfl
  obtain⟨C8,AQ,Eh⟩:=Y5 g hE hi h3 hm;rw[D8]at hl|-;have Ca:∀Z:FS,FI t Z->Ln Z.got->(Ju Z.got m).length<=30/\Tx 20000 (Ju Z.got m):=λZ h1 h2=>⟨h2 m,λa ha=>by have:=Jhg (h1.fine m) ha;omega⟩
  have EP:∀x,x<t.nodes.length->JG t x 0<t.nodes.length:=λx hx=>by
   by_cases hy:0<(nd t x).kids.length
   ·have:=(Jz g hx hy).2.1;omega
   ·unfold JG;rw[Gb,Hd (by omega)];simp;omega
  unfold JbF at hl|-
  split at hl
  ·rename_i h;rw[if_pos h];cases hl;exact⟨hI,by simp,JaK (by simp[tyT])⟩
  ·rename_i h;rw[if_neg h]
   split at hl
   ·rename_i h;rw[if_pos h];cases hl;exact⟨hI,by simp,JaK (by have:=Jd9 (t:=t) (i:=JG t m 0) (by have:=EP m C8;omega);omega)⟩
   ·rename_i h2;rw[if_neg h2]
    split at hl
    ·rename_i h4;rw[if_pos h4];simp only at hl|-
     cases hl
     rcases Eh with h5|h5|h5|⟨h5,s,k,s1,s2,s3,s4,s5,s6⟩
     ·exact absurd h5 h
     ·exact absurd (.inl h5) h2
     ·omega
     ·rw[s1,Gi];obtain⟨f1,_⟩:=Jcv g (Ja8 g hE f) hI hM hi hP hu s2 s3 s4 h5 AQ;have iM:Ln (Xd t o (doF t o (mnF t o) f) s i S).got:=by
       unfold Xd
       split
       ·unfold FS.fail;split <;> exact BR
       ·simp only;have h1:=JgD ht (o:=o) (S:={ S with fg:=X4 s true S.fg }) BR f (KQ (fs o ((Ji t s:Nat):Int)).toNat (Ji t s+1-(fs o ((Ji t s:Nat):Int)).toNat))
        split
        ·exact h1
        ·exact Jcd h1
      exact⟨f1,Ca _ f1 iM⟩
    ·rename_i h4;rw[if_neg h4];cases hl;exact⟨hI,Ca S hI BR⟩
 generalize JbF t o (doF t o (mnF t o) f) (mnF t o i) i S=D at *;obtain⟨Z,r⟩:=D;obtain⟨got,dn,fd,fg,bad⟩:=Z
 dsimp only at hl CR hD|-
 subst hl;rw[Gp]at hD;refine⟨⟨got,dn,fd,fg,bad⟩,txV l,!bad.isSome,l,JcQ,?_,λh=>⟨rfl,CR.2.1,CR.2.2,rfl⟩,λh=>?_,CR.1.gl,CR.1.dl⟩
 ·refine J8 (vfS c92_ok λN=>?_);simp -implicitDefEqProofs only[c92,go_sem,hpF,fRow,fK,Jb,hg,Nd.cv,h3,Ga]
  repeat refine anO ?_
  refine Ku (K:=fK t o) hD (.inl rfl) rfl rfl rfl JcQ ?_;simp -implicitDefEqProofs only[go_sem,hpF,fRow,fK];refine JQ [0,0,0,0,1,0,0,0] Jp (by decide +kernel) ?_;simp -implicitDefEqProofs only[go_sem];refine Fnl.out (K:=fK t o) (S:=⟨got,dn,fd,fg,bad⟩) (wk.refl _) ?_;simp[CV.closed,Jm,JcQ]
 ·have gW:bad.isSome=true:=by simpa using h
  have h1:=Jhl (S:=⟨got,dn,fd,fg,bad⟩) (i:=i) (r:=some l) gW;rw[h1.1,h1.2]
theorem fmTypes (hE:(XL t o).2=0){f:Nat}(ih:GoW t o f){S:FS}{i:Nat}(hI:FI t S)(hM:FM t o S)(BR:Ln S.got)(hi:i<t.nodes.length)(hb:S.bad=none)(hd:S.dn.getD i false=false)(hP:JhE t o S i)(hu:uf t S<f+1):TyR 62 (fK t o) S i (doF t o (mnF t o) (f+1) S i):=by
 have Aj:=g.many;have gK:GoodT (fK t o).t o:=g;have Oq:(fK t o).t.Fit:=ht;have hg:=J3 hi;have Fe:∀m,(m<t.nodes.length\/(nd t i).k≠26)->∀l,Xa t m S.got i=some l->l.length<=30/\Tx 20000 l:=λm hm l h=>by
  refine⟨?_,rule_sm g ht hI.fine hi hm h⟩;rw[JL]at h;exact rule_len h (λj=>by unfold KK;split;exact BR _;simp) (kids_len ht i) (sig_len ht _)
 have aj:(nd t i).k≠3->(nd t i).k≠41->doF t o (mnF t o) (f+1) S i=S.fin i (Xa t (mnF t o i) S.got i):=λh1 h2=>by
  rw[doF,if_neg (by rw[hb,hd];decide),if_neg h1,if_neg h2]
 have Cz:(nd t i).k=26->(fK t o).of.getD i 0=(mnF t o i:Int)/\mnF t o i<t.nodes.length/\(nd t (mnF t o i)).k=65:=λhk=>by
  obtain⟨h1,h2,h3⟩:=JdR g hE hi (by simp[Kr,hk]);exact⟨h1,h2,h3 hk⟩
 have BO:(nd t i).k=44->(fK t o).of.getD i 0=(mnF t o i:Int)/\mnF t o i<t.nodes.length:=λhk=>by
  obtain⟨h1,h2,h3⟩:=JdR g hE hi (by simp[Kr,hk]);exact⟨h1,h2⟩
 have hR:∀f',(∃R,R=doF t o (mnF t o) (f+1) S i/\TyR f' (fK t o) S i R)->TyR f' (fK t o) S i (doF t o (mnF t o) (f+1) S i):=λf' ⟨R,h1,h2⟩=>by rw[<-h1];exact h2
 have Ot:((nd t i).k<=18->TyR 92 (fK t o) S i (doF t o (mnF t o) (f+1) S i))/\(18<(nd t i).k->(nd t i).k<=29->TyR 93 (fK t o) S i (doF t o (mnF t o) (f+1) S i))/\(29<(nd t i).k->TyR 94 (fK t o) S i (doF t o (mnF t o) (f+1) S i)):=by
  have FX:(nd t i).k≠0:=λh0=>by
   have hn:=g.nds (nd t i) (by unfold nd;rw[Gb,Gx hi];exact Hl hi);rw[ndI_R]at hn;simp[h0,Qa]at hn
  refine⟨λh=>?_,λh1 h2=>?_,λh=>?_⟩
  ·by_cases h3:(nd t i).k=3
   ·exact fmSmall g ht hE ih hI hM BR hi hb hd hP hu h3
   ·rw[aj h3 (by omega)];refine TyR.of ?_ (Fe _ (.inr (by omega))) hI.gl hI.dl;by_cases h1:(nd t i).k=1\/(nd t i).k=2
    ·exact small1 gK hi h1
    ·exact small2 gK hi (show 4<=(nd t i).k/\(nd t i).k<=18 by omega) hI.gl hI.fine
  ·rw[aj (by omega) (by omega)];by_cases h3:(nd t i).k<=25
   ·exact TyR.of (great1 gK hi (show 19<=(nd t i).k/\(nd t i).k<=25 by omega) hI.gl hI.fine) (Fe _ (.inr (by omega))) hI.gl hI.dl
   ·refine TyR.of (great2 gK Oq hi (show 26<=(nd t i).k/\(nd t i).k<=29 by omega) hI.gl hI.fine BR Q9 Cz) (Fe _ ?_) hI.gl hI.dl;by_cases h6:(nd t i).k=26
    ·exact .inl (Cz h6).2.1
    ·exact .inr h6
  ·by_cases Bg:(nd t i).k=41
   ·obtain⟨O7,Ad⟩:=setF_ok gK (K:=fK t o) hI hi Bg;have hS:=fmSet gK Oq hI BR hi Bg;have ML:=setF_ln (K:=fK t o) (s:=i) BR;have ai:doF t o (mnF t o) (f+1) S i=(Jag t i S).fin i (if Jab t i (Ju (Jag t i S).got (Ji t i))=true then some [] else none):=by
     rw[doF,if_neg (by rw[hb,hd];decide),iN7,if_pos Bg]
    rw[ai];change FMe _ _ _ _ _ (Jag t i S) (.bool (!(Jag t i S).bad.isSome && Jab t i (Ju (Jag t i S).got (Ji t i)))) at hS;change FI t (Jag t i S) at O7;generalize Jag t i S=Z at *;have hl:∀l:TL,l=[]->l.length<=30/\Tx 20000 l:=λl h=>by subst h;exact⟨by simp,λa ha=>by cases ha⟩
    refine⟨Z,txV [],!Z.bad.isSome && Jab t i (Ju Z.got (Ji t i)),[],rfl,?_,λh=>?_,λh=>?_,O7.gl,O7.dl⟩
    ·refine J8 (vfS c94_ok λN=>?_);simp -implicitDefEqProofs only[c94,go_sem,hpF,fRow,fK,Jb,hg,Nd.cv,Bg,Ga]
     repeat refine anO ?_
     refine Ku (K:=fK t o) hS (.inl rfl) rfl rfl rfl rfl ?_;simp -implicitDefEqProofs only[go_sem];exact Fnl.out (K:=fK t o) (YW ⟨wk.nils,wk.refl _,trivial⟩) rfl
    ·simp only[Bool.and_eq_true]at h;rw[if_pos h.2];exact⟨rfl,(hl [] rfl).1,(hl [] rfl).2,rfl⟩
    ·by_cases Pt:Z.bad.isSome=true
     ·rw[(Jhl Pt).1,(Jhl (r:=none) Pt).2]
     ·rw[Bool.eq_false_iff.2 Pt,G9,Gy]at h;rw[h];rfl
   ·rw[aj (by omega) Bg];exact TyR.of (part1 gK Oq hi (show 30<=(nd t i).k/\(nd t i).k≠41 by omega) hI.gl hI.fine BR Q9 BO) (Fe _ (.inr (by omega))) hI.gl hI.dl
 obtain⟨s1,s2,s3⟩:=Ot;have fin:∀f' (P1:TyR f' (fK t o) S i (doF t o (mnF t o) (f+1) S i)) (hC:∀(S':FS) (x:CV) (b:Bool),x.closed=true->FMe Gs f' [.int .i64 (i:Int)] (fK t o) S S' (.tup [x,.bool b])->FMe Gs 62 [.int .i64 (i:Int)] (fK t o) S S' (.tup [x,.bool b])),TyR 62 (fK t o) S i (doF t o (mnF t o) (f+1) S i):=λf' P1 hC=>by
  obtain⟨S',x,b,l,q1,q2,q3⟩:=P1;exact⟨S',x,b,l,q1,hC S' x b q1 q2,q3⟩
 have DT:∀{x:CV} {b:Bool},x.closed=true->(CV.tup [x,.bool b]).closed=true:=λh=>by simp[CV.closed,Jm,h]
 by_cases SG:(nd t i).k<=18
 ·refine fin _ (s1 SG) λS' x b hx hF=>?_
  have d1:((nd t i).k<=18)=True:=eq_true SG;have d2:(((nd t i).k:Int)<=18)=True:=Kl;refine J8 (vfS c62_ok λN=>?_);simp -implicitDefEqProofs only[c62,go_sem,hpF,fRow,fK,Jb,hg,Nd.cv,d2]
  repeat refine anO ?_
  refine Ku (K:=fK t o) hF (.inl rfl) rfl rfl rfl (DT hx) ?_;simp -implicitDefEqProofs only[go_sem];exact Fnl.out (K:=fK t o) (wk.refl _) (DT hx)
 ·have d1:((nd t i).k<=18)=False:=eq_false SG;have d2:(((nd t i).k:Int)<=18)=False:=Ki;by_cases Pz:(nd t i).k<=29
  ·refine fin _ (s2 (by omega) Pz) λS' x b hx hF=>?_
   have d3:(((nd t i).k:Int)<=29)=True:=Kl;refine J8 (vfS c62_ok λN=>?_);simp -implicitDefEqProofs only[c62,go_sem,hpF,fRow,fK,Jb,hg,Nd.cv,d2,d3]
   repeat refine anO ?_
   refine Ku (K:=fK t o) hF (.inl rfl) rfl rfl rfl (DT hx) ?_;simp -implicitDefEqProofs only[go_sem];exact Fnl.out (K:=fK t o) (wk.refl _) (DT hx)
  ·refine fin _ (s3 (by omega)) λS' x b hx hF=>?_
   have d3:(((nd t i).k:Int)<=29)=False:=Ki;refine J8 (vfS c62_ok λN=>?_);simp -implicitDefEqProofs only[c62,go_sem,hpF,fRow,fK,Jb,hg,Nd.cv,d2,d3]
   repeat refine anO ?_
   refine Ku (K:=fK t o) hF (.inl rfl) rfl rfl rfl (DT hx) ?_;simp -implicitDefEqProofs only[go_sem];exact Fnl.out (K:=fK t o) (wk.refl _) (DT hx)
theorem lawDo (hE:(XL t o).2=0):∀f,GoW t o f
 |0=>λS i _ _ _ _ _ hu=>by omega
 |f+1=>λS i hI hM BR hi hP hu=>by
  have Aj:=g.many;obtain⟨got,dn,fd,fg,bad⟩:=S;have Bq:=hI.dl;have A7:=hI.gl
  dsimp only at Bq A7 BR
  have Ig:(bqz dn).getD i []=[.bool (dn.getD i false)]:=bqz_get (by omega);have R3:(bqz dn).length=t.nodes.length:=by rw[bqz_len,Bq]
  refine J8 (vfS c40_ok λN=>?_)
  cases hd:dn.getD i false with
  |true=>
   have e:doF t o (mnF t o) (f+1) ⟨got,dn,fd,fg,bad⟩ i=⟨got,dn,fd,fg,bad⟩:=by
    rw[doF,if_pos (by simp only[hd,Bool.or_true])]
   rw[e];simp -implicitDefEqProofs only[c40,go_sem,hpF,fRow,fK,Ig,R3,hd]
   repeat refine anO ?_
   exact .done (wk.refl _)
  |false=>
   cases bad with
   |some b=>
    have e:doF t o (mnF t o) (f+1) ⟨got,dn,fd,fg,some b⟩ i=⟨got,dn,fd,fg,some b⟩:=by
     rw[doF,if_pos (by simp)]
    rw[e];simp -implicitDefEqProofs only[c40,go_sem,hpF,fRow,fK,Ig,R3,hd,Gn,Gp]
    repeat refine anO ?_
    exact .done (wk.refl _)
   |none=>
    obtain⟨S',x,b,l,q1,q2,q3,q4,q5,q6⟩:=fmTypes g ht hE (lawDo hE f) hI hM BR hi rfl hd hP hu;generalize doF t o (mnF t o) (f+1) ⟨got,dn,fd,fg,none⟩ i=R at *;have DT:(CV.tup [x,.bool b]).closed=true:=by simp[CV.closed,Jm,q1]
    have FB:=fmFail (K:=fK t o) (Z:=S') (i:=i);simp -implicitDefEqProofs only[c40,go_sem,hpF,fRow,fK,Ig,R3,hd,Gu,Gw]
    repeat refine anO ?_
    refine Ku (K:=fK t o) (Z:=⟨got,dn,fd,fg,none⟩) q2 (.inl rfl) rfl rfl rfl DT ?_
    cases b with
    |false=>
     have e:=q4 rfl;have Dy:(S'.fail i).bad.isSome=true:=by unfold FS.fail;split;assumption;rfl
     rw[<-e]at FB Dy;obtain⟨got1,dn1,fd1,fg1,bad1⟩:=R;obtain⟨b1,rfl⟩:=HV.1 Dy;simp -implicitDefEqProofs only[go_sem];refine Ku FB (.inl rfl) rfl rfl rfl rfl ?_;simp -implicitDefEqProofs only[go_sem,hpF,fRow,fK,Gn,Gp];exact .done (wk.refl _)
    |true=>
     obtain⟨rfl,l1,l2,l3⟩:=q3 rfl;have hG:=typGreat l (by omega) (λa ha=>by have:=l2 a ha;omega);simp -implicitDefEqProofs only[go_sem];refine Kh (gok rfl) hG ?_
     cases Bn:X6 l with
     |false=>
      have e:R=S'.fail i:=by
       rw[l3];unfold FS.fin;simp only
       split
       ·unfold FS.fail;rw[if_pos (by assumption)]
       ·rw[if_neg (by rw[Bn];decide)]
      have Dy:(S'.fail i).bad.isSome=true:=by unfold FS.fail;split;assumption;rfl
      rw[<-e]at FB Dy;clear l3 e q3 q4;obtain⟨got1,dn1,fd1,fg1,bad1⟩:=R;obtain⟨b1,rfl⟩:=HV.1 Dy;simp -implicitDefEqProofs only[go_sem];refine Ku FB (.inl rfl) rfl rfl rfl rfl ?_;simp -implicitDefEqProofs only[go_sem,hpF,fRow,fK,Gn,Gp];exact .done (wk.refl _)
     |true=>
      obtain⟨got1,dn1,fd1,fg1,bad1⟩:=S'
      dsimp only at q5 q6
      cases bad1 with
      |some b1=>
       rw[(Jhl (S:=⟨got1,dn1,fd1,fg1,some b1⟩) rfl).1]at l3;rw[l3];simp -implicitDefEqProofs only[go_sem,hpF,fRow,fK,Gn,Gp];exact .done (wk.refl _)
      |none=>
       have e:R=⟨if l=[] then got1 else got1.set i l,dn1.set i true,fd1,fg1,none⟩:=by
        rw[l3];unfold FS.fin;simp only;rw[if_neg (by decide),if_pos Bn]
       rw[e];have Z6:(gz got1).length=t.nodes.length:=by rw[X5];exact q5
       have Pt:(bqz dn1).length=t.nodes.length:=by rw[bqz_len];exact q6
       have CB:(txz l).length=l.length:=QO;have Fu:(gz got1).getD i []=[txV (Ju got1 i)]:=QW (by rw[q5];exact hi);have Mc:(bqz dn1).getD i []=[.bool (dn1.getD i false)]:=bqz_get (by rw[q6];exact hi);by_cases A9:l=[]
       ·subst A9;have d2:((0:Int)<(([]:TL).length:Int))=False:=eq_false (by simp);rw[if_pos rfl];simp -implicitDefEqProofs only[go_sem,hpF,fRow,fK,Gu,Gw,txV,CB,Pt,Mc,bqz_set,Gf,Gg]
        repeat refine anO ?_
        exact .done (wk.refl _)
       ·have d2:((0:Int)<(l.length:Int))=True:=eq_true (by have:=List.length_pos_iff.2 A9;omega);rw[if_neg A9];have DF:(gz got1).set i [.rslc 1 (txz l) none]=gz (got1.set i l):=gz_set;simp -implicitDefEqProofs only[go_sem,hpF,fRow,fK,Gu,Gw,txV,CB,d2,Pt,Z6,Fu,Mc,bqz_set,DF,Gf,Gg]
        repeat refine anO ?_
        exact .done (wk.refl _)
end
end
section
section
variable {P:Program}{E:Env}{n0:Nat}{N:Fr}{Q:Exit->List CV->List CObj->Prop}{H H':List CObj}{T:List CV}{k:List KItem}
theorem ok_pad (h:Ok P E n0 N Q k T (H++[.dead])):Ok P E n0 N Q k T H:=by
 intro m w a b cs kr rest hp hd hk;obtain⟨hs,ho,he⟩:=Sim.pad (n0:=n0) hp.sim;exact Reach.step (.refl _ _) he (h _ w a b cs kr rest ⟨hs,KM ho (Kw.refl _) _ _ hp.tmps,by have:=hp.long;simp;omega⟩ (hd.ext he) hk)
theorem ok_pads:∀(m:Nat) {H:List CObj},Ok P E n0 N Q k T (H++Gh m .dead)->Ok P E n0 N Q k T H
 |0,H,h=>by simpa using h
 |m+1,H,h=>ok_pad (ok_pads m (by rw[List.append_assoc];exact h))
theorem NoD.none {p:Nat}(h1:(T.all λc=>(refs c).isEmpty)=true)(h2:(H.all λo=>(JgO o).isEmpty)=true):NoD p T H:=by
 rw[List.all_eq_true]at h1 h2;exact⟨λc hc i hi=>(by have:=h1 c hc;rw[Hg]at this;rw[this]at hi;cases hi),λo ho i hi=>(by have:=h2 o ho;rw[Hg]at this;rw[this]at hi;cases hi)⟩
theorem nf_at:∀{l l':List CV}{t:Nat}{c':CV},wks l l'->l'[t]? = some c'->∃c,l[t]? = some c/\Cm.wk c c'
 |[],[],_,_,_,h=>by simp at h
 |c::l,c'::l',0,d,hw,h=>by simp at h;subst h;exact⟨c,rfl,hw.1⟩
 |c::l,c'::l',t+1,d,hw,h=>by simp at h;simpa using nf_at hw.2 h
theorem nf_ln:∀{l l':List CV},wks l l'->l.length=l'.length
 |[],[],_=>rfl
 |_::l,_::l',hw=>by simp[nf_ln hw.2]
theorem vr_wkE {i z:Nat}{els els':List (List CV)}(hH:H[i]? = some (.arr z els))(hl:els.length=els'.length)(hw:∀(j:Nat) (a b:List CV),els[j]? = some a->els'[j]? = some b->wks a b)(h:Ko P E n0 N Q k T (H.set i (.arr z els'))):Ok P E n0 N Q k T H:=by
 intro m w a' b' cs kr rest hp hd hk;have hs:=hp.sim;have DF:∀{k:Nat} {o:CObj},(H.set i (.arr z els'))[k]? = some o->(k=i/\o=.arr z els')\/(k≠i/\H[k]? = some o):=λ{k o} h=>by
  by_cases EP:k=i
  ·subst EP;rw[List.getElem?_set_self (GG.1 hH).1]at h;exact .inl ⟨rfl,(Option.some.inj h).symm⟩
  ·rw[List.getElem?_set_ne (λg=>EP g.symm)]at h;exact .inr ⟨EP,h⟩
 have key:∀(k:Nat) o,(H.set i (.arr z els'))[k]? = some o->∃o',H[k]? = some o'/\o'.alive=o.alive:=λk o h=>by
  rcases DF h with ⟨rfl,rfl⟩|⟨_,h2⟩
  ·exact⟨_,hH,rfl⟩
  ·exact⟨o,h2,rfl⟩
 have Az:Sim E m (H.set i (.arr z els')) w:=by
  refine⟨by rw[GK];exact hs.len,λk o x hk hx=>?_,hs.imm,hs.one,λk k' o o' x x' hk AA ha AX hx Aq hB=>?_,λk o x hk ha hx=>?_,λk s b hk=>?_,λk o x hk ha hx=>?_,hs.extlt,hs.gl⟩
  ·rcases DF hk with ⟨rfl,rfl⟩|⟨_,h2⟩
   ·obtain⟨hz,c,elem,h1,h2,h3,h4,h5⟩:=hs.obj k _ x hH hx;refine⟨hz,c,elem,h1,h2,by rw[<-hl];exact h3,λj e he=>?_,h5⟩;have hj:j<els.length:=by rw[hl];exact(GG.1 he).1
    have bi:=hw j _ e (Gx hj) he;obtain⟨q1,q2⟩:=h4 j _ (Gx hj);refine⟨by rw[<-nf_ln bi];exact q1,λt c' CU=>?_⟩;obtain⟨c0,g1,g2⟩:=nf_at bi CU;obtain⟨r,r1,r2⟩:=q2 t c0 g1;exact⟨r,r1,g2 _ _ _ r2⟩
   ·exact hs.obj k o x h2 hx
  ·obtain⟨p,hp,CQ⟩:=key k o hk;obtain⟨p',DC,Iz⟩:=key k' o' AA;exact hs.sep k k' p p' x x' hp DC (CQ.trans ha) (Iz.trans AX) hx Aq hB
  ·obtain⟨p,hp,CQ⟩:=key k o hk;exact hs.ro k p x hp (CQ.trans ha) hx
  ·rcases DF hk with ⟨_,h2⟩|⟨_,h2⟩
   ·cases h2
   ·exact hs.ext k s b h2
  ·obtain⟨p,hp,CQ⟩:=key k o hk;exact hs.extsep k p x hp (CQ.trans ha) hx
 have he:Ext n0 m H w m (H.set i (.arr z els')) w:=by
  refine⟨Gv _,λ_ _ _=>rfl,Kw.refl _,λB hB=>.inl ?_,λB i v hv=>.inl hv,λk x _ hx=>hx,λh=>h,rfl,rfl,rfl⟩;rcases hB with h|⟨k,o,x,hk,ha,hx,hB⟩
  ·exact .inl h
  ·obtain⟨p,hp,CQ⟩:=key k o hk;exact .inr ⟨k,p,x,hp,CQ.trans ha,hx,hB⟩
 exact Reach.step (.refl _ _) he (JA _ _ _ h _ w a' b' cs kr rest ⟨Az,hp.tmps,by rw[GK];exact hp.long⟩ (hd.ext he) hk)
theorem vr_pads (m:Nat)(hH:H++Gh m .dead=H')(h:Ko P E n0 N Q k T H'):Ok P E n0 N Q k T H:=ok_pads m (by rw[hH];exact JA _ _ _ h)
end
def nfH (t:Tr)(of up fi:List Int)(X:List CObj):List CObj:=.arr 11 [[.rslc 5 (ndz t.nodes) none,.rslc 1 (iz t.items) none,.rslc 1 (iz of) none,.slc 5 0 t.nodes.length (some t.nodes.length),.slc 6 0 t.nodes.length (some t.nodes.length),.slc 1 0 t.nodes.length (some t.nodes.length),.slc 2 0 t.nodes.length (some t.nodes.length),.map 3,.map 4,.int .i64 0,.bool false]] :: .arr 1 (gz (Gh t.nodes.length [])) :: .arr 1 (bqz (Gh t.nodes.length false)) :: .map [] :: .map [] :: .arr 1 (iz up) :: .arr 1 (iz fi) :: .arr 1 [[.ptr 0 0 0]]::X
theorem nfH_ren {t:Tr}{of up fi:List Int}{X:List CObj}:Kq [0,1,2,3,4,5,6,7] (nfH t of up fi X)=nfH t of up fi []:=by
 show [_,XM _ (.arr 1 (gz _)),XM _ (.arr 1 (bqz _)),_,_,XM _ (.arr 1 (iz up)),XM _ (.arr 1 (iz fi)),_]=_;simp only[XM];rw[Jc (Qu _),Jc (QI _),Jc (Jf _),Jc (Jf _)];rfl
theorem nfH_frz {t:Tr}{of up fi:List Int}{X:List CObj}{id z:Nat}{e:List (List CV)}:Ky (id+8) z e (nfH t of up fi X)=nfH t of up fi ((X.map (Qc (id+8) z e)).set id .dead):=by
 have h0:∀(j:Nat) (a b:Nat) (c:Option Nat),j<8->frz (id+8) z e (.slc j a b c)=.slc j a b c:=λj a b c h=>by simp only[frz];rw[iN7]
 have h1:frz (id+8) z e (.ptr 0 0 0)=.ptr 0 0 0:=by simp only[frz];rw[iN7]
 simp only[nfH,Ky,Gj,Gl,Qc,JY,h0 5 _ _ _ (by decide),h0 6 _ _ _ (by decide),h0 1 _ _ _ (by decide),h0 2 _ _ _ (by decide),h1,JO (Qu _),JO (QI _),JO (Jf _),Gd];rfl
theorem nfH_end {t:Tr}{o of:List Int}{K:FT0}(hK:K=⟨t,of,upZ t t.nodes.length,fiZ t o t.nodes.length⟩):Fnl 0 (.ptr 0 0 0) (hpF K (FS.start t) []) (.ptr 0 0 0) (nfH t of (upZ t t.nodes.length) (fiZ t o t.nodes.length) []):=by
 subst hK;have hu:(iz (upZ t t.nodes.length)).length=t.nodes.length:=by rw[Jg,JcP]
 have hf:(iz (fiZ t o t.nodes.length)).length=t.nodes.length:=by rw[Jg,Ja4]
 have h1:∀(j a b id:Nat) (c:Option Nat) (z:Nat) (e:List (List CV)),j≠id->frz id z e (.slc j a b c)=.slc j a b c:=λj a b id c z e h=>by simp only[frz];rw[if_neg h]
 have h2:∀(id z:Nat) (e:List (List CV)),0≠id->frz id z e (.ptr 0 0 0)=.ptr 0 0 0:=λid z e h=>by simp only[frz];rw[if_neg h]
 have h3:∀(id z:Nat) (e:List (List CV)) (n:Nat),e.length=n->frz id z e (.slc id 0 n (some n))=.rslc z e none:=λid z e n h=>by
  subst h;simp only[frz,if_true,Gr,Gv,Gq,List.take_length]
 have e1:Ky 5 1 (iz (upZ t t.nodes.length)) (nfH t of (upZ t t.nodes.length) (fiZ t o t.nodes.length) [])=[.arr 11 [[.rslc 5 (ndz t.nodes) none,.rslc 1 (iz t.items) none,.rslc 1 (iz of) none,.rslc 1 (iz (upZ t t.nodes.length)) none,.slc 6 0 t.nodes.length (some t.nodes.length),.slc 1 0 t.nodes.length (some t.nodes.length),.slc 2 0 t.nodes.length (some t.nodes.length),.map 3,.map 4,.int .i64 0,.bool false]],.arr 1 (gz (Gh t.nodes.length [])),.arr 1 (bqz (Gh t.nodes.length false)),.map [],.map [],.dead,.arr 1 (iz (fiZ t o t.nodes.length)),.arr 1 [[.ptr 0 0 0]]]:=by
  simp only[nfH,Ky,Gj,Gl,Qc,JY,h1 6 _ _ 5 _ _ _ (by decide),h1 1 _ _ 5 _ _ _ (by decide),h1 2 _ _ 5 _ _ _ (by decide),h2 5 _ _ (by decide),h3 5 1 _ _ hu,JO (Qu _),JO (QI _),JO (Jf _),Gd,Gc];rfl
 have e2:Ky 6 1 (iz (fiZ t o t.nodes.length)) [.arr 11 [[.rslc 5 (ndz t.nodes) none,.rslc 1 (iz t.items) none,.rslc 1 (iz of) none,.rslc 1 (iz (upZ t t.nodes.length)) none,.slc 6 0 t.nodes.length (some t.nodes.length),.slc 1 0 t.nodes.length (some t.nodes.length),.slc 2 0 t.nodes.length (some t.nodes.length),.map 3,.map 4,.int .i64 0,.bool false]],.arr 1 (gz (Gh t.nodes.length [])),.arr 1 (bqz (Gh t.nodes.length false)),.map [],.map [],.dead,.arr 1 (iz (fiZ t o t.nodes.length)),.arr 1 [[.ptr 0 0 0]]]=hpF ⟨t,of,upZ t t.nodes.length,fiZ t o t.nodes.length⟩ (FS.start t) [.dead,.dead,.arr 1 [[.ptr 0 0 0]]]:=by
  simp only[Ky,Gj,Gl,Qc,JY,h1 1 _ _ 6 _ _ _ (by decide),h1 2 _ _ 6 _ _ _ (by decide),h2 6 _ _ (by decide),h3 6 1 _ _ hf,JO (Qu _),JO (QI _),JO (Jf _),Gd,Gc];rfl
 refine .frz 5 1 (iz (upZ t t.nodes.length)) rfl (Jf _) ?_;rw[h2 5 _ _ (by decide),e1];refine .frz 6 1 (iz (fiZ t o t.nodes.length)) rfl (Jf _) ?_;rw[h2 6 _ _ (by decide),e2];refine .ren [0,1,2,3,4] rfl ?_;rw[Qd (Y:=[]) rfl];exact .done (wk.refl _)
section
variable {t:Tr}{o:List Int}(g:GoodT t o)(ht:t.Fit)
include g ht
theorem newFinder (of:List Int):CallsC Gs Env.none 32 [t.cv,.agg [.rslc 1 (iz of) none]] [] λv H'=>v=.ptr 0 0 0/\H'=hpF ⟨t,of,upZ t t.nodes.length,fiZ t o t.nodes.length⟩ (FS.start t) []:=by
 have Aj:=g.many;refine CallsC.fnl ?_;refine vfS c32_ok λN=>?_
 simp -implicitDefEqProofs only[c32,go_sem,Tr.cv,Tr.row,Jb];refine Jd (id:=0) (z:=2) (els:=[t.row]) rfl rfl ?_;simp -implicitDefEqProofs only[go_sem,Tr.row];refine Jd (id:=1) (z:=1) (els:=[[.rslc 1 (iz of) none]]) rfl rfl ?_;simp -implicitDefEqProofs only[go_sem];refine vr_ren [] rfl ?_;simp -implicitDefEqProofs only[go_sem];refine vr_pads 8 rfl ?_;simp -implicitDefEqProofs only[go_sem];refine JcL (H':=[.dead,.dead,.dead,.dead,.dead,.dead,.dead,.dead]) rfl ?_;simp -implicitDefEqProofs only[go_sem];have MW:∀(ρ:List Nat) (id i n:Nat),Jn id ρ 0=some i->ren ρ (.slc id 0 n (some n))=.slc i 0 n (some n):=λρ id i n h=>by simp only[ren,h]
 have D8:∀(ρ:List Nat) (id i:Nat),Jn id ρ 0=some i->ren ρ (.map id)=.map i:=λρ id i h=>by simp only[ren,h]
 have bI:∀(ρ:List Nat) (id i:Nat),Jn id ρ 0=some i->ren ρ (.ptr id 0 0)=.ptr i 0 0:=λρ id i h=>by simp only[ren,h]
 have Un:∀b:Int,0<=b->b<=24->(Cond.and (.ile 0 (t.nodes.length:Int)) (.and (.ile (t.nodes.length:Int) (t.nodes.length:Int)) (.and (.ile (t.nodes.length:Int) 281474976710656) (.ile (b*(t.nodes.length:Int)) 281474976710656)))).holds:=λb h1 h2=>by
  refine⟨?_,?_,?_,?_⟩
  ·show (0:Int)<=_;omega
  ·show (t.nodes.length:Int)<=_;omega
  ·show (t.nodes.length:Int)<=_;omega
  ·show b*(t.nodes.length:Int)<=_;have:=Int.mul_le_mul h2 (show (t.nodes.length:Int)<=700 by omega) (by omega) (by omega);omega
 have Pk:∀(m:Nat) (c:CV),refs c=[]->JgO (.arr 1 (Gh m [c]))=[]:=λm c h=>by
  simp[JgO,Jfm,h,List.flatMap_replicate]
 refine vr_dregZ 0 [(0,[]),(0,[]),(0,[]),(0,[]),(6,[]),(0,[]),(7,[]),(0,[]),(2,[]),(0,[]),(3,[]),(4,[]),(5,[]),(0,[5,6,1,2,3,4]),(1,[5,6,1,2,3,4]),(8,[]),(8,[0])] Jp (by decide +kernel) (NoD.none rfl rfl) ?_;refine Jde rfl rfl (GQ rfl) rfl (by simp) ?_;simp -implicitDefEqProofs only[go_sem];refine Jde rfl rfl (GQ rfl) rfl (by simp) ?_;simp -implicitDefEqProofs only[go_sem];refine Jde rfl rfl trivial rfl (by simp) ?_;simp -implicitDefEqProofs only[go_sem];refine Jde rfl rfl trivial rfl (by simp) ?_;simp -implicitDefEqProofs only[go_sem];refine Jdf 5 (λid=>.slc id 0 t.nodes.length (some t.nodes.length)) (.arr 1 (Gh t.nodes.length [.int .i64 0])) rfl (λ_=>rfl) (Un 8 (by decide) (by decide)) (λ_ _ _ h=>MW _ _ _ _ h) rfl rfl rfl (by decide) (by decide) (Pk _ _ rfl) (by simp) ?_;simp -implicitDefEqProofs only[go_sem,Gc,Gd];refine Jde rfl rfl trivial rfl (by simp) ?_;simp -implicitDefEqProofs only[go_sem];refine Jdf 6 (λid=>.slc id 0 t.nodes.length (some t.nodes.length)) (.arr 1 (Gh t.nodes.length [.int .i64 0])) rfl (λ_=>rfl) (Un 8 (by decide) (by decide)) (λ_ _ _ h=>MW _ _ _ _ h) rfl rfl rfl (by decide) (by decide) (Pk _ _ rfl) (by simp) ?_;simp -implicitDefEqProofs only[go_sem,Gc,Gd];refine Jde rfl rfl trivial rfl (by simp) ?_;simp -implicitDefEqProofs only[go_sem];refine Jdf 1 (λid=>.slc id 0 t.nodes.length (some t.nodes.length)) (.arr 1 (Gh t.nodes.length [.nils])) rfl (λ_=>rfl) (Un 24 (by decide) (by decide)) (λ_ _ _ h=>MW _ _ _ _ h) rfl rfl rfl (by decide) (by decide) (Pk _ _ rfl) (by simp) ?_;simp -implicitDefEqProofs only[go_sem,Gc,Gd];refine Jde rfl rfl trivial rfl (by simp) ?_;simp -implicitDefEqProofs only[go_sem];refine Jdf 2 (λid=>.slc id 0 t.nodes.length (some t.nodes.length)) (.arr 1 (Gh t.nodes.length [.bool false])) rfl (λ_=>rfl) (Un 1 (by decide) (by decide)) (λ_ _ _ h=>MW _ _ _ _ h) rfl rfl rfl (by decide) (by decide) (Pk _ _ rfl) (by simp) ?_;simp -implicitDefEqProofs only[go_sem,Gc,Gd];refine Jdf 3 (λid=>.map id) (.map []) rfl (λ_=>rfl) trivial (λ_ _ _ h=>D8 _ _ _ h) rfl rfl rfl (by decide) (by decide) rfl (by simp) ?_;simp -implicitDefEqProofs only[go_sem,Gc,Gd];refine Jdf 4 (λid=>.map id) (.map []) rfl (λ_=>rfl) trivial (λ_ _ _ h=>D8 _ _ _ h) rfl rfl rfl (by decide) (by decide) rfl (by simp) ?_;simp -implicitDefEqProofs only[go_sem,Gc,Gd];have AQ:∀(H:List CObj) (i:Nat),(∃ob,H[i]? = some ob/\ob.alive=true)->okId H 0 i:=λH i ⟨ob,h1,h2⟩=>⟨(GG.1 h1).1,λhd=>by rw[hd]at h1;cases h1;cases h2⟩
 refine Jde rfl rfl trivial rfl (by
  intro i hi;simp only[G8,GZ,or_false]at hi;rcases hi with rfl|rfl|rfl|rfl|rfl|rfl <;> exact AQ _ _ ⟨_,rfl,rfl⟩) ?_
 simp -implicitDefEqProofs only[go_sem];refine Jdf 0 (λid=>.ptr id 0 0) (.arr 11 [[.rslc 5 (ndz t.nodes) none,.rslc 1 (iz t.items) none,.rslc 1 (iz of) none,.slc 5 0 t.nodes.length (some t.nodes.length),.slc 6 0 t.nodes.length (some t.nodes.length),.slc 1 0 t.nodes.length (some t.nodes.length),.slc 2 0 t.nodes.length (some t.nodes.length),.map 3,.map 4,.int .i64 0,.bool false]]) rfl (λ_=>rfl) trivial (λ_ _ _ h=>bI _ _ _ h) rfl rfl rfl (by decide) (by decide) rfl (by
  intro i hi;simp only[G8,GZ,or_false]at hi;rcases hi with rfl|rfl|rfl|rfl|rfl|rfl <;> exact AQ _ _ ⟨_,rfl,rfl⟩) ?_
 simp -implicitDefEqProofs only[go_sem,Gc];refine Jdf 7 (λid=>.ptr id 0 0) (.arr 1 [[.nilp]]) rfl (λ_=>rfl) trivial (λ_ _ _ h=>bI _ _ _ h) rfl rfl rfl (by decide) (by decide) rfl (by simp) ?_;simp -implicitDefEqProofs only[go_sem,Gc,Gd];refine vz_set 7 (.arr 1 [[.ptr 0 0 0]]) rfl (λH2 h=>?_) (c:=.and (.le 1 1) (.le 1 1)) (v:=.un) ?_ rfl rfl rfl (by
  intro i hi;rw[He]at hi;subst hi;exact AQ _ _ ⟨_,rfl,rfl⟩) (by simp) ?_
 ·have h2:H2[7]? = some (CObj.arr 1 [[CV.nilp]]):=h;simp only[exec,go_sem,h2]
 ·exact⟨Gv _,Gv _⟩
 simp -implicitDefEqProofs only[vdz,go_sem,JY,frz,ren,JB,Gc,Gd,GH,Gq,GD,if_true,if_false];refine vr_wkE (i:=1) (z:=1) (els':=gz (Gh t.nodes.length [])) rfl (by simp[gz]) (λj a b h1 h2=>?_) ?_
 ·rw[Gz]at h1;simp only[gz,List.map_replicate,Gz]at h2
  split at h1
  ·rename_i hj;rw[if_pos hj]at h2
   cases h1;cases h2
   exact⟨wk.nils,trivial⟩
  ·cases h1
 simp -implicitDefEqProofs only[go_sem,Gc,Gd];refine JcL (H':=nfH t of (upZ t 0) (fiZ t o 0) []) (by rw[upZ_zero g,fiZ_zero];simp[nfH,bqz,iz]) ?_;simp -implicitDefEqProofs only[go_sem,Jb];refine Jv (I:=λj:Nat=>j<=t.nodes.length) (inv:=λj=>mkT 71 [(6,.ptr 7 0 0),(30,.rslc 5 (ndz t.nodes) none),(31,.int .i64 (t.nodes.length:Int)),(32,.int .i64 (j:Int))]) (hp:=λj=>nfH t of (upZ t j) (fiZ t o j) []) (μ:=λj=>t.nodes.length-j) 0 [0,1,2,3,4,5,6,7] (by omega) rfl ?_ nfH_ren ?_
 ·simp only[KY,Gj,Gl,ren,Jn];refine JM ?_;simp[K5,KX]
 ·intro j hj;by_cases Ab:j<t.nodes.length
  ·have d2:=dtT j t.nodes.length;have hg:=J3 Ab;simp -implicitDefEqProofs only[go_sem,nfH,d2,Jb,hg,Nd.cv]
   repeat refine anO ?_
   have fr:Ky 8 1 [[.int .i64 (j:Int)]] (nfH t of (upZ t j) (fiZ t o j) [.arr 1 [[.int .i64 (j:Int)]],.arr 5 [(nd t j).cv]])=nfH t of (upZ t j) (fiZ t o j) [.dead,.arr 5 [(nd t j).cv]]:=nfH_frz (id:=0);have fr2:Ky 9 5 [(nd t j).cv] (nfH t of (upZ t j) (fiZ t o j) [.dead,.arr 5 [(nd t j).cv]])=nfH t of (upZ t j) (fiZ t o j) [.dead,.dead]:=nfH_frz (id:=1);simp only[nfH,Nd.cv]at fr fr2;refine Jd (id:=8) (z:=1) (els:=[[.int .i64 (j:Int)]]) rfl rfl ?_;rw[fr];simp -implicitDefEqProofs only[go_sem,Xj,frz,Gj,Gl,GH,Gq,GD,if_true,if_false];refine Jd (id:=9) (z:=5) (els:=[(nd t j).cv]) rfl rfl ?_;simp only[Nd.cv];rw[fr2];simp -implicitDefEqProofs only[go_sem,Xj,frz,Gj,Gl,GH,Gq,GD,if_true,if_false];refine JQ [1,0,0,1,0,0,1,2] Jp (by decide +kernel) ?_;have I8:(iz (fiZ t o j)).length=t.nodes.length:=by rw[Jg,Ja4]
   have Oc:(iz (fiZ t o j)).getD j []=[.int .i64 ((fiZ t o j).getD j 0)]:=JH (by rw[Ja4];exact Ab);simp -implicitDefEqProofs only[go_sem,I8,Oc,iz_set]
   repeat refine anO ?_
   refine JV (backward (nd t j).kids) ?_;simp -implicitDefEqProofs only[go_sem];have BK:=(JeS ht Ab).kidn;refine JcL (H':=nfH t of (Xt (j:Int) (upZ t j) ((nd t j).kids.reverse.take 0)) ((fiZ t o j).set j (fiS o j (nd t j).kids 0)) [.dead,.dead]) rfl ?_;simp -implicitDefEqProofs only[go_sem];refine vr_rfuncJ (xs:=bks (nd t j).kids) (Γ:=Unit) (λs _=>True) (λs _=>nfH t of (Xt (j:Int) (upZ t j) ((nd t j).kids.reverse.take s)) ((fiZ t o j).set j (fiS o j (nd t j).kids s)) [.dead,.dead]) () trivial rfl rfl rfl rfl c73_ok nm (backward1 _ (by omega)) (by simp[bks]) rfl ?_ ?_
   ·intro s _ c _ hc;have Dr:s<(nd t j).kids.length:=by
     have:=(GG.1 hc).1;rwa [Je8]at this
    rw[bks_get Dr]at hc
    cases hc
    have D6:s<(nd t j).kids.reverse.length:=by rw[List.length_reverse];exact Dr
    have Al:(nd t j).kids.reverse.take (s+1)=(nd t j).kids.reverse.take s++[(nd t j).kids.reverse.getD s 0]:=by
     rw[List.take_succ_eq_append_getElem D6,Gb,Gx D6];rfl
    have AC:(nd t j).kids.reverse.getD s 0∈(nd t j).kids:=by
     rw[Gb,Gx D6,Gp,<-List.mem_reverse];exact Hl D6
    have jk:=g.kid Ab AC;have Fw:fiS o j (nd t j).kids (s+1)=fs o ((nd t j).kids.reverse.getD s 0):=by unfold fiS;rw[iN7,Nat.add_sub_cancel]
    generalize (nd t j).kids.reverse.getD s 0=k at *;obtain⟨c,rfl⟩:∃c:Nat,k=c:=⟨k.toNat,by omega⟩;have dZ:(iz (Xt (j:Int) (upZ t j) ((nd t j).kids.reverse.take s))).length=t.nodes.length:=by rw[Jg,Jbl,JcP]
    have A7:(iz ((fiZ t o j).set j (fiS o j (nd t j).kids s))).length=t.nodes.length:=by rw[Jg,GK,Ja4]
    have Fu:∀x:Nat,x<t.nodes.length->(iz ((fiZ t o j).set j (fiS o j (nd t j).kids s))).getD x []=[.int .i64 (if x=j then fiS o j (nd t j).kids s else(fiZ t o j).getD x 0)]:=λx hx=>by
     rw[JH (by rw[GK,Ja4];exact hx),Gb,List.getElem?_set];by_cases e:j=x
     ·subst e;simp[Ja4,hx]
     ·rw[if_neg e,if_neg (λh=>e h.symm),<-Gb]
    have EU:=Fu c (by omega);have BD:=Fu j Ab;rw[iN7,fiZ_get (by omega) (by omega)]at EU;rw[if_pos rfl]at BD;have d9:(iz (Xt (j:Int) (upZ t j) ((nd t j).kids.reverse.take s))).getD c []=[.int .i64 ((Xt (j:Int) (upZ t j) ((nd t j).kids.reverse.take s)).getD c 0)]:=JH (by rw[Jbl,JcP];omega);simp -implicitDefEqProofs only[go_sem,nfH];refine JQ [1,0,0,1,0,1,0,0,1,0,0,1,0,0,1,0,1,1,1,2,1,2] Jp (by decide +kernel) ?_;simp -implicitDefEqProofs only[go_sem,dZ,A7,EU,BD,d9,iz_set]
    repeat refine anO ?_
    rw[Al,JbP,Fw,List.set_set];exact⟨(),rfl⟩
   ·intro _ _;rw[Je8,GU (by simp),<-upZ_succ g Ab,fiZ_succ g Ab];simp -implicitDefEqProofs only[go_sem];refine⟨Jh,j+1,[0,1,2,3,4,5,6,7],by omega,by omega,rfl,nfH_ren,?_⟩;simp only[ren,Jn];refine JM ?_;simp[K5,KX]
  ·have d2:=dfF j t.nodes.length;obtain rfl:j=t.nodes.length:=by omega
   simp -implicitDefEqProofs only[go_sem,nfH,d2];exact nfH_end rfl
end
end
section
theorem fn_fnl {P:Program}{f:Nat}{args:List CV}{v0:CV}(h:CallsC P Env.none f args [] λv H'=>Fnl 0 v0 [] v H')(ha:Jm args=true)(hv:v0.closed=true):Fn P f args v0:=
 Jhf ((CallsC.fnl h).mono λ_ _ h=>h.1) ha hv
theorem Fnl.drop {v v0:CV}{H:List CObj}(hc:v.closed=true)(hw:wk v v0):Fnl 0 v0 [] v H:=by
 refine .ren [] rfl ?_;rw[Y0 v hc];exact .done hw
def JhC (t:Tr)(o:List Int):CV:=if (XL t o).2≠0 then .tup [.agg [.nils],.int .i64 ((XL t o).1:Int),.int .i64 (XL t o).2] else match (JX t o).bad with
 |some i=>.tup [.agg [.nils],.int .i64 (i:Int),.int .i64 11]
 |none=>.tup [.agg [.rslc 1 (gz (JX t o).got) none],.int .i64 0,.int .i64 0]
def cpG (got:List TL)(n j:Nat):List TL:=(Gm n).map λx=>if x<j then Ju got x else []
theorem cpG_len {got:List TL}{n j:Nat}:(cpG got n j).length=n:=by simp[cpG]
theorem cpG_set {got:List TL}{n j:Nat}:(cpG got n j).set j (Ju got j)=cpG got n (j+1):=by
 refine G7 (by simp[cpG]) λx h1 h2=>?_
 rw[List.getElem_set];simp only[cpG,G6,GX];by_cases e:j=x
 ·subst e;simp
 ·rw[if_neg e];by_cases h:x<j
  ·rw[if_pos h,iP7]
  ·rw[if_neg h,iN7]
theorem cpG_all {got:List TL}{n:Nat}(h:got.length=n):cpG got n n=got:=by
 refine G7 (by simp[cpG,h]) λx h1 h2=>?_
 simp only[cpG,G6,GX];rw[if_pos (by simpa [cpG]using h1)];unfold Ju;rw[Gb,Gx h2];rfl
theorem nf_in {K:FT0}{S:FS}{x:CV}(hx:x.closed=true):Kq [1,2,3,4,5,0] (Jaz [] 1 0 (hpF K S []) [.arr 1 [[x]]])=hpF K S [.arr 1 [[x]]]:=by
 have h1:=JdQ (τ:=tau [] 1) (z:=1) (Qu S.got);have h2:=JdQ (τ:=tau [] 1) (z:=1) (QI S.dn);have h3:∀l:List (Nat×Bool),moO (tau [] 1) (.map (kz l))=.map (kz l):=λl=>by
  show CObj.map ((kz l).map λp=>(mo _ p.1,mo _ p.2))=_;unfold kz;rw[List.map_map];rfl
 have e:Jaz [] 1 0 (hpF K S []) [.arr 1 [[x]]]=[.arr 1 [[x]],moO (tau [] 1) (.arr 11 [fRow K S.bad]),.arr 1 (gz S.got),.arr 1 (bqz S.dn),.map (kz S.fd),.map (kz S.fg)]:=by
  rw[<-h1,<-h2,<-h3 S.fd,<-h3 S.fg];rfl
 rw[e];show [XM _ (moO (tau [] 1) (.arr 11 [fRow K S.bad])),XM _ (.arr 1 (gz S.got)),XM _ (.arr 1 (bqz S.dn)),XM _ (.map (kz S.fd)),XM _ (.map (kz S.fg)),XM _ (.arr 1 [[x]])]=_;have h4:∀l:List (Nat×Bool),XM [1,2,3,4,5,0] (.map (kz l))=.map (kz l):=λl=>by rw[JgN,ren_kz]
 rw[h4,h4];simp only[XM];rw[Jc (Qu _),Jc (QI _)];have h5:JB [1,2,3,4,5,0] [x]=[x]:=by simp only[JB,Y0 x hx]
 simp only[Gj,Gl,h5];rfl
theorem in_ren {K:FT0}{S:FS}{got:List TL}{n:Nat}:Kq [0,1,2,3,4,5,6] (hpF K S [.arr 1 [[.slc 6 0 n (some n)]],.arr 1 (gz got)])=hpF K S [.arr 1 [[.slc 6 0 n (some n)]],.arr 1 (gz got)]:=by
 refine Qd ?_;show [XM _ (.arr 1 [[.slc 6 0 n (some n)]]),XM _ (.arr 1 (gz got))]=_;simp only[XM];rw[Jc (Qu _)];rfl
section
variable {t:Tr}{o:List Int}(g:GoodT t o)(ht:t.Fit)
include g ht
omit ht in
theorem in_pre {S':FS}{j:Nat}(hj:j<t.nodes.length)(hd:S'.bad=none->∀k,k<j->S'.dn.getD (0+k) false=true):JhE t o S' j:=λhb=>by
 have BF:=hd hb;refine⟨λc hc=>?_,λv hv Cj Ol _=>?_⟩
 ·have Ay:=(JR g hj hc).2;have:=BF c (by omega);rw[Gr]at this;exact this
 ·have:=BF v (by omega);rw[Gr]at this;exact this
theorem Jae:Fn Gs 23 [t.cv] (JhC t o):=by
 have Aj:=g.many;have hR:=nResolve g ht;refine fn_fnl ?_ rfl (by unfold JhC;split;rfl;split <;> rfl);refine vfS c23_ok λN=>?_
 simp only[c23,go_sem,Tr.cv,Tr.row];refine JV hR ?_;by_cases hE:(XL t o).2=0
 ·rw[if_pos hE];simp only[go_sem];refine Jd (id:=0) (z:=2) (els:=[t.row]) rfl rfl ?_;simp only[go_sem,Tr.row];refine Jd (id:=2) (z:=1) (els:=[[.rslc 1 (iz (ofL t o)) none]]) rfl rfl ?_;simp only[go_sem];refine vr_ren [1] rfl ?_;simp only[go_sem];refine JcL (H':=[.arr 1 [[.nils]]]) rfl ?_;simp only[go_sem,JY,frz,ren,JB,GH,Gq,GD,if_true,if_false,Jn];have hI:=Jg4 g hE;have Ez:∀j,(KQ 0 (j+1)).foldl (doF t o (mnF t o) (t.nodes.length+1)) (FS.start t)=doF t o (mnF t o) (t.nodes.length+1) ((KQ 0 j).foldl (doF t o (mnF t o) (t.nodes.length+1)) (FS.start t)) j:=λj=>by
   rw[JaN,GY,Gr];rfl
  have Ak:(KQ 0 t.nodes.length).foldl (doF t o (mnF t o) (t.nodes.length+1)) (FS.start t)=JX t o:=by
   unfold JX KQ
   congr 1
   exact List.map_congr_left (λx _=>Gr x) |>.trans (List.map_id _)
  have Sz:Ln (FS.start t).got:=λj=>by
   unfold FS.start Ju;simp only[Gb,Gz]
   split <;> simp
  have BR:=λj=>JgD ht (o:=o) (S:=FS.start t) Sz (t.nodes.length+1) (KQ 0 j)
  have Pi:uf t (FS.start t)<=t.nodes.length:=by
   unfold uf;have:=List.length_filter_le (λs=>!J7 (FS.start t).fg s) (Gm t.nodes.length);rw[List.length_range]at this;exact this
  refine vr_locE [] (.inl rfl) (newFinder g ht (ofL t o)) rfl rfl rfl (v2:=.ptr 1 0 0) rfl rfl ?_;simp only[go_sem,Jb,Gf,Gg,Gr];refine Jv (I:=λj:Nat=>j<=t.nodes.length) (inv:=λj=>mkT 67 [(1,.rptr [.rslc 5 (ndz t.nodes) none,.rslc 1 (iz t.items) none]),(2,.ptr 5 0 0),(6,.ptr 0 0 0),(25,.int .i64 (t.nodes.length:Int)),(26,.int .i64 (j:Int))]) (hp:=λj=>hpF (fK t o) ((KQ 0 j).foldl (doF t o (mnF t o) (t.nodes.length+1)) (FS.start t)) [.arr 1 [[.nils]]]) (μ:=λj=>t.nodes.length-j) 0 [1,2,3,4,5,0] (by omega) rfl ?_ (nf_in rfl) ?_
  ·simp only[KY,Gj,Gl,ren,Jn];refine JM ?_;simp[K5,KX]
  ·intro j hj;obtain⟨q1,q2,q3,q4⟩:=hI j hj;have O6:=BR j;by_cases Ab:j<t.nodes.length
   ·have d2:=dtT j t.nodes.length;have hW:=lawDo g ht hE (t.nodes.length+1) _ j q1 q2 O6 Ab (in_pre g Ab q4) (by rw[uf_eq q3];omega);rw[<-Ez]at hW;simp only[go_sem,d2];refine Ku hW (.inl rfl) rfl rfl rfl rfl ?_;simp only[go_sem];refine⟨Jh,j+1,[0,1,2,3,4,5],by omega,by omega,rfl,Qd rfl,?_⟩;simp only[ren,Jn];refine JM ?_;simp[K5,KX]
   ·have d2:=dfF j t.nodes.length;obtain rfl:j=t.nodes.length:=by omega
    have Cs:JhC t o=match (JX t o).bad with
     |some i=>.tup [.agg [.nils],.int .i64 (i:Int),.int .i64 11]
     |none=>.tup [.agg [.rslc 1 (gz (JX t o).got) none],.int .i64 0,.int .i64 0]:=by
      unfold JhC;rw[if_neg (λh=>h hE)]
    rw[Ak]at q1 O6|-;have A7:=q1.gl;have iC:∀x,X6 (Ju (JX t o).got x)=true:=q1.fine;generalize JX t o=SI at *;obtain⟨got,dn,fd,fg,bad⟩:=SI
    dsimp only at A7 O6 Cs iC
    cases bad with
    |some i=>
     rw[Cs];simp only[go_sem,d2,hpF,fRow,fK,Gn,Gp];refine JQ [0,0,0,0,4,2005,0,0] Jp (by decide +kernel) ?_;simp only[go_sem,JhF (show 1000<=2005 by decide)];refine vy_set 5 (.arr 1 [[.nils]]) (.inl rfl) (c:=.and (.le 1 1) (.le 1 1)) (v:=.un) (λH2 h=>?_) ⟨Gv _,Gv _⟩ (by simp) ?_
     ·have h2:H2[5]? = some (CObj.arr 1 [[CV.nils]]):=h;simp only[exec,go_sem,h2]
     simp only[go_sem,Gc,Gd];exact Fnl.drop rfl (wk.refl _)
    |none=>
     rw[Cs];simp only[go_sem,d2,hpF,fRow,fK,Gu,Gw,Jb];have Z8:(gz got).length=t.nodes.length:=by rw[X5,A7]
     have Ay:∀j,(gz (cpG got t.nodes.length j)).length=t.nodes.length:=λj=>by rw[X5,cpG_len]
     refine⟨⟨by omega,by omega,by omega,by omega⟩,?_⟩;refine vr_wkE (i:=6) (z:=1) (els':=gz (cpG got t.nodes.length 0)) rfl (by rw[Ay];simp) (λj a b h1 h2=>?_) ?_
     ·rw[Gz]at h1;have e:gz (cpG got t.nodes.length 0)=Gh t.nodes.length [txV []]:=by simp[gz,cpG,List.map_const']
      rw[e,Gz]at h2
      split at h1
      ·rename_i hj;rw[if_pos hj]at h2
       cases h1;cases h2
       exact⟨wk.nils,trivial⟩
      ·cases h1
     simp only[go_sem,Gc,Gd];refine Jv (I:=λj:Nat=>j<=t.nodes.length) (inv:=λj=>mkT 67 [(2,.ptr 5 0 0),(6,.ptr 0 0 0),(49,.int .i64 (t.nodes.length:Int)),(50,.int .i64 (j:Int))]) (hp:=λj=>hpF (fK t o) ⟨got,dn,fd,fg,none⟩ [.arr 1 [[.slc 6 0 t.nodes.length (some t.nodes.length)]],.arr 1 (gz (cpG got t.nodes.length j))]) (μ:=λj=>t.nodes.length-j) 0 [0,1,2,3,4,5,6] (by omega) rfl ?_ (in_ren (K:=fK t o) (S:=⟨got,dn,fd,fg,none⟩)) ?_
     ·simp only[KY,Gj,Gl,ren,Jn];refine JM ?_;simp[K5,KX]
     ·intro j hj;by_cases Ab:j<t.nodes.length
      ·have d3:=dtT j t.nodes.length;have BD:=QW (l:=got) (i:=j) (by omega);have gU:=QW (l:=cpG got t.nodes.length j) (i:=j) (by rw[cpG_len];exact Ab);have hC:=cloneTx (l:=Ju got j) (by have:=O6 j;omega);have BB:(gz (cpG got t.nodes.length j)).set j [.rslc 1 (txz (Ju got j)) none]=gz (cpG got t.nodes.length (j+1)):=by rw[<-cpG_set,<-gz_set];rfl
       simp only[go_sem,d3,hpF,fRow,fK];refine JQ [0,1,0,0,0,0,1,0,1,1,0,1,2] Jp (by decide +kernel) ?_;simp only[go_sem,Z8,BD]
       repeat refine anO ?_
       refine Jgh (.inl rfl) hC ?_;simp only[go_sem,txV,Ay,gU,Gf,Gg,BB]
       repeat refine anO ?_
       refine⟨Jh,j+1,[0,1,2,3,4,5,6],by omega,by omega,rfl,in_ren (K:=fK t o) (S:=⟨got,dn,fd,fg,none⟩),?_⟩;simp only[ren,Jn];refine JM ?_;simp[K5,KX]
      ·have d3:=dfF j t.nodes.length;obtain rfl:j=t.nodes.length:=by omega
       rw[cpG_all A7];simp only[go_sem,d3,hpF,fRow,fK];have hz:frz 6 1 (gz got) (.tup [.agg [.slc 6 0 t.nodes.length (some t.nodes.length)],.int .i64 0,.int .i64 0])=.tup [.agg [.rslc 1 (gz got) none],.int .i64 0,.int .i64 0]:=by
        simp only[frz,JY,if_true,Gr,Gq];rw[iP7,GU (by omega)]
       refine .frz 6 1 (gz got) rfl (Qu _) ?_;rw[hz];exact Fnl.drop rfl (wk.refl _)
 ·rw[if_neg hE];have e:JhC t o=.tup [.agg [.nils],.int .i64 ((XL t o).1:Int),.int .i64 (XL t o).2]:=by unfold JhC;rw[if_pos hE]
  have d1:((XL t o).2 != 0)=true:=by simpa using hE
  rw[e];simp only[go_sem,d1];exact Fnl.drop rfl (wk.refl _)
end
end
end Go.Cm
end
end
