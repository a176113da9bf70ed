/-
  A part of the proof. Conditions: none.
-/
import Derived.Test.YtejfnfphmkjffaaGreatDoorUT2
set_option linter.unusedSimpArgs false
set_option linter.unusedVariables false
open Int renaming cast_ofNat_Int->Ga,toNat_natCast->Gi
open List renaming getD_eq_getElem?_getD->Gb,set_cons_zero->Gc,set_cons_succ->Gd,length_cons->Gf,length_nil->Gg,replicate->Gh,getElem?_eq_getElem->Gx,map_cons->Gj,map_nil->Gl,drop_zero->Gq,range->Gm,getElem?_replicate->Gz,getElem?_eq_some_iff->GG,getD_cons_zero->GH,mem_range->GA,all_eq_false->GI,length_take->GJ,take_of_length_le->GU,length_set->GK,take_zero->GL,drop_succ_cons->GV,getElem_range->GX,foldl_append->GY,mem_map->GM,not_mem_nil->GZ,length_drop->G5,getElem_map->G6,ext_getElem->G7,getElem?_take_of_lt->Ha,mem_cons->G8,getElem?_eq_none->Hd,mem_singleton->He,isEmpty_nil->Hf,isEmpty_iff->Hg,getElem_mem->Hl,range_succ->Hm,nil_append->Ho,append_nil->Hq,all_append->Hr,all_cons->Ht,all_nil->Hu
open Bool renaming and_true->Gt,true_and->Gy,false_and->GN,not_false->G9,not_true->Hw,false_or->Hy,true_or->Hz
open Nat renaming zero_add->Gr,le_refl->Gv,le_of_ble_eq_true->GQ,reduceEqDiff->GD,sub_zero->GR
open Go.Proofs.Tryz renaming prog->Gs
open Option renaming isSome_some->Gn,getD_some->Gp,isSome_none->Gu,getD_none->Gw,isSome_iff_exists->HV
noncomputable section
section
set_option maxRecDepth 100000
set_option maxHeartbeats 4000000
open Go.Proofs
namespace Go.Cm
section
section
variable {K:FT0}{Z:FS}{o:List Int}(g:GoodT K.t o)(ht:K.t.Fit)
include g ht
omit ht in
theorem great1 {i m:Nat}(hi:i<K.t.nodes.length)(hk:19<=(nd K.t i).k/\(nd K.t i).k<=25)(hl:Z.got.length=K.t.nodes.length)(hf:∀j,Yd (JG Z.got j)=true):Ans K Z 93 [.int .i64 (i:Int)] (Xp K.t m Z.got i):=by
 have Ai:=g.many;have hg:=JY hi;have A9:(gz Z.got).length=K.t.nodes.length:=by rw[Yl,hl]
 have hp:=JfE g hi (Jbi g hi (.inl hk));have Ay:(nd K.t i).kids.length=1:=by rw[hp];rfl
 have h0:=JF g hi (i:=0) (by omega);have k0:=Jdn g (got:=Z.got) hi (j:=0) (by omega) (Kk g hi (by omega));rw[Gi]at k0;have Cs:=Jcf g hi;generalize gV:JL K.t i 0=a at *;have Am:a<K.t.nodes.length:=by omega
 have F8:=XA (l:=Z.got) (i:=a) (by omega);have hB:=λw=>fmAre (K:=K) (Z:=Z) (w:=tyT w) (ks:=[(a:Int)]) hl (by simp;omega) (by simp)
 simp only[Jal,Gi]at hB;have iP:=hB .int;have O3:=hB .bool;have Sb:=JfQ (K:=K) Am hl (hf a);have aK:=fmArrayed (K:=K) Am hl (hf a);clear hB;rcases (show (nd K.t i).k=19\/(nd K.t i).k=20\/(nd K.t i).k=21\/(nd K.t i).k=23\/(nd K.t i).k=24\/(nd K.t i).k=22\/(nd K.t i).k=25 by omega) with hk|hk|hk|hk|hk|hk|hk
 ·refine Ans.of (txV [.bool]) (by rw[JS,hk,rk_not,k0]) rfl (λ_=>rfl) ?_;refine J5 (vfS c93_ok λN=>?_);simp -implicitDefEqProofs only[c93,go_sem,hpF,fRow,Jb,hg,Nd.cv,hk,hp,Ga]
  repeat refine anO ?_
  refine Kt O3 (.inl rfl) rfl rfl rfl rfl ?_;simp -implicitDefEqProofs only[go_sem];exact .one 1 rfl rfl rfl (wk.refl _)
 ·refine Ans.of (txV [.int]) (by rw[JS,hk,rk_neg,k0]) rfl (λ_=>rfl) ?_;refine J5 (vfS c93_ok λN=>?_);simp -implicitDefEqProofs only[c93,go_sem,hpF,fRow,Jb,hg,Nd.cv,hk,hp,Ga]
  repeat refine anO ?_
  refine Kt iP (.inl rfl) rfl rfl rfl rfl ?_;simp -implicitDefEqProofs only[go_sem];exact .one 1 rfl rfl rfl (wk.refl _)
 ·refine Ans.of (.rslc 1 [[S (opT (prt (Qm (JG Z.got a))))]] none) (by rw[JS,hk,rk_head,k0]) rfl (λh=>?_) ?_
  ·obtain⟨e,he⟩:=Jes.1 h;rw[he];rfl
  refine J5 (vfS c93_ok λN=>?_);simp -implicitDefEqProofs only[c93,go_sem,hpF,fRow,Jb,hg,Nd.cv,hk,hp,Ga,Ki,Xm,Gf,Gg]
  repeat refine anO ?_
  refine Kt Sb (.inl rfl) rfl rfl rfl rfl ?_;simp -implicitDefEqProofs only[go_sem,hpF];exact .one 1 rfl rfl rfl (wk.refl _)
 ·refine Ans.of (txV [.bool]) (by rw[JS,hk,Jgm,k0]) rfl (λ_=>rfl) ?_;refine J5 (vfS c93_ok λN=>?_);simp -implicitDefEqProofs only[c93,go_sem,hpF,fRow,Jb,hg,Nd.cv,hk,hp,Ga,Ki,Xm,Gf,Gg]
  repeat refine anO ?_
  refine Kt Sb (.inl rfl) rfl rfl rfl rfl ?_;simp -implicitDefEqProofs only[go_sem,hpF];exact .one 1 rfl rfl rfl (wk.refl _)
 ·refine Ans.of (txV [.int]) (by rw[JS,hk,rk_size,k0]) rfl (λ_=>rfl) ?_;refine J5 (vfS c93_ok λN=>?_);simp -implicitDefEqProofs only[c93,go_sem,hpF,fRow,Jb,hg,Nd.cv,hk,hp,Ga,Ki,Xm,Gf,Gg]
  repeat refine anO ?_
  refine Kt aK (.inl rfl) rfl rfl rfl rfl ?_;simp -implicitDefEqProofs only[go_sem,hpF];exact .one 1 rfl rfl rfl (wk.refl _)
 ·refine Ans.of (txV (JG Z.got a)) (by rw[JS,hk,rk_tail,k0]) rfl (λ_=>rfl) ?_;refine J5 (vfS c93_ok λN=>?_);simp -implicitDefEqProofs only[c93,go_sem,hpF,fRow,Jb,hg,Nd.cv,hk,hp,Ga,Ki,Xm,Gf,Gg]
  repeat refine anO ?_
  refine Kt Sb (.inl rfl) rfl rfl rfl rfl ?_;simp -implicitDefEqProofs only[go_sem,hpF,fRow];refine Kj [0,0,0,1,0,0,0,1,1,0,0,0] Js (by decide +kernel) ?_;simp -implicitDefEqProofs only[go_sem,F8,A9,Gf,Gg]
  repeat refine anO ?_
  exact .out (wk.refl _) rfl
 ·obtain⟨_,_,q3,q4⟩:=Cs (.inl hk);have Cz:=JdW (t:=K.t) (i:=a) (by omega);refine Ans.of (b:=true) (l:=[.str (tyN K.t a)]) (txV [.str (tyN K.t a)]) (by rw[JS,hk,rk_nil,gV];rfl) rfl (λ_=>rfl) ?_;refine J5 (vfS c93_ok λN=>?_);simp -implicitDefEqProofs only[c93,go_sem,hpF,fRow,Jb,hg,Nd.cv,hk,hp,Ga,Ki,Xm,Gf,Gg]
  repeat refine anO ?_
  refine Kt (XC g a Am q3 q4) (.inl rfl) rfl rfl rfl rfl ?_;simp -implicitDefEqProofs only[go_sem];refine J6 (JdV _ (by omega)) ?_;simp -implicitDefEqProofs only[go_sem,hpF];exact .one 1 rfl rfl rfl (wk.refl _)
theorem great2 {i m:Nat}(hi:i<K.t.nodes.length)(hk:26<=(nd K.t i).k/\(nd K.t i).k<=29)(hl:Z.got.length=K.t.nodes.length)(hf:∀j,Yd (JG Z.got j)=true)(Cq:Ln Z.got)(Be:K.of.length=K.t.nodes.length)(hm:(nd K.t i).k=26->K.of.getD i 0=(m:Int)/\m<K.t.nodes.length/\(nd K.t m).k=65):Ans K Z 93 [.int .i64 (i:Int)] (Xp K.t m Z.got i):=by
 have Ai:=g.many;have hg:=JY hi;have A9:(gz Z.got).length=K.t.nodes.length:=by rw[Yl,hl]
 have Ak:(iz (nd K.t i).kids).length=(nd K.t i).kids.length:=Jg;have BJ:=(JdN ht hi).kidn;have hK:∀j,j<(nd K.t i).kids.length->∃c:Nat,(iz (nd K.t i).kids).getD j []=[.int .i64 (c:Int)]/\c<K.t.nodes.length/\KK K.t Z.got i j=JG Z.got c:=λj hj=>by
  have h1:=JF g hi (i:=j) hj;exact⟨JL K.t i j,by rw[JN hj,Kk g hi hj],by omega,by rw[Jdn g hi hj (Kk g hi hj),Gi]⟩
 have hB:=λ(c:Nat) (hc:c<K.t.nodes.length)=>fmAre (K:=K) (Z:=Z) (w:=tyT .bool) (ks:=[(c:Int)]) hl (by simp;omega) (by simp)
 simp only[Jal,Gi]at hB;rcases (show (nd K.t i).k=26\/(nd K.t i).k=27\/(nd K.t i).k=28\/(nd K.t i).k=29 by omega) with hk|hk|hk|hk
 ·obtain⟨m1,m2,m3⟩:=hm hk;obtain⟨x,Bc,Bd,hC⟩:=fmCall g ht (Z:=Z) hi hk Be m1 m2 m3 hl;refine⟨x,Bc,Bd,?_⟩;refine J5 (vfS c93_ok λN=>?_);simp -implicitDefEqProofs only[c93,go_sem,hpF,fRow,Jb,hg,Nd.cv,hk,Ga]
  repeat refine anO ?_
  refine Kt hC (.inl rfl) rfl rfl rfl (by simp only[CV.closed,Jp,Bc,Gt]) ?_;simp -implicitDefEqProofs only[go_sem];exact .out (wk.refl _) (by simp only[CV.closed,Jp,Bc,Gt])
 ·have h3:=kids_if g hi hk;obtain⟨a,a1,a2,a3⟩:=hK 0 (by omega);obtain⟨b,b1,b2,b3⟩:=hK 1 (by omega);obtain⟨c,c1,c2,c3⟩:=hK 2 (by omega);rw[h3]at Ak;have F8:=XA (l:=Z.got) (i:=a) (by omega);have Ud:=XA (l:=Z.got) (i:=b) (by omega);have DT:=XA (l:=Z.got) (i:=c) (by omega);have hE:=equalTx (JG Z.got b) (JG Z.got c) (by have:=Cq b;omega);refine Ans.of (txV (JG Z.got b)) (by rw[JS,hk,rk_if,a3,b3,c3]) rfl (λ_=>rfl) ?_;refine J5 (vfS c93_ok λN=>?_);simp -implicitDefEqProofs only[c93,go_sem,hpF,fRow,Jb,hg,Nd.cv,hk,Ga]
  repeat refine anO ?_
  refine Kj [0,0,0,1,0,0,0,1,1,0,0,0,0,0,1,0,0,0,0,1,0,0,0,1,1,0,0,0,1,0,0,0,1,1,0,0,0,0] Js (by decide +kernel) ?_;simp -implicitDefEqProofs only[go_sem,Ak,a1,b1,Ud,A9]
  repeat refine anO ?_
  refine vy_row (iz [(a:Int)]) (.inl rfl) rfl rfl rfl rfl ?_;simp -implicitDefEqProofs only[go_sem];refine vy_p (.inl rfl) ((hB a a2).on rfl rfl) ?_
  cases hx:(JG Z.got a == [TyX.bool]) with
  |false=>
   simp -implicitDefEqProofs only[go_sem,GN];exact .out (wk.refl _) rfl
  |true=>
   simp -implicitDefEqProofs only[go_sem,Ak,b1,c1,Ud,DT,A9,Gy]
   repeat refine anO ?_
   refine vy_f (gok rfl) hE ?_;simp -implicitDefEqProofs only[go_sem];exact .out (wk.refl _) rfl
 ·obtain⟨n,b,n1,n2,n3,_⟩:=Yj g hi hk;change (nd K.t i).n=n at n1;change b<(nd K.t i).kids.length at n3;obtain⟨a,a1,a2,a3⟩:=hK n (by omega);obtain⟨c,c1,c2,c3⟩:=hK ((nd K.t i).kids.length-1) (by omega);have DT:=XA (l:=Z.got) (i:=c) (by omega);refine Ans.of (txV (JG Z.got c)) (by rw[JS,hk,rk_loop,n1,Gi,a3,c3]) rfl (λ_=>rfl) ?_;refine J5 (vfS c93_ok λN=>?_);simp -implicitDefEqProofs only[c93,go_sem,hpF,fRow,Jb,hg,Nd.cv,hk,Ga]
  repeat refine anO ?_
  refine Kj [0,0,0,1,0,0,0,0,0,0,1,1,0,0,0,1,0,0,0,1,0,0] Js (by decide +kernel) ?_;simp -implicitDefEqProofs only[go_sem,Ak,c1,DT,A9,n1,a1]
  repeat refine And.intro (by first|omega|exact⟨by omega,by omega⟩|exact Jh) ?_
  refine vy_row (iz [(a:Int)]) (.inl rfl) rfl rfl rfl rfl ?_;simp -implicitDefEqProofs only[go_sem];refine vy_p (.inl rfl) ((hB a a2).on rfl rfl) ?_;simp -implicitDefEqProofs only[go_sem];exact .out (wk.refl _) rfl
 ·obtain⟨x,Bc,Bd,hC⟩:=fmCells g ht (m:=m) hi hk hl hf;refine⟨x,Bc,Bd,?_⟩;refine J5 (vfS c93_ok λN=>?_);rw[Nd.cv,hk]at hC;simp -implicitDefEqProofs only[c93,go_sem,hpF,fRow,Jb,hg,Nd.cv,hk,Ga]
  repeat refine anO ?_
  refine Kt hC (.inl rfl) rfl rfl rfl (by simp only[CV.closed,Jp,Bc,Gt]) ?_;simp -implicitDefEqProofs only[go_sem];exact .out (wk.refl _) (by simp only[CV.closed,Jp,Bc,Gt])
end
end
section
theorem gvn_drop {t:Tr}{o:List Int}(g:GoodT t o){got:List TL}{i n:Nat}(hi:i<t.nodes.length):gvn got ((nd t i).kids.drop n)=Yn ((Gm ((nd t i).kids.length-n)).map λj=>KK t got i (n+j)):=by
 unfold gvn
 congr 1
 refine G7 (by simp) λj h1 h2=>?_
 simp only[List.length_map,G5]at h1;simp only[G6,List.getElem_drop,GX];have h3:=Jdn g (got:=got) hi (j:=n+j) (by omega) (Kk g hi (by omega));have h4:(nd t i).kids[n+j]=(nd t i).kids.getD (n+j) 0:=by rw[Gb,Gx (by omega)];rfl
 rw[h3,h4,Kk g hi (by omega)]
section
variable {K:FT0}{Z:FS}{o:List Int}(g:GoodT K.t o)(ht:K.t.Fit)
include g ht
theorem part1 {i m:Nat}(hi:i<K.t.nodes.length)(hk:30<=(nd K.t i).k/\(nd K.t i).k≠41)(hl:Z.got.length=K.t.nodes.length)(hf:∀j,Yd (JG Z.got j)=true)(Cq:Ln Z.got)(Be:K.of.length=K.t.nodes.length)(hm:(nd K.t i).k=44->K.of.getD i 0=(m:Int)/\m<K.t.nodes.length):Ans K Z 94 [.int .i64 (i:Int)] (Xp K.t m Z.got i):=by
 have Ai:=g.many;have hg:=JY hi;have A9:(gz Z.got).length=K.t.nodes.length:=by rw[Yl,hl]
 have Ak:(iz (nd K.t i).kids).length=(nd K.t i).kids.length:=Jg;have BJ:=(JdN ht hi).kidn;have Cs:=Jcf g hi;have hK:∀j,j<(nd K.t i).kids.length->∃c:Nat,(iz (nd K.t i).kids).getD j []=[.int .i64 (c:Int)]/\c<K.t.nodes.length/\KK K.t Z.got i j=JG Z.got c/\JL K.t i j=c:=λj hj=>by
  have h1:=JF g hi (i:=j) hj;exact⟨JL K.t i j,by rw[JN hj,Kk g hi hj],by omega,by rw[Jdn g hi hj (Kk g hi hj),Gi],rfl⟩
 have Mg:∀k∈(nd K.t i).kids,0<=k/\k<K.t.nodes.length:=λk hk=>by have:=g.kid hi hk;omega
 by_cases Eb:(nd K.t i).k=40
 ·obtain⟨n,n1,n2,_⟩:=block_kids g hi Eb;change (nd K.t i).n=n at n1;change n<=(nd K.t i).kids.length at n2;obtain⟨x,Bc,Bd,hC⟩:=fmGiven (K:=K) (Z:=Z) (ks:=(nd K.t i).kids.drop n) hl (λk hk=>Mg k (List.mem_of_mem_drop hk)) (by rw[G5];omega);have Bi:(iz ((nd K.t i).kids.drop n)).take ((nd K.t i).kids.length-n)=iz ((nd K.t i).kids.drop n):=GU (by rw[Jg,G5];omega);have hr:Xp K.t m Z.got i=gvn Z.got ((nd K.t i).kids.drop n):=by
   rw[JS,Eb,rk_block,gvn_drop g hi,n1,Gi]
  rw[hr];refine⟨x,Bc,Bd,?_⟩;refine J5 (vfS c94_ok λN=>?_);simp -implicitDefEqProofs only[c94,go_sem,hpF,fRow,Jb,hg,Nd.cv,Eb,n1,Ga,Ak,drop_iz,Bi]
  repeat refine And.intro (by first|omega|exact⟨by omega,by omega⟩|exact⟨by omega,by omega,by omega⟩) ?_
  refine Kt hC (.inl rfl) rfl rfl rfl (by simp only[CV.closed,Jp,Bc,Gt]) ?_;simp -implicitDefEqProofs only[go_sem];exact .out (wk.refl _) (by simp only[CV.closed,Jp,Bc,Gt])
 by_cases aP:(nd K.t i).k=45
 ·obtain⟨x,Bc,Bd,hC⟩:=fmGiven (K:=K) (Z:=Z) (ks:=(nd K.t i).kids) hl Mg (by omega);have hr:Xp K.t m Z.got i=gvn Z.got (nd K.t i).kids:=by
   have:=gvn_drop g (got:=Z.got) (n:=0) hi;rw[Gq]at this;rw[JS,aP,rk_give,this];simp only[GR,Gr]
  rw[hr];refine⟨x,Bc,Bd,?_⟩;refine J5 (vfS c94_ok λN=>?_);simp -implicitDefEqProofs only[c94,go_sem,hpF,fRow,Jb,hg,Nd.cv,aP,Ga]
  repeat refine anO ?_
  refine Kt hC (.inl rfl) rfl rfl rfl (by simp only[CV.closed,Jp,Bc,Gt]) ?_;simp -implicitDefEqProofs only[go_sem];exact .out (wk.refl _) (by simp only[CV.closed,Jp,Bc,Gt])
 by_cases Cn:(nd K.t i).k=42
 ·have hB:=fmBare (K:=K) (Z:=Z) hi;by_cases hn:(nd K.t i).kids=[]
  ·rw[hn]at hB;refine Ans.of (b:=true) (l:=[]) (txV []) (by rw[JS,Cn,Jgn,if_pos hn];rfl) rfl (λ_=>rfl) ?_;refine J5 (vfS c94_ok λN=>?_);simp -implicitDefEqProofs only[c94,go_sem,hpF,fRow,Jb,hg,Nd.cv,Cn,Ga]
   repeat refine anO ?_
   refine Kt hB (.inl rfl) rfl rfl rfl rfl ?_;simp -implicitDefEqProofs only[go_sem,Hf];exact .out (YO ⟨wk.nils,wk.refl _,trivial⟩) rfl
  ·obtain⟨q1,q2,q3,q4⟩:=Cs (.inr (.inr ⟨Cn,hn⟩));obtain⟨a,a1,a2,a3,a4⟩:=hK 0 q1;rw[a4]at q3 q4;have Ah:(nd K.t i).kids.isEmpty=false:=by cases h:(nd K.t i).kids <;> simp_all
   rw[Ah]at hB;refine Ans.of (b:=true) (l:=[tyN K.t a]) (txV [tyN K.t a]) (by rw[JS,Cn,Jgn,if_neg hn,a4];rfl) rfl (λ_=>rfl) ?_;refine J5 (vfS c94_ok λN=>?_);simp -implicitDefEqProofs only[c94,go_sem,hpF,fRow,Jb,hg,Nd.cv,Cn,Ga]
   repeat refine anO ?_
   refine Kt hB (.inl rfl) rfl rfl rfl rfl ?_;simp -implicitDefEqProofs only[go_sem,Ak,a1];refine anO ?_;refine Kt (XC g a a2 q3 q4) (.inl rfl) rfl rfl rfl rfl ?_;simp -implicitDefEqProofs only[go_sem,hpF];exact .one 1 rfl rfl rfl (wk.refl _)
 by_cases Dq:(nd K.t i).k=64
 ·obtain⟨q1,q2,q3,q4⟩:=Cs (.inr (.inl (by omega)));obtain⟨a,a1,a2,a3,a4⟩:=hK 0 q1;rw[a4]at q3 q4;refine Ans.of (b:=true) (l:=[tyN K.t a]) (txV [tyN K.t a]) (by rw[JS,Dq,rk_param,a4];rfl) rfl (λ_=>rfl) ?_;refine J5 (vfS c94_ok λN=>?_);simp -implicitDefEqProofs only[c94,go_sem,hpF,fRow,Jb,hg,Nd.cv,Dq,Ga,Ak,a1]
  repeat refine anO ?_
  refine Kt (XC g a a2 q3 q4) (.inl rfl) rfl rfl rfl rfl ?_;simp -implicitDefEqProofs only[go_sem,hpF];exact .one 1 rfl rfl rfl (wk.refl _)
 by_cases Cx:(nd K.t i).k=43
 ·have h1:=Jbi g hi (.inr (.inl Cx));obtain⟨a,a1,a2,a3,a4⟩:=hK 0 (by omega);refine Ans.of (.rslc 1 [[S (opT (Qm (JG Z.got a)))]] none) (by rw[JS,Cx,rk_init,a3]) rfl (λh=>?_) ?_
  ·cases ho:Qm (JG Z.got a) with
   |none=>rw[ho]at h;cases h
   |some e=>rfl
  refine J5 (vfS c94_ok λN=>?_);simp -implicitDefEqProofs only[c94,go_sem,hpF,fRow,Jb,hg,Nd.cv,Cx,Ga,Ak,a1]
  repeat refine anO ?_
  refine Kt (fmOne (Z:=Z) a2 hl) (.inl rfl) rfl rfl rfl rfl ?_;simp -implicitDefEqProofs only[go_sem,hpF];exact .one 1 rfl rfl rfl (wk.refl _)
 by_cases BH:(nd K.t i).k=44
 ·have h1:=Jbi g hi (.inr (.inr (.inl BH)));obtain⟨a,a1,a2,a3,a4⟩:=hK 0 (by omega);obtain⟨m1,m2⟩:=hm BH;have Ot:(iz K.of).getD i []=[.int .i64 (m:Int)]:=by rw[JN (by omega),m1]
  have BU:(iz K.of).length=K.t.nodes.length:=by rw[Jg,Be]
  have hA:=fmAre (K:=K) (Z:=Z) (w:=opT (Qm (JG Z.got m))) (ks:=[(a:Int)]) hl (by simp;omega) (by simp);have hb:areB Z.got (opT (Qm (JG Z.got m))) [(a:Int)]=((Qm (JG Z.got m)).isSome && JG Z.got a == [(Qm (JG Z.got m)).getD .int]):=by
   cases Qm (JG Z.got m) with
   |none=>rw[show opT none=[] from rfl,are_none];rfl
   |some e=>rw[show opT (some e)=tyT e from rfl,Jal,Gi];rfl
  rw[hb]at hA;refine Ans.of (l:=[]) (txV []) (by rw[JS,BH,rk_next,a3]) rfl (λ_=>rfl) ?_;refine J5 (vfS c94_ok λN=>?_);simp -implicitDefEqProofs only[c94,go_sem,hpF,fRow,Jb,hg,Nd.cv,BH,Ga,Ot,BU]
  repeat refine anO ?_
  refine Kt (fmOne (Z:=Z) m2 hl) (.inl rfl) rfl rfl rfl rfl ?_;simp -implicitDefEqProofs only[go_sem,hpF,Ak,a1];refine anO ?_;refine Jcz (K:=K) (Z:=Z) 1 rfl rfl rfl ?_;simp -implicitDefEqProofs only[go_sem,JX,frz,Gj,Gl,Qa,Gc,Gd,hpF,Nat.reduceAdd,GD,Gr,Gv,Gq,List.take_succ_cons,GL,Gf,Gg];refine Kt hA (.inl rfl) rfl rfl rfl rfl ?_;simp -implicitDefEqProofs only[go_sem,hpF];exact .out (YO ⟨wk.nils,wk.refl _,trivial⟩) rfl
 by_cases Ck:(nd K.t i).k=47
 ·refine Ans.of (b:=true) (l:=[.int]) (txV [.int]) (by rw[JS,Ck];rfl) rfl (λ_=>rfl) ?_;refine J5 (vfS c94_ok λN=>?_);simp -implicitDefEqProofs only[c94,go_sem,hpF,fRow,Jb,hg,Nd.cv,Ck,Ga]
  repeat refine anO ?_
  exact .one 1 rfl rfl rfl (wk.refl _)
 by_cases Bz:(nd K.t i).k=65
 ·have Bu:=def_res g hi Bz;obtain⟨a,a1,a2,a3,a4⟩:=hK ((nd K.t i).kids.length-1) (by omega);have F8:=XA (l:=Z.got) (i:=a) (by omega);have DN:=sig_len ht i;have eD:∀x∈Y1 K.t i,(tyT x).length<=100000:=λx hx=>by
   unfold Y1 at hx;obtain⟨j,hj,rfl⟩:=GM.1 hx;have hj:=GA.1 hj;have hm:=JF g hi (i:=(nd K.t i).n.toNat+j) (by omega);have:=JdW (t:=K.t) (i:=JL K.t i ((nd K.t i).n.toNat+j)) (by omega);omega
  have hG:=typGreat (Y1 K.t i) (by omega) eD;have hE:=equalTx (JG Z.got a) (Y1 K.t i) (by have:=Cq a;omega);have hb:(Yd (Y1 K.t i) && JG Z.got a == Y1 K.t i)=(JG Z.got a == Y1 K.t i):=by
   cases he:(JG Z.got a == Y1 K.t i) with
   |false=>rw[Bool.and_false]
   |true=>rw[<-eq_of_beq he,hf a];rfl
  refine Ans.of (b:=Yd (Y1 K.t i) && JG Z.got a == Y1 K.t i) (l:=[]) (txV []) (by rw[JS,Bz,rk_def,a3,hb]) rfl (λ_=>rfl) ?_;refine J5 (vfS c94_ok λN=>?_);simp -implicitDefEqProofs only[c94,go_sem,hpF,fRow,Jb,hg,Nd.cv,Bz,Ga]
  repeat refine anO ?_
  refine Kt (fmSign g ht hi Bz) (.inl rfl) rfl rfl rfl rfl ?_;simp -implicitDefEqProofs only[go_sem,hpF,fRow];refine Kj [0,0,0,0,0,0,0,1,0,0,0,0,0,0,1,1,0,0,0,0,0] Js (by decide +kernel) ?_;simp -implicitDefEqProofs only[go_sem];refine vy_f (.inl rfl) hG ?_
  cases fZ:Yd (Y1 K.t i) with
  |false=>
   simp -implicitDefEqProofs only[go_sem,GN];exact .out (YO ⟨wk.nils,wk.refl _,trivial⟩) rfl
  |true=>
   simp -implicitDefEqProofs only[go_sem,Gy,Ak,a1,F8,A9]
   repeat refine And.intro (by first|omega|exact⟨by omega,by omega⟩|exact Jh) ?_
   refine vy_f (gok rfl) hE ?_;simp -implicitDefEqProofs only[go_sem];exact .out (YO ⟨wk.nils,wk.refl _,trivial⟩) rfl
 ·refine Ans.of (b:=true) (l:=[]) (txV []) (by rw[JS,rk_else (by omega) (by omega)];rfl) rfl (λ_=>rfl) ?_;have kk:∀q:Nat,(nd K.t i).k≠q->(((nd K.t i).k:Int) == (q:Int))=false:=λq h=>kb h
  have e40:=kk 40 Eb;have e45:=kk 45 aP;have e41:=kk 41 hk.2;have e42:=kk 42 Cn;have e64:=kk 64 Dq;have e43:=kk 43 Cx;have e44:=kk 44 BH;have e47:=kk 47 Ck;have e65:=kk 65 Bz;simp only[Ga]at e40 e45 e41 e42 e64 e43 e44 e47 e65;refine J5 (vfS c94_ok λN=>?_);simp -implicitDefEqProofs only[c94,go_sem,hpF,fRow,Jb,hg,Nd.cv,e40,e45,e41,e42,e64,e43,e44,e47,e65]
  repeat refine anO ?_
  exact .out (YO ⟨wk.nils,wk.refl _,trivial⟩) rfl
end
end
section
section
variable {P:Program}{E:Env}{n0:Nat}{N:Fr}{Q:Exit->List CV->List CObj->Prop}{H:List CObj}{T:List CV}{k:List KItem}{l:List IOper}{bs:List Nat}{K:FT0}{Z:FS}
theorem five {α:Type}{H:List α}{a b c d e:α}(h0:H[0]? = some a)(h1:H[1]? = some b)(h2:H[2]? = some c)(h3:H[3]? = some d)(h4:H[4]? = some e):∃X,H=a::b::c::d::e::X:=by
 match H,h0,h1,h2,h3,h4 with
 |a'::b'::c'::d'::e'::X,h0,h1,h2,h3,h4=>
  simp at h0 h1 h2 h3 h4;exact⟨X,by rw[h0,h1,h2,h3,h4]⟩
theorem vy_me {d:Option Nat}{ge:Option (Nat×Bool)}{f:Nat}{ags:List IArg}{args:List CV}{res:CV}{X:List CObj}(hM:FMe P f args K Z Z res)(hg:GOk T ge)(ha:ags.map (J7 T)=.ptr 0 0 0::args)(hH:H=hpF K Z X)(hc:Jp args=true)(hr:res.closed=true)(h:vdy P E n0 N Q k l bs (put T d res) H):vdyR P E n0 N Q none d (.call f ags) ge 4 k l bs T H:=by
 refine⟨res,H,?_,h⟩;show HS P E _ T H res H (.on [1,2,3,4,5],.on []);subst hH;refine⟨λ_ _=>rfl,λT2 H2 ag hx=>?_⟩;have IX:∀i,i<5->H2[i]? = (hpF K Z X)[i]?:=λi hi=>by
  have:=hx (i+1) (by simp only[Foot.has,G8,GZ,or_false];omega);simpa [hat]using this
 obtain⟨X2,rfl⟩:=five (IX 0 (by decide)) (IX 1 (by decide)) (IX 2 (by decide)) (IX 3 (by decide)) (IX 4 (by decide));have e2:ags.map (J7 T)=ags.map (J7 T2):=Xo (Ji ag).2;refine⟨_,λy hy=>(by cases hy),λ_ _=>rfl,λn0 N Q k l Ap=>Jek (Ym ag hg) (by rw[<-e2,ha];exact hM.on (X:=X2) hc hr) ?_⟩;rintro v' H' ⟨rfl,rfl⟩;exact Ap
end
section
variable {K:FT0}{Z:FS}
theorem fmFail {i:Nat}:FMe Gs 64 [.int .i64 (i:Int)] K Z (Z.fail i) (.tup []):=by
 obtain⟨got,dn,fd,fg,bad⟩:=Z;refine J5 (J8 c64_ok λN=>?_)
 cases bad with
 |none=>
  simp -implicitDefEqProofs only[c64,go_sem,hpF,fRow,Gu,Gw,Gf,Gg]
  repeat refine anO ?_
  exact .done (wk.refl _)
 |some b=>
  simp -implicitDefEqProofs only[c64,go_sem,hpF,fRow,Gn,Gp];exact .done (wk.refl _)
variable {o:List Int}(g:GoodT K.t o)(ht:K.t.Fit)
include g ht
theorem fmSettle {s:Nat}(hs:s<K.t.nodes.length)(hk:(nd K.t s).k=41)(hl:Z.got.length=K.t.nodes.length)(Cq:Ln Z.got):FMe Gs 154 [.int .i64 (s:Int)] K Z (Kc K.t s Z) (.tup []):=by
 have Ai:=g.many;have hg:=JY hs;have A9:(gz Z.got).length=K.t.nodes.length:=by rw[Yl,hl]
 have BJ:=(JdN ht hs).kidn;obtain⟨n,n1,n2,n3,n4⟩:=Y4 g hs hk;change (nd K.t s).n=n at n1;change (nd K.t s).kids.length=n+1 at n2;have hE:=fmExpr g ht (Z:=Z) hs hk;obtain⟨_,_,_,hL⟩:=KV g hs hk;have F8:=XA (l:=Z.got) (i:=Jl K.t s) (by omega);have cK:=Cq (Jl K.t s);refine J5 (vfS c154_ok λN=>?_);simp -implicitDefEqProofs only[c154,go_sem,hpF,fRow];refine Kj [0,0,0,0,4,0,0,0,0,0,0,4,0,0,4,4,4,1005,2005,0] Js (by decide +kernel) ?_;simp -implicitDefEqProofs only[go_sem,Jb,hg,Nd.cv,n1]
 repeat refine And.intro (by first|omega|exact⟨by omega,by omega⟩|(simp;done)) ?_
 refine vy_me hE (.inl rfl) rfl rfl rfl rfl ?_;simp -implicitDefEqProofs only[go_sem,F8,A9,Jhe (show 1000<=1005 by decide)]
 repeat refine And.intro (by first|omega|exact⟨by omega,by omega⟩|(simp;done)) ?_
 refine vy_new 5 (c:=.tt) (λid=>.ptr id 0 0) (.arr 5 [[.int .u8 0,S [],.int .i64 0,.nils,.int .i64 0]]) (.inl rfl) rfl (λH2=>rfl) trivial (by decide) ?_;simp -implicitDefEqProofs only[go_sem,Jhe (show 1000<=2005 by decide)];refine vy_set 5 (c:=.and (.le 1 1) (.le 5 5)) (v:=.un) (.arr 5 [ndA (nd K.t s) n]) (.inl rfl) (λH2 h=>?_) ⟨Gv _,Gv _⟩ (by simp) ?_
 ·simp only[List.getElem?_cons_succ,List.getElem?_cons_zero]at h;simp only[exec,go_sem,h];rfl
 have Br:(txz (JG Z.got (Jl K.t s))).length=(JG Z.got (Jl K.t s)).length:=Xr;by_cases Ad:(JG Z.got (Jl K.t s)).length=n
 case neg=>
  have hS:Kc K.t s Z=Z.fail s:=by
   unfold Kc;simp only;rw[if_neg (by rw[n1,Gi];exact Ad)]
  have d1:(((JG Z.got (Jl K.t s)).length:Int) != (n:Int))=true:=by simp;omega
  rw[hS];simp -implicitDefEqProofs only[go_sem,txV,Br,d1,ndA];refine Kt (fmFail (Z:=Z)) (.inl rfl) rfl rfl rfl rfl ?_;simp -implicitDefEqProofs only[go_sem];exact .out (wk.refl _) rfl
 have hS:Kc K.t s Z = { Z with got:=Jbp K.t s (JG Z.got (Jl K.t s)) Z.got n,fd:=Jat s true Z.fd }:=by
  unfold Kc;simp only;rw[n1,Gi,if_pos Ad]
 rw[hS];clear hS;generalize JG Z.got (Jl K.t s)=l at *;have d1:((l.length:Int) != (n:Int))=false:=by simp[Ad]
 have Ak:(iz ((nd K.t s).kids.take n)).length=n:=by rw[Jg,GJ];omega
 simp -implicitDefEqProofs only[go_sem,txV,Br,d1,ndA,JdY,GR,Ak]
 repeat refine And.intro (by first|omega|exact⟨by omega,by omega⟩|exact⟨by omega,by omega,by omega⟩|(simp[Jg];omega)) ?_
 have DC:∀j,(Jbp K.t s l Z.got j).length=K.t.nodes.length:=λj=>by rw[Y7];exact hl
 refine Jw (I:=λj:Nat=>j<=n) (inv:=λj=>mkT 64 [(0,.ptr 0 0 0),(1,.int .i64 (s:Int)),(5,txV l),(37,.rslc 1 (iz ((nd K.t s).kids.take n)) none),(38,.int .i64 (n:Int)),(39,.int .i64 (j:Int))]) (hp:=λj=>hpF K { Z with got:=Jbp K.t s l Z.got j } []) (μ:=λj=>n-j) 0 [0,1,2,3,4] (by omega) rfl ?_ ?_ ?_
 ·simp only[QI,Gj,Gl,ren,Jm];refine JR ?_;simp[Qj,KY,txV]
 ·exact Qb (K:=K) (Z:=Z) (X:=[.arr 5 [ndA (nd K.t s) n]]) rfl
 ·intro j hj;by_cases Ab:j<n
  ·have d2:((j:Int)<(n:Int))=True:=Jq;have hc:=Kk g hs (j:=j) (by omega);have hm:=JF g hs (i:=j) (by omega);have Bv:(iz ((nd K.t s).kids.take n)).getD j []=[.int .i64 (JL K.t s j:Int)]:=by
    rw[JN (by rw[GJ];omega),Gb,Ha Ab,<-Gb,hc]
   have hB:=fmBare (K:=K) (Z:={ Z with got:=Jbp K.t s l Z.got j }) (i:=JL K.t s j) (by omega);have EG:Jbp K.t s l Z.got (j+1)=if (nd K.t (JL K.t s j)).kids=[] then(Jbp K.t s l Z.got j).set (JL K.t s j) [l.getD j .int] else Jbp K.t s l Z.got j:=rfl
   simp -implicitDefEqProofs only[go_sem,hpF,fRow,d2,Bv,Ak]
   repeat refine anO ?_
   refine Kt hB (.inl rfl) rfl rfl rfl rfl ?_;by_cases he:(nd K.t (JL K.t s j)).kids=[]
   ·rw[if_pos he]at EG;have Eh:=XA (l:=Jbp K.t s l Z.got j) (i:=JL K.t s j) (by rw[DC];omega);have U7:(gz (Jbp K.t s l Z.got j)).length=K.t.nodes.length:=by rw[Yl,DC]
    have Dw:(gz (Jbp K.t s l Z.got j)).set (JL K.t s j) [.rslc 1 (txz [l.getD j .int]) none]=gz (Jbp K.t s l Z.got (j+1)):=by rw[EG];exact gz_set
    have DN:((txz l).drop j).take (((j:Int)+1).toNat-j)=txz [l.getD j .int]:=by
     rw[show ((j:Int)+1).toNat-j=1 by omega];rw[List.drop_eq_getElem_cons (by rw[Br];omega)];simp[txz,Gb,Gx (show j<l.length by omega)]
    simp -implicitDefEqProofs only[go_sem,hpF,fRow,he,Hf];refine Kj [0,0,0,1,0,0,0,0,0,0,1,2] Js (by decide +kernel) ?_;simp -implicitDefEqProofs only[go_sem,txV,Br,U7,Eh,DN,Dw,splice,Gf,Gg,GL,GV,Gq,Ho]
    repeat refine And.intro (by first|omega|exact⟨by omega,by omega⟩|exact⟨by omega,by omega,by omega⟩|exact Jh) ?_
    refine⟨j+1,[0,1,2,3,4],by omega,by omega,rfl,?_,?_⟩
    ·exact Qb (K:=K) (Z:={ Z with got:=Jbp K.t s l Z.got (j+1) }) (X:=[]) rfl
    ·simp only[ren,Jm];refine JR ?_;simp[Qj,KY]
   ·rw[if_neg he]at EG;have Ah:(nd K.t (JL K.t s j)).kids.isEmpty=false:=by cases h:(nd K.t (JL K.t s j)).kids <;> simp_all
    simp -implicitDefEqProofs only[go_sem,hpF,fRow,Ah,txV];refine⟨Jh,j+1,[0,1,2,3,4],by omega,by omega,rfl,?_,?_⟩
    ·rw[EG];exact Qb (K:=K) (Z:={ Z with got:=Jbp K.t s l Z.got j }) (X:=[]) rfl
    ·simp only[ren,Jm];refine JR ?_;simp[Qj,KY]
  ·have d2:((j:Int)<(n:Int))=False:=Jo;obtain rfl:j=n:=by omega
   rcases Jaa (k:=s) Z.fd 0 with ⟨h1,_,h3⟩|⟨q,h1,h3⟩
   ·simp -implicitDefEqProofs only[go_sem,hpF,fRow,d2,h1,h3];exact .done (wk.refl _)
   ·rw[Gr]at h1;simp -implicitDefEqProofs only[go_sem,hpF,fRow,d2,h1,h3];exact .done (wk.refl _)
omit ht in
theorem setF_ok (hI:FI K.t Z){s:Nat}(hs:s<K.t.nodes.length)(hk:(nd K.t s).k=41):FI K.t (Jau K.t s Z)/\((Jau K.t s Z).bad=none->(JG (Jau K.t s Z).got (Jl K.t s)).length=nB K.t s):=by
 unfold Jau
 split
 ·rename_i hf;exact⟨hI,λ_=>(hI.fnd s hf).2.2.1⟩
 ·obtain⟨h1,_,h3,_⟩:=YQ g hI hs hk;exact⟨h1,λhb=>(h1.fnd s (h3 hb)).2.2.1⟩
omit g ht in
theorem setF_ln {s:Nat}(h:Ln Z.got):Ln (Jau K.t s Z).got:=by
 unfold Jau;split
 ·exact h
 ·exact Jb2 h
def agr1 (t:Tr)(s:Nat)(l:TL)(k:Nat):Bool:=(nd t (JL t s k)).kids.isEmpty || tyN t (JL t (JL t s k) 0) == l.getD k .int
theorem fmSet {s:Nat}(hI:FI K.t Z)(Cq:Ln Z.got)(hs:s<K.t.nodes.length)(hk:(nd K.t s).k=41):FMe Gs 128 [.int .i64 (s:Int)] K Z (Jau K.t s Z) (.bool (!(Jau K.t s Z).bad.isSome && Jaq K.t s (JG (Jau K.t s Z).got (Jl K.t s)))):=by
 have Ai:=g.many;have hg:=JY hs;have BJ:=(JdN ht hs).kidn;obtain⟨n,n1,n2,n3,n4⟩:=Y4 g hs hk;change (nd K.t s).n=n at n1;change (nd K.t s).kids.length=n+1 at n2;obtain⟨b1,b2,_,hL⟩:=KV g hs hk;have bf:nB K.t s=n:=by omega
 obtain⟨O0,Ad⟩:=setF_ok g hI hs hk;have MB:=fmSettle g ht (Z:=Z) hs hk hI.gl Cq;refine J5 (vfS c128_ok λN=>?_);have BG:∀l,Jaq K.t s l=(Gm n).all λk=>agr1 K.t s l k:=λl=>by
  unfold Jaq agr1;rw[n1,Gi]
 rw[BG];have BD:∀j,j<n->∃c:Nat,(iz ((nd K.t s).kids.take n)).getD j []=[.int .i64 (c:Int)]/\c<K.t.nodes.length/\JL K.t s j=c/\(nd K.t c).k=42:=λj hj=>by
  have hm:=b2 j (by omega);refine⟨JL K.t s j,?_,by omega,rfl,hm.1⟩;rw[JN (by rw[GJ];omega),Gb,Ha hj,<-Gb,Kk g hs (by omega)]
 have Ak:(iz ((nd K.t s).kids.take n)).length=n:=by rw[Jg,GJ];omega
 have MC:=setF_ln (K:=K) (s:=s) Cq
 cases hb:KC Z.fd s with
 |false=>
  have e:Jau K.t s Z=Kc K.t s Z:=by unfold Jau;rw[hb];rfl
  rw[<-e]at MB;rcases Jaa (k:=s) Z.fd 0 with ⟨h1,_,_⟩|⟨q,h1,_⟩
  case' inr=>rw[hb]at h1
  all_goals
   simp -implicitDefEqProofs only[c128,go_sem,hpF,fRow,h1];refine Kt MB (.inl rfl) rfl rfl rfl rfl ?_;clear MB e;generalize Jau K.t s Z=Z1 at *;obtain⟨got1,dn1,fd1,fg1,bad1⟩:=Z1;have hE:=fmExpr g ht (Z:=⟨got1,dn1,fd1,fg1,bad1⟩) hs hk;have hB:=λ(c:Nat) (hc:c<K.t.nodes.length)=>fmBare (K:=K) (Z:=⟨got1,dn1,fd1,fg1,bad1⟩) (i:=c) hc
   have hW:=λ(c:Nat) h1 h2 h3=>XC (Z:=⟨got1,dn1,fd1,fg1,bad1⟩) g c h1 h2 h3
   have EP:=O0.gl
   dsimp only at Ad MC EP
   cases bad1 with
   |some b=>
    simp -implicitDefEqProofs only[go_sem,hpF,fRow,Gn,Gp,Hw,GN];exact .done (wk.refl _)
   |none=>
    have Fa:=Ad rfl;have A9:(gz got1).length=K.t.nodes.length:=by rw[Yl,EP]
    have F8:=XA (l:=got1) (i:=Jl K.t s) (by rw[EP];omega);generalize JG got1 (Jl K.t s)=l at *;have Br:(txz l).length=n:=by rw[Xr,Fa,bf]
    simp -implicitDefEqProofs only[go_sem,hpF,fRow,Gu,Gw,G9,Gy,Jb,hg,Nd.cv,n1,Gf,Gg,splice,GL,GV,Gq,Ho,Hq]
    repeat refine And.intro (by first|omega|exact⟨by omega,by omega⟩|(simp;done)) ?_
    refine Kj [0,0,0,4,0,0,4,4,4,0] Js (by decide +kernel) ?_;simp -implicitDefEqProofs only[go_sem];refine vy_me hE (.inl rfl) rfl rfl rfl rfl ?_;simp -implicitDefEqProofs only[go_sem,F8,A9,txV,JdY,GR,Ak]
    repeat refine And.intro (by first|omega|exact⟨by omega,by omega⟩|exact⟨by omega,by omega,by omega⟩|(simp[Jg];omega)) ?_
    refine Jw (I:=λj:Nat=>j<=n/\(Gm j).all (λk=>agr1 K.t s l k)=true) (inv:=λj=>mkT 76 [(0,.ptr 0 0 0),(6,txV l),(44,.rslc 1 (iz ((nd K.t s).kids.take n)) none),(45,.int .i64 (n:Int)),(46,.int .i64 (j:Int))]) (hp:=λj=>hpF K ⟨got1,dn1,fd1,fg1,none⟩ []) (μ:=λj=>n-j) 0 [0,1,2,3,4] ⟨by omega,rfl⟩ rfl ?_ ?_ ?_
    ·simp only[QI,Gj,Gl,ren,Jm];refine JR ?_;simp[Qj,KY,txV]
    ·exact Qb (K:=K) (Z:=⟨got1,dn1,fd1,fg1,none⟩) (X:=[.arr 5 [ndA (nd K.t s) n]]) rfl
    ·rintro j ⟨hj,BC⟩;by_cases Ab:j<n
     ·have d2:((j:Int)<(n:Int))=True:=Jq;obtain⟨c,c1,c2,c3,c4⟩:=BD j Ab;have DT:=JY c2;have UB:=JaA (l:=l) (i:=j) (by omega);have Cb:(Gm (j+1)).all (λk=>agr1 K.t s l k)=((nd K.t c).kids.isEmpty || tyN K.t (JL K.t c 0) == l.getD j .int):=by
       rw[Hm,Hr,BC,Gy,Ht,Hu,Gt];unfold agr1;rw[c3]
      have D6:∀b,(Gm (j+1)).all (λk=>agr1 K.t s l k)=b->b=false->(Gm n).all (λk=>agr1 K.t s l k)=false:=λb h1 h2=>by
       subst h2;obtain⟨x,hx,Ut⟩:=GI.1 h1;exact GI.2 ⟨x,GA.2 (by have:=GA.1 hx;omega),Ut⟩
      simp -implicitDefEqProofs only[go_sem,hpF,fRow,d2,c1,Ak]
      repeat refine anO ?_
      refine Kj [0,0,4,0,0,0,0,0,0,0,4,0,0,0,0,0,0,4,0,0,0,0,0,0] Js (by decide +kernel) ?_;simp -implicitDefEqProofs only[go_sem];refine vy_me (hB c c2) (.inl rfl) rfl rfl rfl rfl ?_;by_cases he:(nd K.t c).kids=[]
      ·have FU:(nd K.t c).kids.isEmpty=true:=by rw[he];rfl
       rw[FU,Hz]at Cb;simp -implicitDefEqProofs only[go_sem,FU,txV];refine⟨Jh,j+1,[0,1,2,3,4],⟨by omega,Cb⟩,by omega,rfl,?_,?_⟩
       ·exact Qb (K:=K) (Z:=⟨got1,dn1,fd1,fg1,none⟩) (X:=[]) rfl
       ·simp only[ren,Jm];refine JR ?_;simp[Qj,KY]
      ·have FU:(nd K.t c).kids.isEmpty=false:=by cases h:(nd K.t c).kids <;> simp_all
       obtain⟨q1,q2,q3,q4⟩:=Jcf g c2 (.inr (.inr ⟨c4,he⟩));have FL:=Kk g c2 (j:=0) q1;have Fg:=JN (l:=(nd K.t c).kids) (i:=0) q1;rw[FL]at Fg;have Aq:(iz (nd K.t c).kids).length=(nd K.t c).kids.length:=Jg;rw[FU,Hy]at Cb;simp -implicitDefEqProofs only[go_sem,FU,Jb,DT,Nd.cv,Aq,Fg]
       repeat refine And.intro (by first|omega|exact⟨by omega,by omega⟩|exact GQ rfl) ?_
       refine vy_me (hW (JL K.t c 0) (by omega) q3 q4) (gok rfl) rfl rfl rfl rfl ?_;simp -implicitDefEqProofs only[go_sem,txV,Br,UB,tyT_eq]
       repeat refine anO ?_
       cases hx:(tyN K.t (JL K.t c 0) == l.getD j .int) with
       |true=>
        rw[hx]at Cb;simp -implicitDefEqProofs only[go_sem];refine⟨Jh,j+1,[0,1,2,3,4],⟨by omega,Cb⟩,by omega,rfl,?_,?_⟩
        ·exact Qb (K:=K) (Z:=⟨got1,dn1,fd1,fg1,none⟩) (X:=[]) rfl
        ·simp only[ren,Jm];refine JR ?_;simp[Qj,KY]
       |false=>
        rw[hx]at Cb;rw[D6 _ Cb rfl];simp -implicitDefEqProofs only[go_sem];exact .done (wk.refl _)
     ·have d2:((j:Int)<(n:Int))=False:=Jo;obtain rfl:j=n:=by omega
      rw[BC];simp -implicitDefEqProofs only[go_sem,hpF,fRow,d2];exact .done (wk.refl _)
 |true=>
  have e:Jau K.t s Z=Z:=by unfold Jau;rw[hb];rfl
  rw[e]at O0 Ad MC|-;clear MB;rcases Jaa (k:=s) Z.fd 0 with ⟨_,h2,_⟩|⟨q,h1,_⟩
  ·rw[hb]at h2;cases h2
  rw[hb]at h1;simp -implicitDefEqProofs only[c128,go_sem,hpF,fRow,h1]
  rename FS=>Z1
  obtain⟨got1,dn1,fd1,fg1,bad1⟩:=Z1;have hE:=fmExpr g ht (Z:=⟨got1,dn1,fd1,fg1,bad1⟩) hs hk;have hB:=λ(c:Nat) (hc:c<K.t.nodes.length)=>fmBare (K:=K) (Z:=⟨got1,dn1,fd1,fg1,bad1⟩) (i:=c) hc
  have hW:=λ(c:Nat) h1 h2 h3=>XC (Z:=⟨got1,dn1,fd1,fg1,bad1⟩) g c h1 h2 h3
  have EP:=O0.gl
  dsimp only at Ad MC EP
  cases bad1 with
  |some b=>
   simp -implicitDefEqProofs only[go_sem,Gn,Gp,Hw,GN];exact .done (wk.refl _)
  |none=>
   have Fa:=Ad rfl;have A9:(gz got1).length=K.t.nodes.length:=by rw[Yl,EP]
   have F8:=XA (l:=got1) (i:=Jl K.t s) (by rw[EP];omega);generalize JG got1 (Jl K.t s)=l at *;have Br:(txz l).length=n:=by rw[Xr,Fa,bf]
   simp -implicitDefEqProofs only[go_sem,Gu,Gw,G9,Gy,Jb,hg,Nd.cv,n1,Gf,Gg,GL,GV,Gq,Hq]
   repeat refine And.intro (by first|omega|exact⟨by omega,by omega⟩|(simp;done)) ?_
   refine Kj [0,0,0,4,0,0,4,4,4,0] Js (by decide +kernel) ?_;simp -implicitDefEqProofs only[go_sem];refine vy_me hE (.inl rfl) rfl rfl rfl rfl ?_;simp -implicitDefEqProofs only[go_sem,F8,A9,txV,JdY,GR,Ak]
   repeat refine And.intro (by first|omega|exact⟨by omega,by omega⟩|exact⟨by omega,by omega,by omega⟩|(simp[Jg];omega)) ?_
   refine Jw (I:=λj:Nat=>j<=n/\(Gm j).all (λk=>agr1 K.t s l k)=true) (inv:=λj=>mkT 76 [(0,.ptr 0 0 0),(6,txV l),(44,.rslc 1 (iz ((nd K.t s).kids.take n)) none),(45,.int .i64 (n:Int)),(46,.int .i64 (j:Int))]) (hp:=λj=>hpF K ⟨got1,dn1,fd1,fg1,none⟩ []) (μ:=λj=>n-j) 0 [0,1,2,3,4] ⟨by omega,rfl⟩ rfl ?_ ?_ ?_
   ·simp only[QI,Gj,Gl,ren,Jm];refine JR ?_;simp[Qj,KY,txV]
   ·exact Qb (K:=K) (Z:=⟨got1,dn1,fd1,fg1,none⟩) (X:=[.arr 5 [ndA (nd K.t s) n]]) rfl
   ·rintro j ⟨hj,BC⟩;by_cases Ab:j<n
    ·have d2:((j:Int)<(n:Int))=True:=Jq;obtain⟨c,c1,c2,c3,c4⟩:=BD j Ab;have DT:=JY c2;have UB:=JaA (l:=l) (i:=j) (by omega);have Cb:(Gm (j+1)).all (λk=>agr1 K.t s l k)=((nd K.t c).kids.isEmpty || tyN K.t (JL K.t c 0) == l.getD j .int):=by
      rw[Hm,Hr,BC,Gy,Ht,Hu,Gt];unfold agr1;rw[c3]
     have D6:∀b,(Gm (j+1)).all (λk=>agr1 K.t s l k)=b->b=false->(Gm n).all (λk=>agr1 K.t s l k)=false:=λb h1 h2=>by
      subst h2;obtain⟨x,hx,Ut⟩:=GI.1 h1;exact GI.2 ⟨x,GA.2 (by have:=GA.1 hx;omega),Ut⟩
     simp -implicitDefEqProofs only[go_sem,hpF,fRow,d2,c1,Ak]
     repeat refine anO ?_
     refine Kj [0,0,4,0,0,0,0,0,0,0,4,0,0,0,0,0,0,4,0,0,0,0,0,0] Js (by decide +kernel) ?_;simp -implicitDefEqProofs only[go_sem];refine vy_me (hB c c2) (.inl rfl) rfl rfl rfl rfl ?_;by_cases he:(nd K.t c).kids=[]
     ·have FU:(nd K.t c).kids.isEmpty=true:=by rw[he];rfl
      rw[FU,Hz]at Cb;simp -implicitDefEqProofs only[go_sem,FU,txV];refine⟨Jh,j+1,[0,1,2,3,4],⟨by omega,Cb⟩,by omega,rfl,?_,?_⟩
      ·exact Qb (K:=K) (Z:=⟨got1,dn1,fd1,fg1,none⟩) (X:=[]) rfl
      ·simp only[ren,Jm];refine JR ?_;simp[Qj,KY]
     ·have FU:(nd K.t c).kids.isEmpty=false:=by cases h:(nd K.t c).kids <;> simp_all
      obtain⟨q1,q2,q3,q4⟩:=Jcf g c2 (.inr (.inr ⟨c4,he⟩));have FL:=Kk g c2 (j:=0) q1;have Fg:=JN (l:=(nd K.t c).kids) (i:=0) q1;rw[FL]at Fg;have Aq:(iz (nd K.t c).kids).length=(nd K.t c).kids.length:=Jg;rw[FU,Hy]at Cb;simp -implicitDefEqProofs only[go_sem,FU,Jb,DT,Nd.cv,Aq,Fg]
      repeat refine And.intro (by first|omega|exact⟨by omega,by omega⟩|exact GQ rfl) ?_
      refine vy_me (hW (JL K.t c 0) (by omega) q3 q4) (gok rfl) rfl rfl rfl rfl ?_;simp -implicitDefEqProofs only[go_sem,txV,Br,UB,tyT_eq]
      repeat refine anO ?_
      cases hx:(tyN K.t (JL K.t c 0) == l.getD j .int) with
      |true=>
       rw[hx]at Cb;simp -implicitDefEqProofs only[go_sem];refine⟨Jh,j+1,[0,1,2,3,4],⟨by omega,Cb⟩,by omega,rfl,?_,?_⟩
       ·exact Qb (K:=K) (Z:=⟨got1,dn1,fd1,fg1,none⟩) (X:=[]) rfl
       ·simp only[ren,Jm];refine JR ?_;simp[Qj,KY]
      |false=>
       rw[hx]at Cb;rw[D6 _ Cb rfl];simp -implicitDefEqProofs only[go_sem];exact .done (wk.refl _)
    ·have d2:((j:Int)<(n:Int))=False:=Jo;obtain rfl:j=n:=by omega
     rw[BC];simp -implicitDefEqProofs only[go_sem,hpF,fRow,d2];exact .done (wk.refl _)
end
end
section
end
theorem doF_bad {t:Tr}{o:List Int}{mean:Nat->Nat}{f i:Nat}{S:FS}(h:S.bad.isSome=true):doF t o mean f S i=S:=by
 cases f with
 |zero=>rfl
 |succ f=>rw[doF,if_pos (by rw[h];rfl)]
theorem fold_bad {t:Tr}{o:List Int}{mean:Nat->Nat}{f:Nat}{S:FS}(h:S.bad.isSome=true):∀l:List Nat,l.foldl (doF t o mean f) S=S
 |[]=>rfl
 |i::l=>by rw[List.foldl_cons,doF_bad h];exact fold_bad h l
section
section
variable {P:Program}{E:Env}{n0:Nat}{N:Fr}{Q:Exit->List CV->List CObj->Prop}{H H':List CObj}{T:List CV}{k:List KItem}
theorem Jaz (e:H=H')(h:Kn P E n0 N Q k T H'):Ok P E n0 N Q k T H:=by
 subst e;exact JA _ _ _ h
end
def fK (t:Tr)(o:List Int):FT0:=⟨t,ofL t o,upZ t t.nodes.length,fiZ t o t.nodes.length⟩
abbrev mnF (t:Tr)(o:List Int):Nat->Nat:=λi=>(JU t o i).toNat
def GoW (t:Tr)(o:List Int)(f:Nat):Prop:=∀S i,FI t S->FM t o S->Ln S.got->i<t.nodes.length->PreQ t o S i->uf t S<f->FMe Gs 40 [.int .i64 (i:Int)] (fK t o) S (doF t o (mnF t o) f S i) (.tup [])
section
variable {t:Tr}{o:List Int}(g:GoodT t o)(ht:t.Fit)
include g ht
omit g in
theorem span_ln {S:FS}(h:Ln S.got)(f:Nat):∀l:List Nat,Ln (l.foldl (doF t o (mnF t o) f) S).got:=by
 intro l
 induction l generalizing S with
 |nil=>exact h
 |cons x l ih=>exact ih (doF_ln ht f S x h)
theorem fmForce (hE:(X4 t o).2=0){f:Nat}(ih:GoW t o f){S:FS}{i m s:Nat}(hI:FI t S)(hM:FM t o S)(Cq:Ln S.got)(hi:i<t.nodes.length)(hP:PreQ t o S i)(hu:uf t S<f+1)(hs:s<t.nodes.length)(BQ:(nd t s).k=41)(hm:(m:Int)∈(nd t s).kids)(DI:(nd t m).k=42)(AU:inS t o (m:Int) i):FMe Gs 150 [.int .i64 (s:Int),.int .i64 (i:Int)] (fK t o) S (XB t o (doF t o (mnF t o) f) s i S) (.tup []):=by
 have Ai:=g.many;have gK:GoodT (fK t o).t o:=g;have Oh:(fK t o).t.Fit:=ht;obtain⟨_,_,_,hL⟩:=KV g hs BQ;refine J5 (vfS c150_ok λN=>?_)
 cases hb:KC S.fg s with
 |true=>
  have e:XB t o (doF t o (mnF t o) f) s i S=S.fail i:=by unfold XB;rw[if_pos hb]
  rw[e];rcases Jaa (k:=s) S.fg 0 with ⟨_,h2,_⟩|⟨q,h1,_⟩
  ·rw[hb]at h2;cases h2
  rw[hb]at h1;simp -implicitDefEqProofs only[c150,go_sem,hpF,fRow,h1];refine Kt (fmFail (K:=fK t o) (Z:=S)) (.inl rfl) rfl rfl rfl rfl ?_;simp -implicitDefEqProofs only[go_sem];exact .done (wk.refl _)
 |false=>
  generalize FZ:({ S with fg:=Jat s true S.fg }:FS)=S0;obtain⟨a,ha⟩:∃a:Nat,fs o ((Jl t s:Nat):Int)=a:=⟨(fs o ((Jl t s:Nat):Int)).toNat,by have:=(fs_le g (a:=Jl t s) (by omega)).1;omega⟩;have ji:a<=Jl t s:=by have:=(fs_le g (a:=Jl t s) (by omega)).2;omega
  generalize D7:Jl t s+1-a=mm;have e:XB t o (doF t o (mnF t o) f) s i S=(λS1=>let S2:=if S1.bad.isSome then S1 else Kc t s S1;{ S2 with fg:=Jat s false S2.fg }) ((K8 a mm).foldl (doF t o (mnF t o) f) S0):=by
   unfold XB;rw[if_neg (by rw[hb];decide)];simp only[ha,Gi,D7,FZ]
  rw[e];clear e;generalize M9:(λS1:FS=>let S2:=if S1.bad.isSome then S1 else Kc t s S1;({ S2 with fg:=Jat s false S2.fg }:FS)) ((K8 a mm).foldl (doF t o (mnF t o) f) S0)=SE;have Pp:FI t S0:=by subst FZ;exact⟨hI.gl,hI.dl,hI.emp,hI.unf,hI.fnd,hI.fine,hI.ini,hI.typ⟩
  have iE:FM t o S0:=by subst FZ;exact hM
  have aA:Ln S0.got:=by subst FZ;exact Cq
  have PI:uf t S0<f:=by subst FZ;have:=uf_less hs hb;omega
  have ay:=force_pre g hi hP hs BQ hm DI AU ha;rw[FZ,D7]at ay;have Fz:=JcG (Jdl g hE f) Pp iE PI (a:=a) (m:=mm) (by omega) ay;have dh:=λZ=>fmExpr gK Oh (Z:=Z) hs BQ
  have fV:(iz (fiZ t o t.nodes.length)).getD (Jl t s) []=[.int .i64 (a:Int)]:=by
   rw[JN (by rw[JaT];omega),fiZ_get (by omega) (by omega),ha]
  have Fj:(iz (fiZ t o t.nodes.length)).length=t.nodes.length:=by rw[Jg,JaT]
  have BB:∀(Z:FS) (b:Bool),(∃q v,QK .int (.int .i64 (s:Int)) (kz Z.fg) 0=some (some (q,v))/\(kz Z.fg).set q (.int .i64 (s:Int),.bool b)=kz (Jat s b Z.fg))\/(QK .int (.int .i64 (s:Int)) (kz Z.fg) 0=some none/\kz Z.fg++[(.int .i64 (s:Int),.bool b)]=kz (Jat s b Z.fg)):=λZ b=>by
   rcases Jaa (k:=s) Z.fg 0 with ⟨h1,_,h3⟩|⟨q,h1,h3⟩
   ·exact .inr ⟨h1,h3 b⟩
   ·exact .inl ⟨_,_,h1,by rw[Gr];exact h3 b⟩
  have Ru:QK .int (.int .i64 (s:Int)) (kz S.fg) 0=some none\/∃q,QK .int (.int .i64 (s:Int)) (kz S.fg) 0=some (some (q,.bool false)):=by
   rcases Jaa (k:=s) S.fg 0 with ⟨h1,_,h3⟩|⟨q,h1,h3⟩
   ·exact .inl h1
   ·rw[hb]at h1;exact .inr ⟨_,h1⟩
  have CJ:hpF (fK t o) S0 []=[.arr 11 [fRow (fK t o) S.bad],.arr 1 (gz S.got),.arr 1 (bqz S.dn),.map (kz S.fd),.map (kz (Jat s true S.fg))]:=by subst FZ;rfl
  rcases Ru with h1|⟨q0,h1⟩ <;> rcases BB S true with ⟨q,v,h2,h3⟩|⟨h2,h3⟩
  ·rw[h1]at h2;cases h2
  case' inr.inl=>rw[h1]at h2;cases h2
  case' inr.inr=>rw[h1]at h2;cases h2
  all_goals
   simp -implicitDefEqProofs only[c150,go_sem,hpF,fRow,h1,h3];refine Jaz CJ.symm ?_;simp -implicitDefEqProofs only[go_sem,hpF,fRow];refine Kj [0,0,0,4,0,0,4,0,0,0] Js (by decide +kernel) ?_;simp -implicitDefEqProofs only[go_sem];refine vy_me (dh S0) (.inl rfl) rfl rfl rfl rfl ?_;simp -implicitDefEqProofs only[go_sem,fK,fV,Fj]
   repeat refine anO ?_
   refine Jw (I:=λj:Nat=>j<=mm) (inv:=λj=>mkT 60 [(0,.ptr 0 0 0),(1,.int .i64 (s:Int)),(6,.int .i64 ((a+j:Nat):Int))]) (hp:=λj=>hpF (fK t o) ((K8 a j).foldl (doF t o (mnF t o) f) S0) []) (μ:=λj=>mm-j) 0 [0,1,2,3,4] (by omega) rfl ?_ ?_ ?_
   ·simp only[QI,Gj,Gl,ren,Jm];refine JR ?_;simp[Qj,KY]
   ·exact Qb (K:=fK t o) (Z:=S0) (X:=[]) rfl
   ·intro j hj;obtain⟨p1,p2,p3,p4⟩:=Fz j hj;have OZ:=span_ln ht (o:=o) aA f (K8 a j);have Cb:(K8 a (j+1)).foldl (doF t o (mnF t o) f) S0=doF t o (mnF t o) f ((K8 a j).foldl (doF t o (mnF t o) f) S0) (a+j):=by rw[JbZ,GY];rfl
    have Ei:((K8 a j).foldl (doF t o (mnF t o) f) S0).bad.isSome=true\/j=mm->(K8 a mm).foldl (doF t o (mnF t o) f) S0=(K8 a j).foldl (doF t o (mnF t o) f) S0:=λh=>by
     rcases h with h|h
     ·have e:K8 a mm=K8 a j++(K8 a mm).drop j:=by
       have:K8 a j=(K8 a mm).take j:=by
        unfold K8;rw[<-List.map_take,List.take_range,Nat.min_eq_left hj]
       rw[this,List.take_append_drop]
      rw[e,GY,fold_bad h]
     ·rw[h]
    generalize av:(K8 a j).foldl (doF t o (mnF t o) f) S0=Sj at *;obtain⟨gj,dj,fdj,fgj,bj⟩:=Sj;have iO:=dh ⟨gj,dj,fdj,fgj,bj⟩;simp -implicitDefEqProofs only[go_sem,hpF];refine Kt iO (.inl rfl) rfl rfl rfl rfl ?_;by_cases Ab:j<mm
    ·have d2:(((a+j:Nat):Int)<=((Jl t s:Nat):Int))=True:=Jq
     cases bj with
     |none=>
      have hW:=ih _ (a+j) p1 p2 OZ (by omega) (ay _ j p3 (by omega) p4) (by rw[uf_eq p3];exact PI);simp -implicitDefEqProofs only[go_sem,fK,hpF,fRow,d2,Gu,Gw];refine Kt hW (.inl rfl) rfl rfl rfl rfl ?_;simp -implicitDefEqProofs only[go_sem];refine⟨Jh,j+1,[0,1,2,3,4],by omega,by omega,rfl,?_,?_⟩
      ·rw[Cb];exact Qb (K:=fK t o) (X:=[]) rfl
      ·simp only[ren,Jm];refine JR ?_;simp[Qj,KY];omega
     |some b=>
      have Cr:=Ei (.inl rfl);rw[Cr]at M9;simp only[Gn,if_true]at M9;subst M9;rcases BB ⟨gj,dj,fdj,fgj,some b⟩ false with ⟨q4,v4,h4,h5⟩|⟨h4,h5⟩
      all_goals
       dsimp only at h4 h5
       simp -implicitDefEqProofs only[go_sem,fK,hpF,fRow,d2,Gn,Gp,h4,h5];exact .done (wk.refl _)
    ·have d2:(((a+j:Nat):Int)<=((Jl t s:Nat):Int))=False:=Jo;have Cr:=Ei (.inr (by omega));rw[Cr]at M9
     cases bj with
     |none=>
      simp only[Gu,Bool.false_eq_true,if_false]at M9;subst M9;have iq:=fmSettle gK Oh hs BQ p1.gl OZ;simp -implicitDefEqProofs only[go_sem,fK,hpF,fRow,d2,Gu,Gw];refine Kt iq (.inl rfl) rfl rfl rfl rfl ?_;change Kn _ _ _ _ _ _ _ (hpF (fK t o) (Kc t s _) []);generalize Kc t s ⟨gj,dj,fdj,fgj,none⟩=S2;rcases BB S2 false with ⟨q4,v4,h4,h5⟩|⟨h4,h5⟩
      all_goals
       simp -implicitDefEqProofs only[go_sem,hpF,fRow,h4,h5];exact .done (wk.refl _)
     |some b=>
      simp only[Gn,if_true]at M9;subst M9;rcases BB ⟨gj,dj,fdj,fgj,some b⟩ false with ⟨q4,v4,h4,h5⟩|⟨h4,h5⟩
      all_goals
       dsimp only at h4 h5
       simp -implicitDefEqProofs only[go_sem,fK,hpF,fRow,d2,Gn,Gp,h4,h5];exact .done (wk.refl _)
theorem fmDecl (hE:(X4 t o).2=0){f:Nat}(ih:GoW t o f){S:FS}{i:Nat}(hI:FI t S)(hM:FM t o S)(Cq:Ln S.got)(hi:i<t.nodes.length)(h3:(nd t i).k=3)(hP:PreQ t o S i)(hu:uf t S<f+1):FMe Gs 120 [.int .i64 (i:Int)] (fK t o) S (JbP t o (doF t o (mnF t o) f) (mnF t o i) i S).1 (txV ((JbP t o (doF t o (mnF t o) f) (mnF t o i) i S).2.getD [])):=by
 have Ai:=g.many;have gK:GoodT (fK t o).t o:=g;have Oh:(fK t o).t.Fit:=ht;obtain⟨m,hm⟩:∃m:Nat,JU t o i=m:=by
  obtain⟨F7,Cr,MQ,_,OC⟩:=JaP g hE hi h3;exact⟨(JU t o i).toNat,by omega⟩
 have D7:mnF t o i=m:=by unfold mnF;rw[hm];rfl
 rw[D7];obtain⟨CW,AU,Eg⟩:=Jep g hE hi h3 hm;have F6:(iz (ofL t o)).getD i []=[.int .i64 (m:Int)]:=by rw[JN (by rw[Xc];exact hi),ofL_get hi,hm]
 have BU:(iz (ofL t o)).length=t.nodes.length:=by rw[Jg,Xc]
 have hg:=JY CW;have Cs:=Jcf g CW;have Ay:(iz (nd t m).kids).length=(nd t m).kids.length:=Jg;have FL:0<(nd t m).kids.length->(iz (nd t m).kids).getD 0 []=[.int .i64 (JL t m 0:Int)]:=λh=>by rw[JN h,Kk g CW h]
 have A9:∀Z:FS,FI t Z->(gz Z.got).length=t.nodes.length/\(gz Z.got).getD m []=[txV (JG Z.got m)]:=λZ hZ=>⟨by rw[Yl,hZ.gl],XA (by rw[hZ.gl];exact CW)⟩
 unfold JbP;refine J5 (vfS c120_ok λN=>?_);rcases Eg with h|h|h|⟨h,s,k,s1,s2,s3,s4,s5,s6⟩
 ·rw[if_pos h];simp -implicitDefEqProofs only[c120,go_sem,hpF,fRow,fK,F6,BU,Jb,hg,Nd.cv,h,Ga]
  repeat refine anO ?_
  exact Fnl.one (K:=fK t o) 1 rfl rfl rfl (wk.refl _)
 ·rw[iN7,if_pos (.inl h)];obtain⟨q1,q2,q3,q4⟩:=Cs (.inr (.inl (by omega)));have hW:=XC gK (Z:=S) (JL t m 0) (show JL t m 0<t.nodes.length by omega) q3 q4;simp -implicitDefEqProofs only[c120,go_sem,hpF,fRow,fK,F6,BU,Jb,hg,Nd.cv,h,Ga,Ay,FL q1]
  repeat refine anO ?_
  refine Kt hW (.inl rfl) rfl rfl rfl rfl ?_;simp -implicitDefEqProofs only[go_sem];exact Fnl.one (K:=fK t o) 1 rfl rfl rfl (wk.refl _)
 ·rw[iN7,iN7,iN7];obtain⟨g1,g2⟩:=A9 S hI;simp -implicitDefEqProofs only[c120,go_sem,hpF,fRow,fK,F6,BU,Jb,hg,Nd.cv,h,Ga,g1,g2]
  repeat refine anO ?_
  exact Fnl.out (K:=fK t o) (wk.refl _) rfl
 ·rw[iN7];have hB:=fmBare (K:=fK t o) (Z:=S) (i:=m) CW;by_cases hn:(nd t m).kids=[]
  ·rw[if_neg (by rintro(h2|⟨_,h2⟩);omega;exact h2 hn)];have he:(nd t m).kids.isEmpty=true:=by rw[hn];rfl
   change FMe _ _ _ _ _ _ (.bool (nd t m).kids.isEmpty) at hB;rw[he]at hB;have SA:(iz (upZ t t.nodes.length)).getD m []=[.int .i64 (s:Int)]:=by rw[JN (by rw[JcC];exact CW),up_kid g s2 s4]
   have PE:(iz (upZ t t.nodes.length)).length=t.nodes.length:=by rw[Jg,JcC]
   rw[s1,Gi]
   cases hb:KC S.fd s with
   |true=>
    rw[if_neg (by simp)];obtain⟨g1,g2⟩:=A9 S hI;rcases Jaa (k:=s) S.fd 0 with ⟨_,h2,_⟩|⟨q,h1,_⟩
    ·rw[hb]at h2;cases h2
    rw[hb]at h1;simp -implicitDefEqProofs only[c120,go_sem,hpF,fRow,fK,F6,BU,Jb,hg,Nd.cv,h,Ga]
    repeat refine anO ?_
    refine Kt hB (.inl rfl) rfl rfl rfl rfl ?_;simp -implicitDefEqProofs only[go_sem,hpF,fRow,fK,SA,PE,h1,g1,g2]
    repeat refine anO ?_
    exact Fnl.out (K:=fK t o) (wk.refl _) rfl
   |false=>
    rw[if_pos ⟨h,rfl⟩];have hF:=fmForce g ht hE ih hI hM Cq hi hP hu s2 s3 s4 h AU;obtain⟨f1,_⟩:=JdK g (Jdl g hE f) hI hM hi hP hu s2 s3 s4 h AU;generalize jl:XB t o (doF t o (mnF t o) f) s i S=SF at *;obtain⟨g1,g2⟩:=A9 SF f1;have Dc:QK .int (.int .i64 (s:Int)) (kz S.fd) 0=some none\/∃q,QK .int (.int .i64 (s:Int)) (kz S.fd) 0=some (some (q,.bool false)):=by
     rcases Jaa (k:=s) S.fd 0 with ⟨h1,_,h3⟩|⟨q,h1,h3⟩
     ·exact .inl h1
     ·rw[hb]at h1;exact .inr ⟨_,h1⟩
    rcases Dc with h1|⟨q,h1⟩
    all_goals
     simp -implicitDefEqProofs only[c120,go_sem,hpF,fRow,fK,F6,BU,Jb,hg,Nd.cv,h,Ga]
     repeat refine anO ?_
     refine Kt hB (.inl rfl) rfl rfl rfl rfl ?_;simp -implicitDefEqProofs only[go_sem,hpF,fRow,fK,SA,PE,h1]
     repeat refine anO ?_
     refine Kt hF (.inl rfl) rfl rfl rfl rfl ?_;simp -implicitDefEqProofs only[go_sem,hpF,fRow,fK,g1,g2]
     repeat refine anO ?_
     exact Fnl.out (K:=fK t o) (wk.refl _) rfl
  ·rw[if_pos (.inr ⟨h,hn⟩)];have he:(nd t m).kids.isEmpty=false:=by cases h:(nd t m).kids <;> simp_all
   change FMe _ _ _ _ _ _ (.bool (nd t m).kids.isEmpty) at hB;rw[he]at hB;obtain⟨q1,q2,q3,q4⟩:=Cs (.inr (.inr ⟨h,hn⟩));have hW:=XC gK (Z:=S) (JL t m 0) (show JL t m 0<t.nodes.length by omega) q3 q4;simp -implicitDefEqProofs only[c120,go_sem,hpF,fRow,fK,F6,BU,Jb,hg,Nd.cv,h,Ga]
   repeat refine anO ?_
   refine Kt hB (.inl rfl) rfl rfl rfl rfl ?_;simp -implicitDefEqProofs only[go_sem,hpF,fRow,fK,Ay,FL q1]
   repeat refine anO ?_
   refine Kt hW (.inl rfl) rfl rfl rfl rfl ?_;simp -implicitDefEqProofs only[go_sem];exact Fnl.one (K:=fK t o) 1 rfl rfl rfl (wk.refl _)
end
end
def Tx (m:Nat)(l:TL):Prop:=∀a∈l,(tyT a).length<=m
theorem JaB {m:Nat}{a:TyX}(h:(tyT a).length<=m):Tx m [a]:=λb hb=>by
 rw[He.1 hb];exact h
theorem one_tx2 {m:Nat}{l:TL}(h:Tx m l)(hm:3<=m):(tyT ((Qm l).getD .int)).length<=m:=by
 cases ho:Qm l with
 |none=>simpa [tyT]using hm
 |some a=>
  have:=Jeg.1 ho;subst this;exact h a (by simp)
theorem prt_tx {m:Nat}{l:TL}(h:Tx m l)(hm:3<=m):(tyT ((prt (Qm l)).getD .int)).length<=m:=by
 have h1:=one_tx2 h hm;rcases ho:Qm l with _|a|a|a|a <;> rw[ho]at h1 <;> simp[prt,tyT]at h1|- <;> omega
theorem given_tx {m:Nat}{ls:List TL}{l:TL}(h:Yn ls=some l)(hm:3<=m)(h2:∀x∈ls,Tx m x):Tx m l:=by
 unfold Yn at h
 split at h
 ·cases h;exact h2 _ (by simp)
 ·split at h
  ·cases h
   intro a ha;obtain⟨x,hx,rfl⟩:=GM.1 ha;have:=h2 x hx
   cases x with
   |nil=>simpa [tyT]using hm
   |cons b y=>exact this b (by simp)
  ·cases h
theorem rule_tx {k n:Nat}{ks:List Int}{K L:Nat->TL}{ty:TyX}{sp sr si gm l:TL}(h:J2 k ks n K L ty sp sr si gm=some l)(hK:∀j,Tx 10000 (K j))(hL:Tx 10000 (L 1))(Cs:(tyT ty).length<=10000)(MJ:Tx 10000 sr):Tx 20000 l:=by
 have up:∀{l:TL},Tx 10000 l->Tx 20000 l:=λh a ha=>by have:=h a ha;omega
 have hg:∀(m:Nat) (f:Nat->Nat),Yn ((Gm m).map λj=>K (f j))=some l->Tx 20000 l:=λm f h=>up (given_tx h (by omega) λx hx=>by
  obtain⟨j,_,rfl⟩:=GM.1 hx;exact hK _)
 have Bo:∀{c:Prop} [Decidable c] {x:TL},(if c then some x else none)=some l->Tx 20000 x->Tx 20000 l:=λh hx=>by
  split at h
  ·cases h;exact hx
  ·cases h
 have hi:Tx 20000 [.int]:=JaB (by simp[tyT]);have hb:Tx 20000 [.bool]:=JaB (by simp[tyT]);have hn:Tx 20000 []:=λa ha=>by cases ha
 have hp:∀j,(tyT ((prt (Qm (K j))).getD .int)).length<=10000:=λj=>prt_tx (hK j) (by omega)
 have hs:∀{a:TyX},(tyT a).length<=10000->Tx 20000 [.str a]:=λh=>JaB (by simp[tyT,XJ];omega)
 by_cases e1:k=1
 ·subst e1;cases h;exact hi
 by_cases e2:k=2
 ·subst e2;cases h;exact hb
 by_cases e4:k=4
 ·subst e4;rw[rk_cons]at h;exact Bo h (hs (hp 1))
 by_cases e5:k=5\/k=6
 ·rw[rk_or e5]at h;exact Bo h hb
 by_cases e7:k=7\/k=8
 ·rw[rk_eq e7]at h;exact Bo h hb
 by_cases e9:9<=k/\k<=12
 ·rw[rk_lt e9]at h;exact Bo h hb
 by_cases e13:13<=k/\k<=17
 ·rw[rk_add e13]at h;exact Bo h hi
 by_cases e18:k=18
 ·subst e18;rw[rk_read]at h;exact Bo h (up (JaB (hp 0)))
 by_cases e19:k=19
 ·subst e19;rw[rk_not]at h;exact Bo h hb
 by_cases e20:k=20
 ·subst e20;rw[rk_neg]at h;exact Bo h hi
 by_cases e21:k=21
 ·subst e21;rw[rk_head]at h;exact Bo h (up (JaB (hp 0)))
 by_cases e22:k=22
 ·subst e22;rw[rk_tail]at h;exact Bo h (up (hK _))
 by_cases e23:k=23
 ·subst e23;rw[Jgm]at h;exact Bo h hb
 by_cases e24:k=24
 ·subst e24;rw[rk_size]at h;exact Bo h hi
 by_cases e25:k=25
 ·subst e25;cases h;exact hs Cs
 by_cases e26:k=26
 ·subst e26;rw[rk_call]at h;exact Bo h (up MJ)
 by_cases e27:k=27
 ·subst e27;rw[rk_if]at h;exact Bo h (up (hK _))
 by_cases e28:k=28
 ·subst e28;rw[rk_loop]at h;exact Bo h (up (hK _))
 by_cases e29:k=29
 ·subst e29;rw[Jgo]at h;have:=one_tx2 hL (by omega);exact Bo h (JaB (by simp[tyT];omega))
 by_cases e40:k=40
 ·subst e40;exact hg _ _ h
 by_cases e45:k=45
 ·subst e45;exact hg _ id h
 by_cases e42:k=42
 ·subst e42;rw[Jgn]at h
  split at h <;> cases h
  ·exact hn
  ·exact up (JaB Cs)
 by_cases e64:k=64
 ·subst e64;cases h;exact up (JaB Cs)
 by_cases e43:k=43
 ·subst e43;rw[rk_init]at h;exact Bo h (up (JaB (one_tx2 (hK 0) (by omega))))
 by_cases e44:k=44
 ·subst e44;rw[rk_next]at h;exact Bo h hn
 by_cases e47:k=47
 ·subst e47;cases h;exact hi
 by_cases e65:k=65
 ·subst e65;rw[rk_def]at h;exact Bo h hn
 have:J2 k ks n K L ty sp sr si gm=some []:=by
  unfold J2;simp only[e1,e2,e4,e5,e7,e9,e13,e18,e19,e20,e21,e22,e23,e24,e25,e26,e27,e28,e29,e40,e45,e42,e64,e43,e44,e47,e65,if_false]
 rw[this]at h;cases h;exact hn
theorem fine_tx {got:List TL}(hf:∀j,Yd (JG got j)=true)(j:Nat):Tx 10000 (JG got j):=λa ha=>by have:=JgU (hf j) ha;omega
theorem rule_sm {t:Tr}{o:List Int}(g:GoodT t o)(ht:t.Fit){m i:Nat}{got:List TL}{l:TL}(hf:∀j,Yd (JG got j)=true)(hi:i<t.nodes.length)(hm:m<t.nodes.length\/(nd t i).k≠26)(h:Xp t m got i=some l):Tx 20000 l:=by
 have Ai:=g.many;rw[JS]at h;have Cs:∀{j:Nat},j<t.nodes.length->(tyT (tyN t j)).length<=10000:=λh=>JdW (by omega)
 have bC:∀x y,x<t.nodes.length->(tyT (tyN t (JL t x y))).length<=10000:=λx y hx=>by
  refine Cs ?_;by_cases hy:y<(nd t x).kids.length
  ·have:=(JF g hx hy).2.1;omega
  ·unfold JL;rw[Gb,Hd (by omega)];simp;omega
 refine rule_tx (k:=(nd t i).k) (n:=(nd t i).n.toNat) (ks:=(nd t i).kids) (K:=KK t got i) (L:=Jce t got i) (sp:=Jar t m) (si:=Y1 t i) (gm:=JG got m) (sr:=if (nd t i).k=26 then Y1 t m else []) (Eq.trans ?_ h) (λj=>?_) ?_ (bC i 0 hi) ?_
 ·by_cases Dr:(nd t i).k=26
  ·rw[if_pos Dr]
  ·rw[if_neg Dr];exact ruleK_congr rfl (λ_ _=>rfl) (λ_=>⟨rfl,rfl⟩) (λ_ _ _=>rfl) (λ_ _=>rfl) (λ_=>rfl) (λh=>absurd h Dr) (λ_=>rfl) (λ_=>rfl)
 ·unfold KK
  split
  ·exact fine_tx hf _
  ·intro a ha;cases ha
 ·unfold Jce
  split
  ·exact fine_tx hf _
  ·intro a ha;cases ha
 ·split
  ·rename_i Dr;rcases hm with hm|hm
   ·intro a ha;unfold Y1 at ha;obtain⟨x,_,rfl⟩:=GM.1 ha;exact bC m _ hm
   ·exact absurd Dr hm
  ·intro a ha;cases ha
section
def TyR (f:Nat)(K:FT0)(S:FS)(i:Nat)(R:FS):Prop:=∃(S':FS) (x:CV) (b:Bool) (l:TL),x.closed=true/\FMe Gs f [.int .i64 (i:Int)] K S S' (.tup [x,.bool b])/\(b=true->x=txV l/\l.length<=30/\Tx 20000 l/\R=S'.fin i (some l))/\(b=false->R=S'.fail i)/\S'.got.length=K.t.nodes.length/\S'.dn.length=K.t.nodes.length
theorem TyR.of {f:Nat}{K:FT0}{S:FS}{i:Nat}{r:Option TL}(h:Ans K S f [.int .i64 (i:Int)] r)(hl:∀l,r=some l->l.length<=30/\Tx 20000 l)(h1:S.got.length=K.t.nodes.length)(h2:S.dn.length=K.t.nodes.length):TyR f K S i (S.fin i r):=by
 obtain⟨x,q1,q2,q3⟩:=h
 cases r with
 |none=>exact⟨S,x,false,[],q1,q3,λh=>(by cases h),λ_=>rfl,h1,h2⟩
 |some l=>exact⟨S,x,true,l,q1,q3,λ_=>⟨q2 l rfl,(hl l rfl).1,(hl l rfl).2,rfl⟩,λh=>(by cases h),h1,h2⟩
theorem JgY {S:FS}{i:Nat}{r:Option TL}(h:S.bad.isSome=true):S.fin i r=S/\S.fail i=S:=by
 have h2:S.fail i=S:=by unfold FS.fail;rw[if_pos h]
 refine⟨?_,h2⟩;unfold FS.fin
 cases r with
 |none=>exact h2
 |some l=>simp only;rw[if_pos h]
theorem JcD {l:TL}:(txV l).closed=true:=by simp[txV,CV.closed]
section
variable {t:Tr}{o:List Int}(g:GoodT t o)(ht:t.Fit)
include g ht
omit ht in
theorem mean_nat (hE:(X4 t o).2=0){i:Nat}(hi:i<t.nodes.length)(hs:KA t i=true):(ofL t o).getD i 0=(mnF t o i:Int)/\mnF t o i<t.nodes.length/\((nd t i).k=26->(nd t (mnF t o i)).k=65):=by
 have Ah:=(Jg9 hE).mean i hi hs;have hr:=JgB (t:=t) (o:=o) (i:=i);have h0:0<=JU t o i:=by omega
 obtain⟨d,hd⟩:∃d:Nat,JU t o i=d:=⟨(JU t o i).toNat,by omega⟩;have hm:mnF t o i=d:=by unfold mnF;rw[hd];rfl
 have h2:=mean_text g (Jg9 hE) hi hd;rw[hm];exact⟨by rw[ofL_get hi,hd],h2.2.2.2,λhk=>((meanC_iff (Jg9 hE) hi hk).1 hd).2.2⟩
theorem fmSmall (hE:(X4 t o).2=0){f:Nat}(ih:GoW t o f){S:FS}{i:Nat}(hI:FI t S)(hM:FM t o S)(Cq:Ln S.got)(hi:i<t.nodes.length)(hb:S.bad=none)(hd:S.dn.getD i false=false)(hP:PreQ t o S i)(hu:uf t S<f+1)(h3:(nd t i).k=3):TyR 92 (fK t o) S i (doF t o (mnF t o) (f+1) S i):=by
 have Ai:=g.many;have hg:=JY hi;have hD:=fmDecl g ht hE ih hI hM Cq hi h3 hP hu;have hR:doF t o (mnF t o) (f+1) S i=(JbP t o (doF t o (mnF t o) f) (mnF t o i) i S).1.fin i (JbP t o (doF t o (mnF t o) f) (mnF t o i) i S).2:=by
  rw[doF,if_neg (by rw[hb,hd];decide),if_pos h3]
 rw[hR];have PQ:∃l,(JbP t o (doF t o (mnF t o) f) (mnF t o i) i S).2=some l:=by
  unfold JbP
  split
  ·exact⟨_,rfl⟩
  ·split
   ·exact⟨_,rfl⟩
   ·split <;> exact⟨_,rfl⟩
 obtain⟨l,hl⟩:=PQ;have CP:FI t (JbP t o (doF t o (mnF t o) f) (mnF t o i) i S).1/\l.length<=30/\Tx 20000 l:=by
  obtain⟨F7,Cr,MQ,_,OC⟩:=JaP g hE hi h3;obtain⟨m,hm⟩:∃m:Nat,JU t o i=m:=⟨(JU t o i).toNat,by omega⟩;have D7:mnF t o i=m:=by unfold mnF;rw[hm];rfl
  obtain⟨CW,AU,Eg⟩:=Jep g hE hi h3 hm;rw[D7]at hl|-;have CJ:∀Z:FS,FI t Z->Ln Z.got->(JG Z.got m).length<=30/\Tx 20000 (JG Z.got m):=λZ h1 h2=>⟨h2 m,λa ha=>by have:=JgU (h1.fine m) ha;omega⟩
  have EL:∀x,x<t.nodes.length->JL t x 0<t.nodes.length:=λx hx=>by
   by_cases hy:0<(nd t x).kids.length
   ·have:=(JF g hx hy).2.1;omega
   ·unfold JL;rw[Gb,Hd (by omega)];simp;omega
  unfold JbP at hl|-
  split at hl
  ·rename_i h;rw[if_pos h];cases hl;exact⟨hI,by simp,JaB (by simp[tyT])⟩
  ·rename_i h;rw[if_neg h]
   split at hl
   ·rename_i h;rw[if_pos h];cases hl;exact⟨hI,by simp,JaB (by have:=JdW (t:=t) (i:=JL t m 0) (by have:=EL m CW;omega);omega)⟩
   ·rename_i h2;rw[if_neg h2]
    split at hl
    ·rename_i h4;rw[if_pos h4];simp only at hl|-
     cases hl
     rcases Eg with h5|h5|h5|⟨h5,s,k,s1,s2,s3,s4,s5,s6⟩
     ·exact absurd h5 h
     ·exact absurd (.inl h5) h2
     ·omega
     ·rw[s1,Gi];obtain⟨f1,_⟩:=JdK g (Jdl g hE f) hI hM hi hP hu s2 s3 s4 h5 AU;have iG:Ln (XB t o (doF t o (mnF t o) f) s i S).got:=by
       unfold XB
       split
       ·unfold FS.fail;split <;> exact Cq
       ·simp only;have h1:=span_ln ht (o:=o) (S:={ S with fg:=Jat s true S.fg }) Cq f (K8 (fs o ((Jl t s:Nat):Int)).toNat (Jl t s+1-(fs o ((Jl t s:Nat):Int)).toNat))
        split
        ·exact h1
        ·exact Jb2 h1
      exact⟨f1,CJ _ f1 iG⟩
    ·rename_i h4;rw[if_neg h4];cases hl;exact⟨hI,CJ S hI Cq⟩
 generalize JbP t o (doF t o (mnF t o) f) (mnF t o i) i S=D at *;obtain⟨Z,r⟩:=D;obtain⟨got,dn,fd,fg,bad⟩:=Z
 dsimp only at hl CP hD|-
 subst hl;rw[Gp]at hD;refine⟨⟨got,dn,fd,fg,bad⟩,txV l,!bad.isSome,l,JcD,?_,λh=>⟨rfl,CP.2.1,CP.2.2,rfl⟩,λh=>?_,CP.1.gl,CP.1.dl⟩
 ·refine J5 (vfS c92_ok λN=>?_);simp -implicitDefEqProofs only[c92,go_sem,hpF,fRow,fK,Jb,hg,Nd.cv,h3,Ga]
  repeat refine anO ?_
  refine Kt (K:=fK t o) hD (.inl rfl) rfl rfl rfl JcD ?_;simp -implicitDefEqProofs only[go_sem,hpF,fRow,fK];refine Kj [0,0,0,0,1,0,0,0] Js (by decide +kernel) ?_;simp -implicitDefEqProofs only[go_sem];refine Fnl.out (K:=fK t o) (S:=⟨got,dn,fd,fg,bad⟩) (wk.refl _) ?_;simp[CV.closed,Jp,JcD]
 ·have gM:bad.isSome=true:=by simpa using h
  have h1:=JgY (S:=⟨got,dn,fd,fg,bad⟩) (i:=i) (r:=some l) gM;rw[h1.1,h1.2]
theorem fmTypes (hE:(X4 t o).2=0){f:Nat}(ih:GoW t o f){S:FS}{i:Nat}(hI:FI t S)(hM:FM t o S)(Cq:Ln S.got)(hi:i<t.nodes.length)(hb:S.bad=none)(hd:S.dn.getD i false=false)(hP:PreQ t o S i)(hu:uf t S<f+1):TyR 62 (fK t o) S i (doF t o (mnF t o) (f+1) S i):=by
 have Ai:=g.many;have gK:GoodT (fK t o).t o:=g;have Oh:(fK t o).t.Fit:=ht;have hg:=JY hi;have EZ:∀m,(m<t.nodes.length\/(nd t i).k≠26)->∀l,Xp t m S.got i=some l->l.length<=30/\Tx 20000 l:=λm hm l h=>by
  refine⟨?_,rule_sm g ht hI.fine hi hm h⟩;rw[JS]at h;exact rule_len h (λj=>by unfold KK;split;exact Cq _;simp) (kids_len ht i) (sig_len ht _)
 have ZO:(nd t i).k≠3->(nd t i).k≠41->doF t o (mnF t o) (f+1) S i=S.fin i (Xp t (mnF t o i) S.got i):=λh1 h2=>by
  rw[doF,if_neg (by rw[hb,hd];decide),if_neg h1,if_neg h2]
 have Dr:(nd t i).k=26->(fK t o).of.getD i 0=(mnF t o i:Int)/\mnF t o i<t.nodes.length/\(nd t (mnF t o i)).k=65:=λhk=>by
  obtain⟨h1,h2,h3⟩:=mean_nat g hE hi (by simp[KA,hk]);exact⟨h1,h2,h3 hk⟩
 have BH:(nd t i).k=44->(fK t o).of.getD i 0=(mnF t o i:Int)/\mnF t o i<t.nodes.length:=λhk=>by
  obtain⟨h1,h2,h3⟩:=mean_nat g hE hi (by simp[KA,hk]);exact⟨h1,h2⟩
 have hR:∀f',(∃R,R=doF t o (mnF t o) (f+1) S i/\TyR f' (fK t o) S i R)->TyR f' (fK t o) S i (doF t o (mnF t o) (f+1) S i):=λf' ⟨R,h1,h2⟩=>by rw[<-h1];exact h2
 have Oi:((nd t i).k<=18->TyR 92 (fK t o) S i (doF t o (mnF t o) (f+1) S i))/\(18<(nd t i).k->(nd t i).k<=29->TyR 93 (fK t o) S i (doF t o (mnF t o) (f+1) S i))/\(29<(nd t i).k->TyR 94 (fK t o) S i (doF t o (mnF t o) (f+1) S i)):=by
  have FL:(nd t i).k≠0:=λh0=>by
   have hn:=g.nds (nd t i) (by unfold nd;rw[Gb,Gx hi];exact Hl hi);rw[ndI_R]at hn;simp[h0,K9]at hn
  refine⟨λh=>?_,λh1 h2=>?_,λh=>?_⟩
  ·by_cases h3:(nd t i).k=3
   ·exact fmSmall g ht hE ih hI hM Cq hi hb hd hP hu h3
   ·rw[ZO h3 (by omega)];refine TyR.of ?_ (EZ _ (.inr (by omega))) hI.gl hI.dl;by_cases h1:(nd t i).k=1\/(nd t i).k=2
    ·exact small1 gK hi h1
    ·exact small2 gK hi (show 4<=(nd t i).k/\(nd t i).k<=18 by omega) hI.gl hI.fine
  ·rw[ZO (by omega) (by omega)];by_cases h3:(nd t i).k<=25
   ·exact TyR.of (great1 gK hi (show 19<=(nd t i).k/\(nd t i).k<=25 by omega) hI.gl hI.fine) (EZ _ (.inr (by omega))) hI.gl hI.dl
   ·refine TyR.of (great2 gK Oh hi (show 26<=(nd t i).k/\(nd t i).k<=29 by omega) hI.gl hI.fine Cq Xc Dr) (EZ _ ?_) hI.gl hI.dl;by_cases h6:(nd t i).k=26
    ·exact .inl (Dr h6).2.1
    ·exact .inr h6
  ·by_cases Bq:(nd t i).k=41
   ·obtain⟨O0,Ad⟩:=setF_ok gK (K:=fK t o) hI hi Bq;have hS:=fmSet gK Oh hI Cq hi Bq;have MC:=setF_ln (K:=fK t o) (s:=i) Cq;have ZJ:doF t o (mnF t o) (f+1) S i=(Jau t i S).fin i (if Jaq t i (JG (Jau t i S).got (Jl t i))=true then some [] else none):=by
     rw[doF,if_neg (by rw[hb,hd];decide),iN7,if_pos Bq]
    rw[ZJ];change FMe _ _ _ _ _ (Jau t i S) (.bool (!(Jau t i S).bad.isSome && Jaq t i (JG (Jau t i S).got (Jl t i)))) at hS;change FI t (Jau t i S) at O0;generalize Jau t i S=Z at *;have hl:∀l:TL,l=[]->l.length<=30/\Tx 20000 l:=λl h=>by subst h;exact⟨by simp,λa ha=>by cases ha⟩
    refine⟨Z,txV [],!Z.bad.isSome && Jaq t i (JG Z.got (Jl t i)),[],rfl,?_,λh=>?_,λh=>?_,O0.gl,O0.dl⟩
    ·refine J5 (vfS c94_ok λN=>?_);simp -implicitDefEqProofs only[c94,go_sem,hpF,fRow,fK,Jb,hg,Nd.cv,Bq,Ga]
     repeat refine anO ?_
     refine Kt (K:=fK t o) hS (.inl rfl) rfl rfl rfl rfl ?_;simp -implicitDefEqProofs only[go_sem];exact Fnl.out (K:=fK t o) (YO ⟨wk.nils,wk.refl _,trivial⟩) rfl
    ·simp only[Bool.and_eq_true]at h;rw[if_pos h.2];exact⟨rfl,(hl [] rfl).1,(hl [] rfl).2,rfl⟩
    ·by_cases Pk:Z.bad.isSome=true
     ·rw[(JgY Pk).1,(JgY (r:=none) Pk).2]
     ·rw[Bool.eq_false_iff.2 Pk,G9,Gy]at h;rw[h];rfl
   ·rw[ZO (by omega) Bq];exact TyR.of (part1 gK Oh hi (show 30<=(nd t i).k/\(nd t i).k≠41 by omega) hI.gl hI.fine Cq Xc BH) (EZ _ (.inr (by omega))) hI.gl hI.dl
 obtain⟨s1,s2,s3⟩:=Oi;have fin:∀f' (P1:TyR f' (fK t o) S i (doF t o (mnF t o) (f+1) S i)) (hC:∀(S':FS) (x:CV) (b:Bool),x.closed=true->FMe Gs f' [.int .i64 (i:Int)] (fK t o) S S' (.tup [x,.bool b])->FMe Gs 62 [.int .i64 (i:Int)] (fK t o) S S' (.tup [x,.bool b])),TyR 62 (fK t o) S i (doF t o (mnF t o) (f+1) S i):=λf' P1 hC=>by
  obtain⟨S',x,b,l,q1,q2,q3⟩:=P1;exact⟨S',x,b,l,q1,hC S' x b q1 q2,q3⟩
 have DK:∀{x:CV} {b:Bool},x.closed=true->(CV.tup [x,.bool b]).closed=true:=λh=>by simp[CV.closed,Jp,h]
 by_cases Sy:(nd t i).k<=18
 ·refine fin _ (s1 Sy) λS' x b hx hF=>?_
  have d1:((nd t i).k<=18)=True:=eq_true Sy;have d2:(((nd t i).k:Int)<=18)=True:=Jq;refine J5 (vfS c62_ok λN=>?_);simp -implicitDefEqProofs only[c62,go_sem,hpF,fRow,fK,Jb,hg,Nd.cv,d2]
  repeat refine anO ?_
  refine Kt (K:=fK t o) hF (.inl rfl) rfl rfl rfl (DK hx) ?_;simp -implicitDefEqProofs only[go_sem];exact Fnl.out (K:=fK t o) (wk.refl _) (DK hx)
 ·have d1:((nd t i).k<=18)=False:=eq_false Sy;have d2:(((nd t i).k:Int)<=18)=False:=Jo;by_cases Pt:(nd t i).k<=29
  ·refine fin _ (s2 (by omega) Pt) λS' x b hx hF=>?_
   have d3:(((nd t i).k:Int)<=29)=True:=Jq;refine J5 (vfS c62_ok λN=>?_);simp -implicitDefEqProofs only[c62,go_sem,hpF,fRow,fK,Jb,hg,Nd.cv,d2,d3]
   repeat refine anO ?_
   refine Kt (K:=fK t o) hF (.inl rfl) rfl rfl rfl (DK hx) ?_;simp -implicitDefEqProofs only[go_sem];exact Fnl.out (K:=fK t o) (wk.refl _) (DK hx)
  ·refine fin _ (s3 (by omega)) λS' x b hx hF=>?_
   have d3:(((nd t i).k:Int)<=29)=False:=Jo;refine J5 (vfS c62_ok λN=>?_);simp -implicitDefEqProofs only[c62,go_sem,hpF,fRow,fK,Jb,hg,Nd.cv,d2,d3]
   repeat refine anO ?_
   refine Kt (K:=fK t o) hF (.inl rfl) rfl rfl rfl (DK hx) ?_;simp -implicitDefEqProofs only[go_sem];exact Fnl.out (K:=fK t o) (wk.refl _) (DK hx)
theorem lawDo (hE:(X4 t o).2=0):∀f,GoW t o f
 |0=>λS i _ _ _ _ _ hu=>by omega
 |f+1=>λS i hI hM Cq hi hP hu=>by
  have Ai:=g.many;obtain⟨got,dn,fd,fg,bad⟩:=S;have Bi:=hI.dl;have A9:=hI.gl
  dsimp only at Bi A9 Cq
  have F9:(bqz dn).getD i []=[.bool (dn.getD i false)]:=bqz_get (by omega);have RU:(bqz dn).length=t.nodes.length:=by rw[bqz_len,Bi]
  refine J5 (vfS c40_ok λN=>?_)
  cases hd:dn.getD i false with
  |true=>
   have e:doF t o (mnF t o) (f+1) ⟨got,dn,fd,fg,bad⟩ i=⟨got,dn,fd,fg,bad⟩:=by
    rw[doF,if_pos (by simp only[hd,Bool.or_true])]
   rw[e];simp -implicitDefEqProofs only[c40,go_sem,hpF,fRow,fK,F9,RU,hd]
   repeat refine anO ?_
   exact .done (wk.refl _)
  |false=>
   cases bad with
   |some b=>
    have e:doF t o (mnF t o) (f+1) ⟨got,dn,fd,fg,some b⟩ i=⟨got,dn,fd,fg,some b⟩:=by
     rw[doF,if_pos (by simp)]
    rw[e];simp -implicitDefEqProofs only[c40,go_sem,hpF,fRow,fK,F9,RU,hd,Gn,Gp]
    repeat refine anO ?_
    exact .done (wk.refl _)
   |none=>
    obtain⟨S',x,b,l,q1,q2,q3,q4,q5,q6⟩:=fmTypes g ht hE (lawDo hE f) hI hM Cq hi rfl hd hP hu;generalize doF t o (mnF t o) (f+1) ⟨got,dn,fd,fg,none⟩ i=R at *;have DK:(CV.tup [x,.bool b]).closed=true:=by simp[CV.closed,Jp,q1]
    have Fu:=fmFail (K:=fK t o) (Z:=S') (i:=i);simp -implicitDefEqProofs only[c40,go_sem,hpF,fRow,fK,F9,RU,hd,Gu,Gw]
    repeat refine anO ?_
    refine Kt (K:=fK t o) (Z:=⟨got,dn,fd,fg,none⟩) q2 (.inl rfl) rfl rfl rfl DK ?_
    cases b with
    |false=>
     have e:=q4 rfl;have DL:(S'.fail i).bad.isSome=true:=by unfold FS.fail;split;assumption;rfl
     rw[<-e]at Fu DL;obtain⟨got1,dn1,fd1,fg1,bad1⟩:=R;obtain⟨b1,rfl⟩:=HV.1 DL;simp -implicitDefEqProofs only[go_sem];refine Kt Fu (.inl rfl) rfl rfl rfl rfl ?_;simp -implicitDefEqProofs only[go_sem,hpF,fRow,fK,Gn,Gp];exact .done (wk.refl _)
    |true=>
     obtain⟨rfl,l1,l2,l3⟩:=q3 rfl;have hG:=typGreat l (by omega) (λa ha=>by have:=l2 a ha;omega);simp -implicitDefEqProofs only[go_sem];refine Kb (gok rfl) hG ?_
     cases Bg:Yd l with
     |false=>
      have e:R=S'.fail i:=by
       rw[l3];unfold FS.fin;simp only
       split
       ·unfold FS.fail;rw[if_pos (by assumption)]
       ·rw[if_neg (by rw[Bg];decide)]
      have DL:(S'.fail i).bad.isSome=true:=by unfold FS.fail;split;assumption;rfl
      rw[<-e]at Fu DL;clear l3 e q3 q4;obtain⟨got1,dn1,fd1,fg1,bad1⟩:=R;obtain⟨b1,rfl⟩:=HV.1 DL;simp -implicitDefEqProofs only[go_sem];refine Kt Fu (.inl rfl) rfl rfl rfl rfl ?_;simp -implicitDefEqProofs only[go_sem,hpF,fRow,fK,Gn,Gp];exact .done (wk.refl _)
     |true=>
      obtain⟨got1,dn1,fd1,fg1,bad1⟩:=S'
      dsimp only at q5 q6
      cases bad1 with
      |some b1=>
       rw[(JgY (S:=⟨got1,dn1,fd1,fg1,some b1⟩) rfl).1]at l3;rw[l3];simp -implicitDefEqProofs only[go_sem,hpF,fRow,fK,Gn,Gp];exact .done (wk.refl _)
      |none=>
       have e:R=⟨if l=[] then got1 else got1.set i l,dn1.set i true,fd1,fg1,none⟩:=by
        rw[l3];unfold FS.fin;simp only;rw[if_neg (by decide),if_pos Bg]
       rw[e];have U4:(gz got1).length=t.nodes.length:=by rw[Yl];exact q5
       have Pk:(bqz dn1).length=t.nodes.length:=by rw[bqz_len];exact q6
       have Cz:(txz l).length=l.length:=Xr;have Uc:(gz got1).getD i []=[txV (JG got1 i)]:=XA (by rw[q5];exact hi);have I8:(bqz dn1).getD i []=[.bool (dn1.getD i false)]:=bqz_get (by rw[q6];exact hi);by_cases AZ:l=[]
       ·subst AZ;have d2:((0:Int)<(([]:TL).length:Int))=False:=eq_false (by simp);rw[if_pos rfl];simp -implicitDefEqProofs only[go_sem,hpF,fRow,fK,Gu,Gw,txV,Cz,Pk,I8,bqz_set,Gf,Gg]
        repeat refine anO ?_
        exact .done (wk.refl _)
       ·have d2:((0:Int)<(l.length:Int))=True:=eq_true (by have:=List.length_pos_iff.2 AZ;omega);rw[if_neg AZ];have Dw:(gz got1).set i [.rslc 1 (txz l) none]=gz (got1.set i l):=gz_set;simp -implicitDefEqProofs only[go_sem,hpF,fRow,fK,Gu,Gw,txV,Cz,d2,Pk,U4,Uc,I8,bqz_set,Dw,Gf,Gg]
        repeat refine anO ?_
        exact .done (wk.refl _)
end
end
section
section
variable {P:Program}{E:Env}{n0:Nat}{N:Fr}{Q:Exit->List CV->List CObj->Prop}{H H':List CObj}{T:List CV}{k:List KItem}
theorem ok_pad (h:Ok P E n0 N Q k T (H++[.dead])):Ok P E n0 N Q k T H:=by
 intro m w a b cs kr rest hp hd hk;obtain⟨hs,ho,he⟩:=Sim.pad (n0:=n0) hp.sim;exact Reach.step (.refl _ _) he (h _ w a b cs kr rest ⟨hs,KJ ho (Kv.refl _) _ _ hp.tmps,by have:=hp.long;simp;omega⟩ (hd.ext he) hk)
theorem ok_pads:∀(m:Nat) {H:List CObj},Ok P E n0 N Q k T (H++Gh m .dead)->Ok P E n0 N Q k T H
 |0,H,h=>by simpa using h
 |m+1,H,h=>ok_pad (ok_pads m (by rw[List.append_assoc];exact h))
theorem NoD.none {p:Nat}(h1:(T.all λc=>(refs c).isEmpty)=true)(h2:(H.all λo=>(Jgs o).isEmpty)=true):NoD p T H:=by
 rw[List.all_eq_true]at h1 h2;exact⟨λc hc i hi=>(by have:=h1 c hc;rw[Hg]at this;rw[this]at hi;cases hi),λo ho i hi=>(by have:=h2 o ho;rw[Hg]at this;rw[this]at hi;cases hi)⟩
theorem nf_at:∀{l l':List CV}{t:Nat}{c':CV},wks l l'->l'[t]? = some c'->∃c,l[t]? = some c/\Cm.wk c c'
 |[],[],_,_,_,h=>by simp at h
 |c::l,c'::l',0,d,hw,h=>by simp at h;subst h;exact⟨c,rfl,hw.1⟩
 |c::l,c'::l',t+1,d,hw,h=>by simp at h;simpa using nf_at hw.2 h
theorem nf_ln:∀{l l':List CV},wks l l'->l.length=l'.length
 |[],[],_=>rfl
 |_::l,_::l',hw=>by simp[nf_ln hw.2]
theorem vr_wkE {i z:Nat}{els els':List (List CV)}(hH:H[i]? = some (.arr z els))(hl:els.length=els'.length)(hw:∀(j:Nat) (a b:List CV),els[j]? = some a->els'[j]? = some b->wks a b)(h:Kn P E n0 N Q k T (H.set i (.arr z els'))):Ok P E n0 N Q k T H:=by
 intro m w a' b' cs kr rest hp hd hk;have hs:=hp.sim;have Dw:∀{k:Nat} {o:CObj},(H.set i (.arr z els'))[k]? = some o->(k=i/\o=.arr z els')\/(k≠i/\H[k]? = some o):=λ{k o} h=>by
  by_cases EL:k=i
  ·subst EL;rw[List.getElem?_set_self (GG.1 hH).1]at h;exact .inl ⟨rfl,(Option.some.inj h).symm⟩
  ·rw[List.getElem?_set_ne (λg=>EL g.symm)]at h;exact .inr ⟨EL,h⟩
 have key:∀(k:Nat) o,(H.set i (.arr z els'))[k]? = some o->∃o',H[k]? = some o'/\o'.alive=o.alive:=λk o h=>by
  rcases Dw h with ⟨rfl,rfl⟩|⟨_,h2⟩
  ·exact⟨_,hH,rfl⟩
  ·exact⟨o,h2,rfl⟩
 have Az:Sim E m (H.set i (.arr z els')) w:=by
  refine⟨by rw[GK];exact hs.len,λk o x hk hx=>?_,hs.imm,hs.one,λk k' o o' x x' hk AA ha AV hx Ar hB=>?_,λk o x hk ha hx=>?_,λk s b hk=>?_,λk o x hk ha hx=>?_,hs.extlt,hs.gl⟩
  ·rcases Dw hk with ⟨rfl,rfl⟩|⟨_,h2⟩
   ·obtain⟨hz,c,elem,h1,h2,h3,h4,h5⟩:=hs.obj k _ x hH hx;refine⟨hz,c,elem,h1,h2,by rw[<-hl];exact h3,λj e he=>?_,h5⟩;have hj:j<els.length:=by rw[hl];exact(GG.1 he).1
    have aS:=hw j _ e (Gx hj) he;obtain⟨q1,q2⟩:=h4 j _ (Gx hj);refine⟨by rw[<-nf_ln aS];exact q1,λt c' CQ=>?_⟩;obtain⟨c0,g1,g2⟩:=nf_at aS CQ;obtain⟨r,r1,r2⟩:=q2 t c0 g1;exact⟨r,r1,g2 _ _ _ r2⟩
   ·exact hs.obj k o x h2 hx
  ·obtain⟨p,hp,CO⟩:=key k o hk;obtain⟨p',Du,Ir⟩:=key k' o' AA;exact hs.sep k k' p p' x x' hp Du (CO.trans ha) (Ir.trans AV) hx Ar hB
  ·obtain⟨p,hp,CO⟩:=key k o hk;exact hs.ro k p x hp (CO.trans ha) hx
  ·rcases Dw hk with ⟨_,h2⟩|⟨_,h2⟩
   ·cases h2
   ·exact hs.ext k s b h2
  ·obtain⟨p,hp,CO⟩:=key k o hk;exact hs.extsep k p x hp (CO.trans ha) hx
 have he:Ext n0 m H w m (H.set i (.arr z els')) w:=by
  refine⟨Gv _,λ_ _ _=>rfl,Kv.refl _,λB hB=>.inl ?_,λB i v hv=>.inl hv,λk x _ hx=>hx,λh=>h,rfl,rfl,rfl⟩;rcases hB with h|⟨k,o,x,hk,ha,hx,hB⟩
  ·exact .inl h
  ·obtain⟨p,hp,CO⟩:=key k o hk;exact .inr ⟨k,p,x,hp,CO.trans ha,hx,hB⟩
 exact Reach.step (.refl _ _) he (JA _ _ _ h _ w a' b' cs kr rest ⟨Az,hp.tmps,by rw[GK];exact hp.long⟩ (hd.ext he) hk)
theorem vr_pads (m:Nat)(hH:H++Gh m .dead=H')(h:Kn P E n0 N Q k T H'):Ok P E n0 N Q k T H:=ok_pads m (by rw[hH];exact JA _ _ _ h)
end
def nfH (t:Tr)(of up fi:List Int)(X:List CObj):List CObj:=.arr 11 [[.rslc 5 (ndz t.nodes) none,.rslc 1 (iz t.items) none,.rslc 1 (iz of) none,.slc 5 0 t.nodes.length (some t.nodes.length),.slc 6 0 t.nodes.length (some t.nodes.length),.slc 1 0 t.nodes.length (some t.nodes.length),.slc 2 0 t.nodes.length (some t.nodes.length),.map 3,.map 4,.int .i64 0,.bool false]] :: .arr 1 (gz (Gh t.nodes.length [])) :: .arr 1 (bqz (Gh t.nodes.length false)) :: .map [] :: .map [] :: .arr 1 (iz up) :: .arr 1 (iz fi) :: .arr 1 [[.ptr 0 0 0]]::X
theorem nfH_ren {t:Tr}{of up fi:List Int}{X:List CObj}:Kl [0,1,2,3,4,5,6,7] (nfH t of up fi X)=nfH t of up fi []:=by
 show [_,Xv _ (.arr 1 (gz _)),Xv _ (.arr 1 (bqz _)),_,_,Xv _ (.arr 1 (iz up)),Xv _ (.arr 1 (iz fi)),_]=_;simp only[Xv];rw[Ja (QA _),Ja (QF _),Ja (Je _),Ja (Je _)];rfl
theorem nfH_frz {t:Tr}{of up fi:List Int}{X:List CObj}{id z:Nat}{e:List (List CV)}:Ku (id+8) z e (nfH t of up fi X)=nfH t of up fi ((X.map (Qa (id+8) z e)).set id .dead):=by
 have h0:∀(j:Nat) (a b:Nat) (c:Option Nat),j<8->frz (id+8) z e (.slc j a b c)=.slc j a b c:=λj a b c h=>by simp only[frz];rw[iN7]
 have h1:frz (id+8) z e (.ptr 0 0 0)=.ptr 0 0 0:=by simp only[frz];rw[iN7]
 simp only[nfH,Ku,Gj,Gl,Qa,JX,h0 5 _ _ _ (by decide),h0 6 _ _ _ (by decide),h0 1 _ _ _ (by decide),h0 2 _ _ _ (by decide),h1,JC (QA _),JC (QF _),JC (Je _),Gd];rfl
theorem nfH_end {t:Tr}{o of:List Int}{K:FT0}(hK:K=⟨t,of,upZ t t.nodes.length,fiZ t o t.nodes.length⟩):Fnl 0 (.ptr 0 0 0) (hpF K (FS.start t) []) (.ptr 0 0 0) (nfH t of (upZ t t.nodes.length) (fiZ t o t.nodes.length) []):=by
 subst hK;have hu:(iz (upZ t t.nodes.length)).length=t.nodes.length:=by rw[Jg,JcC]
 have hf:(iz (fiZ t o t.nodes.length)).length=t.nodes.length:=by rw[Jg,JaT]
 have h1:∀(j a b id:Nat) (c:Option Nat) (z:Nat) (e:List (List CV)),j≠id->frz id z e (.slc j a b c)=.slc j a b c:=λj a b id c z e h=>by simp only[frz];rw[if_neg h]
 have h2:∀(id z:Nat) (e:List (List CV)),0≠id->frz id z e (.ptr 0 0 0)=.ptr 0 0 0:=λid z e h=>by simp only[frz];rw[if_neg h]
 have h3:∀(id z:Nat) (e:List (List CV)) (n:Nat),e.length=n->frz id z e (.slc id 0 n (some n))=.rslc z e none:=λid z e n h=>by
  subst h;simp only[frz,if_true,Gr,Gv,Gq,List.take_length]
 have e1:Ku 5 1 (iz (upZ t t.nodes.length)) (nfH t of (upZ t t.nodes.length) (fiZ t o t.nodes.length) [])=[.arr 11 [[.rslc 5 (ndz t.nodes) none,.rslc 1 (iz t.items) none,.rslc 1 (iz of) none,.rslc 1 (iz (upZ t t.nodes.length)) none,.slc 6 0 t.nodes.length (some t.nodes.length),.slc 1 0 t.nodes.length (some t.nodes.length),.slc 2 0 t.nodes.length (some t.nodes.length),.map 3,.map 4,.int .i64 0,.bool false]],.arr 1 (gz (Gh t.nodes.length [])),.arr 1 (bqz (Gh t.nodes.length false)),.map [],.map [],.dead,.arr 1 (iz (fiZ t o t.nodes.length)),.arr 1 [[.ptr 0 0 0]]]:=by
  simp only[nfH,Ku,Gj,Gl,Qa,JX,h1 6 _ _ 5 _ _ _ (by decide),h1 1 _ _ 5 _ _ _ (by decide),h1 2 _ _ 5 _ _ _ (by decide),h2 5 _ _ (by decide),h3 5 1 _ _ hu,JC (QA _),JC (QF _),JC (Je _),Gd,Gc];rfl
 have e2:Ku 6 1 (iz (fiZ t o t.nodes.length)) [.arr 11 [[.rslc 5 (ndz t.nodes) none,.rslc 1 (iz t.items) none,.rslc 1 (iz of) none,.rslc 1 (iz (upZ t t.nodes.length)) none,.slc 6 0 t.nodes.length (some t.nodes.length),.slc 1 0 t.nodes.length (some t.nodes.length),.slc 2 0 t.nodes.length (some t.nodes.length),.map 3,.map 4,.int .i64 0,.bool false]],.arr 1 (gz (Gh t.nodes.length [])),.arr 1 (bqz (Gh t.nodes.length false)),.map [],.map [],.dead,.arr 1 (iz (fiZ t o t.nodes.length)),.arr 1 [[.ptr 0 0 0]]]=hpF ⟨t,of,upZ t t.nodes.length,fiZ t o t.nodes.length⟩ (FS.start t) [.dead,.dead,.arr 1 [[.ptr 0 0 0]]]:=by
  simp only[Ku,Gj,Gl,Qa,JX,h1 1 _ _ 6 _ _ _ (by decide),h1 2 _ _ 6 _ _ _ (by decide),h2 6 _ _ (by decide),h3 6 1 _ _ hf,JC (QA _),JC (QF _),JC (Je _),Gd,Gc];rfl
 refine .frz 5 1 (iz (upZ t t.nodes.length)) rfl (Je _) ?_;rw[h2 5 _ _ (by decide),e1];refine .frz 6 1 (iz (fiZ t o t.nodes.length)) rfl (Je _) ?_;rw[h2 6 _ _ (by decide),e2];refine .ren [0,1,2,3,4] rfl ?_;rw[Qb (Y:=[]) rfl];exact .done (wk.refl _)
section
variable {t:Tr}{o:List Int}(g:GoodT t o)(ht:t.Fit)
include g ht
theorem newFinder (of:List Int):CallsC Gs Env.none 32 [t.cv,.agg [.rslc 1 (iz of) none]] [] λv H'=>v=.ptr 0 0 0/\H'=hpF ⟨t,of,upZ t t.nodes.length,fiZ t o t.nodes.length⟩ (FS.start t) []:=by
 have Ai:=g.many;refine CallsC.fnl ?_;refine vfS c32_ok λN=>?_
 simp -implicitDefEqProofs only[c32,go_sem,Tr.cv,Tr.row,Jb];refine Jd (id:=0) (z:=2) (els:=[t.row]) rfl rfl ?_;simp -implicitDefEqProofs only[go_sem,Tr.row];refine Jd (id:=1) (z:=1) (els:=[[.rslc 1 (iz of) none]]) rfl rfl ?_;simp -implicitDefEqProofs only[go_sem];refine vr_ren [] rfl ?_;simp -implicitDefEqProofs only[go_sem];refine vr_pads 8 rfl ?_;simp -implicitDefEqProofs only[go_sem];refine Jaz (H':=[.dead,.dead,.dead,.dead,.dead,.dead,.dead,.dead]) rfl ?_;simp -implicitDefEqProofs only[go_sem];have MP:∀(ρ:List Nat) (id i n:Nat),Jm id ρ 0=some i->ren ρ (.slc id 0 n (some n))=.slc i 0 n (some n):=λρ id i n h=>by simp only[ren,h]
 have D7:∀(ρ:List Nat) (id i:Nat),Jm id ρ 0=some i->ren ρ (.map id)=.map i:=λρ id i h=>by simp only[ren,h]
 have bi:∀(ρ:List Nat) (id i:Nat),Jm id ρ 0=some i->ren ρ (.ptr id 0 0)=.ptr i 0 0:=λρ id i h=>by simp only[ren,h]
 have Uf:∀b:Int,0<=b->b<=24->(Cond.and (.ile 0 (t.nodes.length:Int)) (.and (.ile (t.nodes.length:Int) (t.nodes.length:Int)) (.and (.ile (t.nodes.length:Int) 281474976710656) (.ile (b*(t.nodes.length:Int)) 281474976710656)))).holds:=λb h1 h2=>by
  refine⟨?_,?_,?_,?_⟩
  ·show (0:Int)<=_;omega
  ·show (t.nodes.length:Int)<=_;omega
  ·show (t.nodes.length:Int)<=_;omega
  ·show b*(t.nodes.length:Int)<=_;have:=Int.mul_le_mul h2 (show (t.nodes.length:Int)<=700 by omega) (by omega) (by omega);omega
 have Pd:∀(m:Nat) (c:CV),refs c=[]->Jgs (.arr 1 (Gh m [c]))=[]:=λm c h=>by
  simp[Jgs,Je7,h,List.flatMap_replicate]
 refine vr_dregZ 0 [(0,[]),(0,[]),(0,[]),(0,[]),(6,[]),(0,[]),(7,[]),(0,[]),(2,[]),(0,[]),(3,[]),(4,[]),(5,[]),(0,[5,6,1,2,3,4]),(1,[5,6,1,2,3,4]),(8,[]),(8,[0])] Js (by decide +kernel) (NoD.none rfl rfl) ?_;refine Jc4 rfl rfl (GQ rfl) rfl (by simp) ?_;simp -implicitDefEqProofs only[go_sem];refine Jc4 rfl rfl (GQ rfl) rfl (by simp) ?_;simp -implicitDefEqProofs only[go_sem];refine Jc4 rfl rfl trivial rfl (by simp) ?_;simp -implicitDefEqProofs only[go_sem];refine Jc4 rfl rfl trivial rfl (by simp) ?_;simp -implicitDefEqProofs only[go_sem];refine Jc5 5 (λid=>.slc id 0 t.nodes.length (some t.nodes.length)) (.arr 1 (Gh t.nodes.length [.int .i64 0])) rfl (λ_=>rfl) (Uf 8 (by decide) (by decide)) (λ_ _ _ h=>MP _ _ _ _ h) rfl rfl rfl (by decide) (by decide) (Pd _ _ rfl) (by simp) ?_;simp -implicitDefEqProofs only[go_sem,Gc,Gd];refine Jc4 rfl rfl trivial rfl (by simp) ?_;simp -implicitDefEqProofs only[go_sem];refine Jc5 6 (λid=>.slc id 0 t.nodes.length (some t.nodes.length)) (.arr 1 (Gh t.nodes.length [.int .i64 0])) rfl (λ_=>rfl) (Uf 8 (by decide) (by decide)) (λ_ _ _ h=>MP _ _ _ _ h) rfl rfl rfl (by decide) (by decide) (Pd _ _ rfl) (by simp) ?_;simp -implicitDefEqProofs only[go_sem,Gc,Gd];refine Jc4 rfl rfl trivial rfl (by simp) ?_;simp -implicitDefEqProofs only[go_sem];refine Jc5 1 (λid=>.slc id 0 t.nodes.length (some t.nodes.length)) (.arr 1 (Gh t.nodes.length [.nils])) rfl (λ_=>rfl) (Uf 24 (by decide) (by decide)) (λ_ _ _ h=>MP _ _ _ _ h) rfl rfl rfl (by decide) (by decide) (Pd _ _ rfl) (by simp) ?_;simp -implicitDefEqProofs only[go_sem,Gc,Gd];refine Jc4 rfl rfl trivial rfl (by simp) ?_;simp -implicitDefEqProofs only[go_sem];refine Jc5 2 (λid=>.slc id 0 t.nodes.length (some t.nodes.length)) (.arr 1 (Gh t.nodes.length [.bool false])) rfl (λ_=>rfl) (Uf 1 (by decide) (by decide)) (λ_ _ _ h=>MP _ _ _ _ h) rfl rfl rfl (by decide) (by decide) (Pd _ _ rfl) (by simp) ?_;simp -implicitDefEqProofs only[go_sem,Gc,Gd];refine Jc5 3 (λid=>.map id) (.map []) rfl (λ_=>rfl) trivial (λ_ _ _ h=>D7 _ _ _ h) rfl rfl rfl (by decide) (by decide) rfl (by simp) ?_;simp -implicitDefEqProofs only[go_sem,Gc,Gd];refine Jc5 4 (λid=>.map id) (.map []) rfl (λ_=>rfl) trivial (λ_ _ _ h=>D7 _ _ _ h) rfl rfl rfl (by decide) (by decide) rfl (by simp) ?_;simp -implicitDefEqProofs only[go_sem,Gc,Gd];have AU:∀(H:List CObj) (i:Nat),(∃ob,H[i]? = some ob/\ob.alive=true)->okId H 0 i:=λH i ⟨ob,h1,h2⟩=>⟨(GG.1 h1).1,λhd=>by rw[hd]at h1;cases h1;cases h2⟩
 refine Jc4 rfl rfl trivial rfl (by
  intro i hi;simp only[G8,GZ,or_false]at hi;rcases hi with rfl|rfl|rfl|rfl|rfl|rfl <;> exact AU _ _ ⟨_,rfl,rfl⟩) ?_
 simp -implicitDefEqProofs only[go_sem];refine Jc5 0 (λid=>.ptr id 0 0) (.arr 11 [[.rslc 5 (ndz t.nodes) none,.rslc 1 (iz t.items) none,.rslc 1 (iz of) none,.slc 5 0 t.nodes.length (some t.nodes.length),.slc 6 0 t.nodes.length (some t.nodes.length),.slc 1 0 t.nodes.length (some t.nodes.length),.slc 2 0 t.nodes.length (some t.nodes.length),.map 3,.map 4,.int .i64 0,.bool false]]) rfl (λ_=>rfl) trivial (λ_ _ _ h=>bi _ _ _ h) rfl rfl rfl (by decide) (by decide) rfl (by
  intro i hi;simp only[G8,GZ,or_false]at hi;rcases hi with rfl|rfl|rfl|rfl|rfl|rfl <;> exact AU _ _ ⟨_,rfl,rfl⟩) ?_
 simp -implicitDefEqProofs only[go_sem,Gc];refine Jc5 7 (λid=>.ptr id 0 0) (.arr 1 [[.nilp]]) rfl (λ_=>rfl) trivial (λ_ _ _ h=>bi _ _ _ h) rfl rfl rfl (by decide) (by decide) rfl (by simp) ?_;simp -implicitDefEqProofs only[go_sem,Gc,Gd];refine vz_set 7 (.arr 1 [[.ptr 0 0 0]]) rfl (λH2 h=>?_) (c:=.and (.le 1 1) (.le 1 1)) (v:=.un) ?_ rfl rfl rfl (by
  intro i hi;rw[He]at hi;subst hi;exact AU _ _ ⟨_,rfl,rfl⟩) (by simp) ?_
 ·have h2:H2[7]? = some (CObj.arr 1 [[CV.nilp]]):=h;simp only[exec,go_sem,h2]
 ·exact⟨Gv _,Gv _⟩
 simp -implicitDefEqProofs only[vdz,go_sem,JX,frz,ren,JB,Gc,Gd,GH,Gq,GD,if_true,if_false];refine vr_wkE (i:=1) (z:=1) (els':=gz (Gh t.nodes.length [])) rfl (by simp[gz]) (λj a b h1 h2=>?_) ?_
 ·rw[Gz]at h1;simp only[gz,List.map_replicate,Gz]at h2
  split at h1
  ·rename_i hj;rw[if_pos hj]at h2
   cases h1;cases h2
   exact⟨wk.nils,trivial⟩
  ·cases h1
 simp -implicitDefEqProofs only[go_sem,Gc,Gd];refine Jaz (H':=nfH t of (upZ t 0) (fiZ t o 0) []) (by rw[upZ_zero g,fiZ_zero];simp[nfH,bqz,iz]) ?_;simp -implicitDefEqProofs only[go_sem,Jb];refine Jw (I:=λj:Nat=>j<=t.nodes.length) (inv:=λj=>mkT 71 [(6,.ptr 7 0 0),(30,.rslc 5 (ndz t.nodes) none),(31,.int .i64 (t.nodes.length:Int)),(32,.int .i64 (j:Int))]) (hp:=λj=>nfH t of (upZ t j) (fiZ t o j) []) (μ:=λj=>t.nodes.length-j) 0 [0,1,2,3,4,5,6,7] (by omega) rfl ?_ nfH_ren ?_
 ·simp only[QI,Gj,Gl,ren,Jm];refine JR ?_;simp[Qj,KY]
 ·intro j hj;by_cases Ab:j<t.nodes.length
  ·have d2:((j:Int)<(t.nodes.length:Int))=True:=Jq;have hg:=JY Ab;simp -implicitDefEqProofs only[go_sem,nfH,d2,Jb,hg,Nd.cv]
   repeat refine anO ?_
   have fr:Ku 8 1 [[.int .i64 (j:Int)]] (nfH t of (upZ t j) (fiZ t o j) [.arr 1 [[.int .i64 (j:Int)]],.arr 5 [(nd t j).cv]])=nfH t of (upZ t j) (fiZ t o j) [.dead,.arr 5 [(nd t j).cv]]:=nfH_frz (id:=0);have fr2:Ku 9 5 [(nd t j).cv] (nfH t of (upZ t j) (fiZ t o j) [.dead,.arr 5 [(nd t j).cv]])=nfH t of (upZ t j) (fiZ t o j) [.dead,.dead]:=nfH_frz (id:=1);simp only[nfH,Nd.cv]at fr fr2;refine Jd (id:=8) (z:=1) (els:=[[.int .i64 (j:Int)]]) rfl rfl ?_;rw[fr];simp -implicitDefEqProofs only[go_sem,QJ,frz,Gj,Gl,GH,Gq,GD,if_true,if_false];refine Jd (id:=9) (z:=5) (els:=[(nd t j).cv]) rfl rfl ?_;simp only[Nd.cv];rw[fr2];simp -implicitDefEqProofs only[go_sem,QJ,frz,Gj,Gl,GH,Gq,GD,if_true,if_false];refine Kj [1,0,0,1,0,0,1,2] Js (by decide +kernel) ?_;have Fj:(iz (fiZ t o j)).length=t.nodes.length:=by rw[Jg,JaT]
   have Pi:(iz (fiZ t o j)).getD j []=[.int .i64 ((fiZ t o j).getD j 0)]:=JN (by rw[JaT];exact Ab);simp -implicitDefEqProofs only[go_sem,Fj,Pi,iz_set]
   repeat refine anO ?_
   refine J6 (backward (nd t j).kids) ?_;simp -implicitDefEqProofs only[go_sem];have BJ:=(JdN ht Ab).kidn;refine Jaz (H':=nfH t of (Xj (j:Int) (upZ t j) ((nd t j).kids.reverse.take 0)) ((fiZ t o j).set j (fiS o j (nd t j).kids 0)) [.dead,.dead]) rfl ?_;simp -implicitDefEqProofs only[go_sem];refine vr_rfuncJ (xs:=bks (nd t j).kids) (Γ:=Unit) (λs _=>True) (λs _=>nfH t of (Xj (j:Int) (upZ t j) ((nd t j).kids.reverse.take s)) ((fiZ t o j).set j (fiS o j (nd t j).kids s)) [.dead,.dead]) () trivial rfl rfl rfl rfl c73_ok nm (backward1 _ (by omega)) (by simp[bks]) rfl ?_ ?_
   ·intro s _ c _ hc;have Di:s<(nd t j).kids.length:=by
     have:=(GG.1 hc).1;rwa [JeT]at this
    rw[bks_get Di]at hc
    cases hc
    have DY:s<(nd t j).kids.reverse.length:=by rw[List.length_reverse];exact Di
    have Al:(nd t j).kids.reverse.take (s+1)=(nd t j).kids.reverse.take s++[(nd t j).kids.reverse.getD s 0]:=by
     rw[List.take_succ_eq_append_getElem DY,Gb,Gx DY];rfl
    have AB:(nd t j).kids.reverse.getD s 0∈(nd t j).kids:=by
     rw[Gb,Gx DY,Gp,<-List.mem_reverse];exact Hl DY
    have ja:=g.kid Ab AB;have Fh:fiS o j (nd t j).kids (s+1)=fs o ((nd t j).kids.reverse.getD s 0):=by unfold fiS;rw[iN7,Nat.add_sub_cancel]
    generalize (nd t j).kids.reverse.getD s 0=k at *;obtain⟨c,rfl⟩:∃c:Nat,k=c:=⟨k.toNat,by omega⟩;have dP:(iz (Xj (j:Int) (upZ t j) ((nd t j).kids.reverse.take s))).length=t.nodes.length:=by rw[Jg,Jbb,JcC]
    have A9:(iz ((fiZ t o j).set j (fiS o j (nd t j).kids s))).length=t.nodes.length:=by rw[Jg,GK,JaT]
    have Uc:∀x:Nat,x<t.nodes.length->(iz ((fiZ t o j).set j (fiS o j (nd t j).kids s))).getD x []=[.int .i64 (if x=j then fiS o j (nd t j).kids s else(fiZ t o j).getD x 0)]:=λx hx=>by
     rw[JN (by rw[GK,JaT];exact hx),Gb,List.getElem?_set];by_cases e:j=x
     ·subst e;simp[JaT,hx]
     ·rw[if_neg e,if_neg (λh=>e h.symm),<-Gb]
    have DT:=Uc c (by omega);have Bv:=Uc j Ab;rw[iN7,fiZ_get (by omega) (by omega)]at DT;rw[if_pos rfl]at Bv;have dQ:(iz (Xj (j:Int) (upZ t j) ((nd t j).kids.reverse.take s))).getD c []=[.int .i64 ((Xj (j:Int) (upZ t j) ((nd t j).kids.reverse.take s)).getD c 0)]:=JN (by rw[Jbb,JcC];omega);simp -implicitDefEqProofs only[go_sem,nfH];refine Kj [1,0,0,1,0,1,0,0,1,0,0,1,0,0,1,0,1,1,1,2,1,2] Js (by decide +kernel) ?_;simp -implicitDefEqProofs only[go_sem,dP,A9,DT,Bv,dQ,iz_set]
    repeat refine anO ?_
    rw[Al,JbF,Fh,List.set_set];exact⟨(),rfl⟩
   ·intro _ _;rw[JeT,GU (by simp),<-upZ_succ g Ab,fiZ_succ g Ab];simp -implicitDefEqProofs only[go_sem];refine⟨Jh,j+1,[0,1,2,3,4,5,6,7],by omega,by omega,rfl,nfH_ren,?_⟩;simp only[ren,Jm];refine JR ?_;simp[Qj,KY]
  ·have d2:((j:Int)<(t.nodes.length:Int))=False:=Jo;obtain rfl:j=t.nodes.length:=by omega
   simp -implicitDefEqProofs only[go_sem,nfH,d2];exact nfH_end rfl
end
end
section
theorem fn_fnl {P:Program}{f:Nat}{args:List CV}{v0:CV}(h:CallsC P Env.none f args [] λv H'=>Fnl 0 v0 [] v H')(ha:Jp args=true)(hv:v0.closed=true):Fn P f args v0:=
 JgS ((CallsC.fnl h).mono λ_ _ h=>h.1) ha hv
theorem Fnl.drop {v v0:CV}{H:List CObj}(hc:v.closed=true)(hw:wk v v0):Fnl 0 v0 [] v H:=by
 refine .ren [] rfl ?_;rw[YT v hc];exact .done hw
def Jhc (t:Tr)(o:List Int):CV:=if (X4 t o).2≠0 then .tup [.agg [.nils],.int .i64 ((X4 t o).1:Int),.int .i64 (X4 t o).2] else match (Km t o).bad with
 |some i=>.tup [.agg [.nils],.int .i64 (i:Int),.int .i64 11]
 |none=>.tup [.agg [.rslc 1 (gz (Km t o).got) none],.int .i64 0,.int .i64 0]
def cpG (got:List TL)(n j:Nat):List TL:=(Gm n).map λx=>if x<j then JG got x else []
theorem cpG_len {got:List TL}{n j:Nat}:(cpG got n j).length=n:=by simp[cpG]
theorem cpG_set {got:List TL}{n j:Nat}:(cpG got n j).set j (JG got j)=cpG got n (j+1):=by
 refine G7 (by simp[cpG]) λx h1 h2=>?_
 rw[List.getElem_set];simp only[cpG,G6,GX];by_cases e:j=x
 ·subst e;simp
 ·rw[if_neg e];by_cases h:x<j
  ·rw[if_pos h,iP7]
  ·rw[if_neg h,iN7]
theorem cpG_all {got:List TL}{n:Nat}(h:got.length=n):cpG got n n=got:=by
 refine G7 (by simp[cpG,h]) λx h1 h2=>?_
 simp only[cpG,G6,GX];rw[if_pos (by simpa [cpG]using h1)];unfold JG;rw[Gb,Gx h2];rfl
theorem nf_in {K:FT0}{S:FS}{x:CV}(hx:x.closed=true):Kl [1,2,3,4,5,0] (Jak [] 1 0 (hpF K S []) [.arr 1 [[x]]])=hpF K S [.arr 1 [[x]]]:=by
 have h1:=JdG (τ:=tau [] 1) (z:=1) (QA S.got);have h2:=JdG (τ:=tau [] 1) (z:=1) (QF S.dn);have h3:∀l:List (Nat×Bool),moO (tau [] 1) (.map (kz l))=.map (kz l):=λl=>by
  show CObj.map ((kz l).map λp=>(mo _ p.1,mo _ p.2))=_;unfold kz;rw[List.map_map];rfl
 have e:Jak [] 1 0 (hpF K S []) [.arr 1 [[x]]]=[.arr 1 [[x]],moO (tau [] 1) (.arr 11 [fRow K S.bad]),.arr 1 (gz S.got),.arr 1 (bqz S.dn),.map (kz S.fd),.map (kz S.fg)]:=by
  rw[<-h1,<-h2,<-h3 S.fd,<-h3 S.fg];rfl
 rw[e];show [Xv _ (moO (tau [] 1) (.arr 11 [fRow K S.bad])),Xv _ (.arr 1 (gz S.got)),Xv _ (.arr 1 (bqz S.dn)),Xv _ (.map (kz S.fd)),Xv _ (.map (kz S.fg)),Xv _ (.arr 1 [[x]])]=_;have h4:∀l:List (Nat×Bool),Xv [1,2,3,4,5,0] (.map (kz l))=.map (kz l):=λl=>by rw[Jgr,ren_kz]
 rw[h4,h4];simp only[Xv];rw[Ja (QA _),Ja (QF _)];have h5:JB [1,2,3,4,5,0] [x]=[x]:=by simp only[JB,YT x hx]
 simp only[Gj,Gl,h5];rfl
theorem in_ren {K:FT0}{S:FS}{got:List TL}{n:Nat}:Kl [0,1,2,3,4,5,6] (hpF K S [.arr 1 [[.slc 6 0 n (some n)]],.arr 1 (gz got)])=hpF K S [.arr 1 [[.slc 6 0 n (some n)]],.arr 1 (gz got)]:=by
 refine Qb ?_;show [Xv _ (.arr 1 [[.slc 6 0 n (some n)]]),Xv _ (.arr 1 (gz got))]=_;simp only[Xv];rw[Ja (QA _)];rfl
section
variable {t:Tr}{o:List Int}(g:GoodT t o)(ht:t.Fit)
include g ht
omit ht in
theorem in_pre {S':FS}{j:Nat}(hj:j<t.nodes.length)(hd:S'.bad=none->∀k,k<j->S'.dn.getD (0+k) false=true):PreQ t o S' j:=λhb=>by
 have Bw:=hd hb;refine⟨λc hc=>?_,λv hv Ce Od _=>?_⟩
 ·have Aq:=(JQ g hj hc).2;have:=Bw c (by omega);rw[Gr]at this;exact this
 ·have:=Bw v (by omega);rw[Gr]at this;exact this
theorem Y3:Fn Gs 23 [t.cv] (Jhc t o):=by
 have Ai:=g.many;have hR:=nResolve g ht;refine fn_fnl ?_ rfl (by unfold Jhc;split;rfl;split <;> rfl);refine vfS c23_ok λN=>?_
 simp -implicitDefEqProofs only[c23,go_sem,Tr.cv,Tr.row];refine J6 hR ?_;by_cases hE:(X4 t o).2=0
 ·rw[if_pos hE];simp -implicitDefEqProofs only[go_sem];refine Jd (id:=0) (z:=2) (els:=[t.row]) rfl rfl ?_;simp -implicitDefEqProofs only[go_sem,Tr.row];refine Jd (id:=2) (z:=1) (els:=[[.rslc 1 (iz (ofL t o)) none]]) rfl rfl ?_;simp -implicitDefEqProofs only[go_sem];refine vr_ren [1] rfl ?_;simp -implicitDefEqProofs only[go_sem];refine Jaz (H':=[.arr 1 [[.nils]]]) rfl ?_;simp -implicitDefEqProofs only[go_sem,JX,frz,ren,JB,GH,Gq,GD,if_true,if_false,Jm];have hI:=JgI g hE;have Fz:∀j,(K8 0 (j+1)).foldl (doF t o (mnF t o) (t.nodes.length+1)) (FS.start t)=doF t o (mnF t o) (t.nodes.length+1) ((K8 0 j).foldl (doF t o (mnF t o) (t.nodes.length+1)) (FS.start t)) j:=λj=>by
   rw[JbZ,GY,Gr];rfl
  have Aj:(K8 0 t.nodes.length).foldl (doF t o (mnF t o) (t.nodes.length+1)) (FS.start t)=Km t o:=by
   unfold Km K8
   congr 1
   exact List.map_congr_left (λx _=>Gr x) |>.trans (List.map_id _)
  have aA:Ln (FS.start t).got:=λj=>by
   unfold FS.start JG;simp only[Gb,Gz]
   split <;> simp
  have Cq:=λj=>span_ln ht (o:=o) (S:=FS.start t) aA (t.nodes.length+1) (K8 0 j)
  have PI:uf t (FS.start t)<=t.nodes.length:=by
   unfold uf;have:=List.length_filter_le (λs=>!KC (FS.start t).fg s) (Gm t.nodes.length);rw[List.length_range]at this;exact this
  refine vr_locE [] (.inl rfl) (newFinder g ht (ofL t o)) rfl rfl rfl (v2:=.ptr 1 0 0) rfl rfl ?_;simp -implicitDefEqProofs only[go_sem,Jb,Gf,Gg,Gr];refine Jw (I:=λj:Nat=>j<=t.nodes.length) (inv:=λj=>mkT 67 [(1,.rptr [.rslc 5 (ndz t.nodes) none,.rslc 1 (iz t.items) none]),(2,.ptr 5 0 0),(6,.ptr 0 0 0),(25,.int .i64 (t.nodes.length:Int)),(26,.int .i64 (j:Int))]) (hp:=λj=>hpF (fK t o) ((K8 0 j).foldl (doF t o (mnF t o) (t.nodes.length+1)) (FS.start t)) [.arr 1 [[.nils]]]) (μ:=λj=>t.nodes.length-j) 0 [1,2,3,4,5,0] (by omega) rfl ?_ (nf_in rfl) ?_
  ·simp only[QI,Gj,Gl,ren,Jm];refine JR ?_;simp[Qj,KY]
  ·intro j hj;obtain⟨q1,q2,q3,q4⟩:=hI j hj;have OZ:=Cq j;by_cases Ab:j<t.nodes.length
   ·have d2:((j:Int)<(t.nodes.length:Int))=True:=Jq;have hW:=lawDo g ht hE (t.nodes.length+1) _ j q1 q2 OZ Ab (in_pre g Ab q4) (by rw[uf_eq q3];omega);rw[<-Fz]at hW;simp -implicitDefEqProofs only[go_sem,d2];refine Kt hW (.inl rfl) rfl rfl rfl rfl ?_;simp -implicitDefEqProofs only[go_sem];refine⟨Jh,j+1,[0,1,2,3,4,5],by omega,by omega,rfl,Qb rfl,?_⟩;simp only[ren,Jm];refine JR ?_;simp[Qj,KY]
   ·have d2:((j:Int)<(t.nodes.length:Int))=False:=Jo;obtain rfl:j=t.nodes.length:=by omega
    have Cs:Jhc t o=match (Km t o).bad with
     |some i=>.tup [.agg [.nils],.int .i64 (i:Int),.int .i64 11]
     |none=>.tup [.agg [.rslc 1 (gz (Km t o).got) none],.int .i64 0,.int .i64 0]:=by
      unfold Jhc;rw[if_neg (λh=>h hE)]
    rw[Aj]at q1 OZ|-;have A9:=q1.gl;have ig:∀x,Yd (JG (Km t o).got x)=true:=q1.fine;generalize Km t o=SI at *;obtain⟨got,dn,fd,fg,bad⟩:=SI
    dsimp only at A9 OZ Cs ig
    cases bad with
    |some i=>
     rw[Cs];simp -implicitDefEqProofs only[go_sem,d2,hpF,fRow,fK,Gn,Gp];refine Kj [0,0,0,0,4,2005,0,0] Js (by decide +kernel) ?_;simp -implicitDefEqProofs only[go_sem,Jhe (show 1000<=2005 by decide)];refine vy_set 5 (.arr 1 [[.nils]]) (.inl rfl) (c:=.and (.le 1 1) (.le 1 1)) (v:=.un) (λH2 h=>?_) ⟨Gv _,Gv _⟩ (by simp) ?_
     ·have h2:H2[5]? = some (CObj.arr 1 [[CV.nils]]):=h;simp only[exec,go_sem,h2]
     simp -implicitDefEqProofs only[go_sem,Gc,Gd];exact Fnl.drop rfl (wk.refl _)
    |none=>
     rw[Cs];simp -implicitDefEqProofs only[go_sem,d2,hpF,fRow,fK,Gu,Gw,Jb];have U6:(gz got).length=t.nodes.length:=by rw[Yl,A9]
     have Aq:∀j,(gz (cpG got t.nodes.length j)).length=t.nodes.length:=λj=>by rw[Yl,cpG_len]
     refine⟨⟨by omega,by omega,by omega,by omega⟩,?_⟩;refine vr_wkE (i:=6) (z:=1) (els':=gz (cpG got t.nodes.length 0)) rfl (by rw[Aq];simp) (λj a b h1 h2=>?_) ?_
     ·rw[Gz]at h1;have e:gz (cpG got t.nodes.length 0)=Gh t.nodes.length [txV []]:=by simp[gz,cpG,List.map_const']
      rw[e,Gz]at h2
      split at h1
      ·rename_i hj;rw[if_pos hj]at h2
       cases h1;cases h2
       exact⟨wk.nils,trivial⟩
      ·cases h1
     simp -implicitDefEqProofs only[go_sem,Gc,Gd];refine Jw (I:=λj:Nat=>j<=t.nodes.length) (inv:=λj=>mkT 67 [(2,.ptr 5 0 0),(6,.ptr 0 0 0),(49,.int .i64 (t.nodes.length:Int)),(50,.int .i64 (j:Int))]) (hp:=λj=>hpF (fK t o) ⟨got,dn,fd,fg,none⟩ [.arr 1 [[.slc 6 0 t.nodes.length (some t.nodes.length)]],.arr 1 (gz (cpG got t.nodes.length j))]) (μ:=λj=>t.nodes.length-j) 0 [0,1,2,3,4,5,6] (by omega) rfl ?_ (in_ren (K:=fK t o) (S:=⟨got,dn,fd,fg,none⟩)) ?_
     ·simp only[QI,Gj,Gl,ren,Jm];refine JR ?_;simp[Qj,KY]
     ·intro j hj;by_cases Ab:j<t.nodes.length
      ·have d3:((j:Int)<(t.nodes.length:Int))=True:=Jq;have Bv:=XA (l:=got) (i:=j) (by omega);have gJ:=XA (l:=cpG got t.nodes.length j) (i:=j) (by rw[cpG_len];exact Ab);have hC:=cloneTx (l:=JG got j) (by have:=OZ j;omega);have BB:(gz (cpG got t.nodes.length j)).set j [.rslc 1 (txz (JG got j)) none]=gz (cpG got t.nodes.length (j+1)):=by rw[<-cpG_set,<-gz_set];rfl
       simp -implicitDefEqProofs only[go_sem,d3,hpF,fRow,fK];refine Kj [0,1,0,0,0,0,1,0,1,1,0,1,2] Js (by decide +kernel) ?_;simp -implicitDefEqProofs only[go_sem,U6,Bv]
       repeat refine anO ?_
       refine vy_f (.inl rfl) hC ?_;simp -implicitDefEqProofs only[go_sem,txV,Aq,gJ,Gf,Gg,BB]
       repeat refine anO ?_
       refine⟨Jh,j+1,[0,1,2,3,4,5,6],by omega,by omega,rfl,in_ren (K:=fK t o) (S:=⟨got,dn,fd,fg,none⟩),?_⟩;simp only[ren,Jm];refine JR ?_;simp[Qj,KY]
      ·have d3:((j:Int)<(t.nodes.length:Int))=False:=Jo;obtain rfl:j=t.nodes.length:=by omega
       rw[cpG_all A9];simp -implicitDefEqProofs only[go_sem,d3,hpF,fRow,fK];have hz:frz 6 1 (gz got) (.tup [.agg [.slc 6 0 t.nodes.length (some t.nodes.length)],.int .i64 0,.int .i64 0])=.tup [.agg [.rslc 1 (gz got) none],.int .i64 0,.int .i64 0]:=by
        simp only[frz,JX,if_true,Gr,Gq];rw[iP7,GU (by omega)]
       refine .frz 6 1 (gz got) rfl (QA _) ?_;rw[hz];exact Fnl.drop rfl (wk.refl _)
 ·rw[if_neg hE];have e:Jhc t o=.tup [.agg [.nils],.int .i64 ((X4 t o).1:Int),.int .i64 (X4 t o).2]:=by unfold Jhc;rw[if_pos hE]
  have d1:((X4 t o).2 != 0)=true:=by simpa using hE
  rw[e];simp -implicitDefEqProofs only[go_sem,d1];exact Fnl.drop rfl (wk.refl _)
end
end
end Go.Cm
end
end
