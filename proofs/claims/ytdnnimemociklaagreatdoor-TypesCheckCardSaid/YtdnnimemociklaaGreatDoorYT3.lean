/-
  A part of the proof. Conditions: none.
-/
import Derived.Test.YtdnnimemociklaaGreatDoorYT1
import Derived.Test.YtdnnimemociklaaGreatDoorYP13
set_option linter.unusedSimpArgs false
set_option linter.unusedVariables false
open Int renaming cast_ofNat_Int->Ga,toNat_natCast->Gq
open List renaming getD_eq_getElem?_getD->Gh,length_cons->Gg,length_nil->Gf,set_cons_succ->Gl,map_cons->Gc,set_cons_zero->Gn,map_nil->Gd,getElem?_eq_getElem->Gu,drop_zero->Gj,replicate->Gp,getElem?_replicate->GD,range->Gr,take_zero->Gy,take_succ_cons->GG,take_of_length_le->GH,getElem?_eq_some_iff->GK,getD_cons_zero->GI,getElem_range->GL,mem_range->GJ,all_eq_false->GM,length_take->GN,getElem_mem->GQ,getElem_map->GR,ext_getElem->GU,length_set->GV,map_congr_left->G8,drop_succ_cons->G9,foldl_append->Ha,mem_map->GX,not_mem_nil->Hd,length_drop->He,range_succ->Hf,drop_eq_getElem_cons->Ht,getElem?_take_of_lt->Hu,mem_cons->Hg,drop_eq_nil_of_le->Hw,getElem?_eq_none->Hy,map_id->Hl,mem_singleton->Hz,isEmpty_nil->HV,isEmpty_iff->HY,getElem_set->HZ,nil_append->H5,append_nil->H6,all_append->H7,all_cons->H8,all_nil->H9
open Bool renaming and_true->Gv,true_and->GA,not_false->GY,false_and->GZ,true_or->G5,and_eq_true->Hm,not_true->Ho,false_or->Hq,and_eq_false_iff->La
open Nat renaming zero_add->Gi,le_refl->Gm,reduceEqDiff->Gw,le_of_ble_eq_true->G6,sub_zero->G7,reduceAdd->Hr
open Go.Proofs.Tryz renaming prog->Gb
open Option renaming isSome_some->Gs,getD_some->Gt,isSome_none->Gx,getD_none->Gz,isSome_iff_exists->Lb
noncomputable section
section
set_option maxRecDepth 100000
set_option maxHeartbeats 4000000
open Go.Proofs
namespace Go.Cm
variable {K:FT0}{Z:FS}{fi o up:Lx}{f i m n n0 z:Nat}{t:Tr}{got:List TL}{P:Program}{E:Env}{N:Fr}{Q:Exit->Lu->Lv->Prop}{H H' X:Lv}{T:Lu}{k:LM}{l:TL}{res v v0:CV}{e els:LQ}{r:Option TL}
section
variable(g:GoodT K.t o)(ht:K.t.Fit)
include g ht
omit ht in
theorem great1(hi:i<K.t.nodes.length)(hk:19<=(nd K.t i).k/\(nd K.t i).k<=25)(hl:Z.got.length=K.t.nodes.length)(hf:∀j,Qg (Jr Z.got j)=true):Ans K Z 89 [.int .i64 (i:Int)] (Qd K.t m Z.got i):=by
 have Ag:=g.many;have hg:=JX hi;have AO:(gz Z.got).length=K.t.nodes.length:=by rw[QB,hl]
 have hp:=Jdr g hi (Xu g hi (.inl hk));have Ap:(nd K.t i).kids.length=1:=by rw[hp];rfl
 have h0:=Jz g hi (i:=0) om;have k0:=XZ g (got:=Z.got) hi (j:=0) om (JC g hi om);rw[Gq]at k0;have Cj:=Yp g hi;generalize ja:Ju K.t i 0=a at *;have Am:a<K.t.nodes.length:=om;have De:=KV (l:=Z.got) (i:=a) om;have hB:=λw=>fmAre (K:=K) (Z:=Z) (w:=tyT w) (ks:=[(a:Int)]) hl (by simp;omega) sM
 simp only[JaR,Gq]at hB;have jQ:=hB .int;have Pn:=hB .bool;have SL:=Jgw (K:=K) Am hl (hf a);have Ug:=fmArrayed (K:=K) Am hl (hf a);clear hB;rcases (show (nd K.t i).k=19\/(nd K.t i).k=20\/(nd K.t i).k=21\/(nd K.t i).k=23\/(nd K.t i).k=24\/(nd K.t i).k=22\/(nd K.t i).k=25 by omega) with hk|hk|hk|hk|hk|hk|hk
 ·refine Ans.of (txV [.bool]) (by rw[JW,hk,rk_not,k0]) rfl (λ_=>rfl) ?_;refine Kk (vfS c89_ok λN=>?_);simp only[c89,go_sem,hpF,fRow,Ja,hg,Nd.cv,hk,hp,Ga]
  repeat refine anO ?_
  refine KGn Pn ?_;simp only[go_sem];exact .one 1 rfl rfl rfl (wk.refl _)
 ·refine Ans.of (txV [.int]) (by rw[JW,hk,rk_neg,k0]) rfl (λ_=>rfl) ?_;refine Kk (vfS c89_ok λN=>?_);simp only[c89,go_sem,hpF,fRow,Ja,hg,Nd.cv,hk,hp,Ga]
  repeat refine anO ?_
  refine KGn jQ ?_;simp only[go_sem];exact .one 1 rfl rfl rfl (wk.refl _)
 ·refine Ans.of (.rslc 1 [[S (opT (prt (Kz (Jr Z.got a))))]] none) (by rw[JW,hk,Jhj,k0]) rfl (λh=>?_) ?_
  ·obtain⟨e,he⟩:=Je4.1 h;rw[he];rfl
  refine Kk (vfS c89_ok λN=>?_);simp only[c89,go_sem,hpF,fRow,Ja,hg,Nd.cv,hk,hp,Ga,Kv,Xp,Gg,Gf]
  repeat refine anO ?_
  refine KGn SL ?_;simp only[go_sem,hpF];exact .one 1 rfl rfl rfl (wk.refl _)
 ·refine Ans.of (txV [.bool]) (by rw[JW,hk,Jd3,k0]) rfl (λ_=>rfl) ?_;refine Kk (vfS c89_ok λN=>?_);simp only[c89,go_sem,hpF,fRow,Ja,hg,Nd.cv,hk,hp,Ga,Kv,Xp,Gg,Gf]
  repeat refine anO ?_
  refine KGn SL ?_;simp only[go_sem,hpF];exact .one 1 rfl rfl rfl (wk.refl _)
 ·refine Ans.of (txV [.int]) (by rw[JW,hk,Jhg,k0]) rfl (λ_=>rfl) ?_;refine Kk (vfS c89_ok λN=>?_);simp only[c89,go_sem,hpF,fRow,Ja,hg,Nd.cv,hk,hp,Ga,Kv,Xp,Gg,Gf]
  repeat refine anO ?_
  refine KGn Ug ?_;simp only[go_sem,hpF];exact .one 1 rfl rfl rfl (wk.refl _)
 ·refine Ans.of (txV (Jr Z.got a)) (by rw[JW,hk,Jhf,k0]) rfl (λ_=>rfl) ?_;refine Kk (vfS c89_ok λN=>?_);simp only[c89,go_sem,hpF,fRow,Ja,hg,Nd.cv,hk,hp,Ga,Kv,Xp,Gg,Gf]
  repeat refine anO ?_
  refine KGn SL ?_;simp only[go_sem,hpF,fRow];refine JH [0,0,0,1,0,0,0,1,1,0,0,0] Jm vM ?_;simp only[go_sem,De,AO,Gg,Gf]
  repeat refine anO ?_
  exact .out (wk.refl _) rfl
 ·obtain⟨_,_,q3,q4⟩:=Cj (.inl hk);have CE:=X0 (t:=K.t) (i:=a) om;refine Ans.of (b:=true) (l:=[.str (tyN K.t a)]) (txV [.str (tyN K.t a)]) (by rw[JW,hk,rk_nil,ja];rfl) rfl (λ_=>rfl) ?_;refine Kk (vfS c89_ok λN=>?_);simp only[c89,go_sem,hpF,fRow,Ja,hg,Nd.cv,hk,hp,Ga,Kv,Xp,Gg,Gf]
  repeat refine anO ?_
  refine KGn (XP g a Am q3 q4) ?_;simp only[go_sem];refine JU (Jcm _ om) ?_;simp only[go_sem,hpF];exact .one 1 rfl rfl rfl (wk.refl _)
theorem great2(hi:i<K.t.nodes.length)(hk:26<=(nd K.t i).k/\(nd K.t i).k<=29)(hl:Z.got.length=K.t.nodes.length)(hf:∀j,Qg (Jr Z.got j)=true)(Bb:Ln Z.got)(Bd:K.of.length=K.t.nodes.length)(hm:(nd K.t i).k=26->K.of.getD i 0=(m:Int)/\m<K.t.nodes.length/\(nd K.t m).k=65):Ans K Z 89 [.int .i64 (i:Int)] (Qd K.t m Z.got i):=by
 have Ag:=g.many;have hg:=JX hi;have AO:(gz Z.got).length=K.t.nodes.length:=by rw[QB,hl]
 have Ae:(iz (nd K.t i).kids).length=(nd K.t i).kids.length:=Jf;have Bj:=(JbM ht hi).kidn;have hK:∀j,j<(nd K.t i).kids.length->∃c:Nat,(iz (nd K.t i).kids).getD j []=[.int .i64 (c:Int)]/\c<K.t.nodes.length/\KK K.t Z.got i j=Jr Z.got c:=λj hj=>by have h1:=Jz g hi (i:=j) hj;exact⟨Ju K.t i j,by rw[JF hj,JC g hi hj],om,by rw[XZ g hi hj (JC g hi hj),Gq]⟩
 have hB:=λ(c:Nat) (hc:c<K.t.nodes.length)=>fmAre (K:=K) (Z:=Z) (w:=tyT .bool) (ks:=[(c:Int)]) hl (by simp;omega) sM
 simp only[JaR,Gq]at hB;rcases (show (nd K.t i).k=26\/(nd K.t i).k=27\/(nd K.t i).k=28\/(nd K.t i).k=29 by omega) with hk|hk|hk|hk
 ·obtain⟨m1,m2,m3⟩:=hm hk;obtain⟨x,Bh,Bg,hC⟩:=fmCall g ht (Z:=Z) hi hk Bd m1 m2 m3 hl;refine⟨x,Bh,Bg,?_⟩;refine Kk (vfS c89_ok λN=>?_);simp only[c89,go_sem,hpF,fRow,Ja,hg,Nd.cv,hk,Ga]
  repeat refine anO ?_
  refine KG hC (.inl rfl) rfl rfl rfl (by simp only[CV.closed,Jk,Bh,Gv]) ?_;simp only[go_sem];exact .out (wk.refl _) (by simp only[CV.closed,Jk,Bh,Gv])
 ·have h3:=kids_if g hi hk;obtain⟨a,a1,a2,a3⟩:=hK 0 om;obtain⟨b,b1,b2,b3⟩:=hK 1 om;obtain⟨c,c1,c2,c3⟩:=hK 2 om;rw[h3]at Ae;have De:=KV (l:=Z.got) (i:=a) om;have Md:=KV (l:=Z.got) (i:=b) om;have D9:=KV (l:=Z.got) (i:=c) om;have hE:=equalTx (Jr Z.got b) (Jr Z.got c) (by have:=Bb b;omega);refine Ans.of (txV (Jr Z.got b)) (by rw[JW,hk,rk_if,a3,b3,c3]) rfl (λ_=>rfl) ?_;refine Kk (vfS c89_ok λN=>?_);simp only[c89,go_sem,hpF,fRow,Ja,hg,Nd.cv,hk,Ga]
  repeat refine anO ?_
  refine JH [0,0,0,1,0,0,0,1,1,0,0,0,0,0,1,0,0,0,0,1,0,0,0,1,1,0,0,0,1,0,0,0,1,1,0,0,0,0] Jm vM ?_;simp only[go_sem,Ae,a1,b1,Md,AO]
  repeat refine anO ?_
  refine YI (iz [(a:Int)]) (.inl rfl) rfl rfl rfl rfl ?_;simp only[go_sem];refine vy_p (.inl rfl) ((hB a a2).on rfl rfl) ?_
  cases hx:(Jr Z.got a == [TyX.bool]) with
  |false=>simp only[go_sem,GZ];exact .out (wk.refl _) rfl
  |true=>
   simp only[go_sem,Ae,b1,c1,Md,D9,AO,GA]
   repeat refine anO ?_
   refine Jdx (gok rfl) hE ?_;simp only[go_sem];exact .out (wk.refl _) rfl
 ·obtain⟨n,b,n1,n2,n3,_⟩:=Ye g hi hk;change (nd K.t i).n=n at n1;change b<(nd K.t i).kids.length at n3;obtain⟨a,a1,a2,a3⟩:=hK n om;obtain⟨c,c1,c2,c3⟩:=hK ((nd K.t i).kids.length-1) om;have D9:=KV (l:=Z.got) (i:=c) om;refine Ans.of (txV (Jr Z.got c)) (by rw[JW,hk,Jhi,n1,Gq,a3,c3]) rfl (λ_=>rfl) ?_;refine Kk (vfS c89_ok λN=>?_);simp only[c89,go_sem,hpF,fRow,Ja,hg,Nd.cv,hk,Ga]
  repeat refine anO ?_
  refine JH [0,0,0,1,0,0,0,0,0,0,1,1,0,0,0,1,0,0,0,1,0,0] Jm vM ?_;simp only[go_sem,Ae,c1,D9,AO,n1,a1]
  repeat refine aN ?_
  refine YI (iz [(a:Int)]) (.inl rfl) rfl rfl rfl rfl ?_;simp only[go_sem];refine vy_p (.inl rfl) ((hB a a2).on rfl rfl) ?_;simp only[go_sem];exact .out (wk.refl _) rfl
 ·obtain⟨x,Bh,Bg,hC⟩:=fmCells g ht (m:=m) hi hk hl hf;refine⟨x,Bh,Bg,?_⟩;refine Kk (vfS c89_ok λN=>?_);rw[Nd.cv,hk]at hC;simp only[c89,go_sem,hpF,fRow,Ja,hg,Nd.cv,hk,Ga]
  repeat refine anO ?_
  refine KG hC (.inl rfl) rfl rfl rfl (by simp only[CV.closed,Jk,Bh,Gv]) ?_;simp only[go_sem];exact .out (wk.refl _) (by simp only[CV.closed,Jk,Bh,Gv])
end
theorem Jee(g:GoodT t o)(hi:i<t.nodes.length):gvn got ((nd t i).kids.drop n)=YS ((Gr ((nd t i).kids.length-n)).map λj=>KK t got i (n+j)):=by
 unfold gvn
 congr 1
 refine GU sM λj h1 h2=>?_
 simp only[List.length_map,He]at h1;simp only[GR,List.getElem_drop,GL];have h3:=XZ g (got:=got) hi (j:=n+j) om (JC g hi om);have h4:(nd t i).kids[n+j]=(nd t i).kids.getD (n+j) 0:=by rw[Gh,Gu om];rfl
 rw[h3,h4,JC g hi om]
section
variable(g:GoodT K.t o)(ht:K.t.Fit)
include g ht
theorem part1(hi:i<K.t.nodes.length)(hk:30<=(nd K.t i).k/\(nd K.t i).k≠41)(hl:Z.got.length=K.t.nodes.length)(hf:∀j,Qg (Jr Z.got j)=true)(Bb:Ln Z.got)(Bd:K.of.length=K.t.nodes.length)(hm:(nd K.t i).k=44->K.of.getD i 0=(m:Int)/\m<K.t.nodes.length):Ans K Z 90 [.int .i64 (i:Int)] (Qd K.t m Z.got i):=by
 have Ag:=g.many;have hg:=JX hi;have AO:(gz Z.got).length=K.t.nodes.length:=by rw[QB,hl]
 have Ae:(iz (nd K.t i).kids).length=(nd K.t i).kids.length:=Jf;have Bj:=(JbM ht hi).kidn;have Cj:=Yp g hi;have hK:∀j,j<(nd K.t i).kids.length->∃c:Nat,(iz (nd K.t i).kids).getD j []=[.int .i64 (c:Int)]/\c<K.t.nodes.length/\KK K.t Z.got i j=Jr Z.got c/\Ju K.t i j=c:=λj hj=>by have h1:=Jz g hi (i:=j) hj;exact⟨Ju K.t i j,by rw[JF hj,JC g hi hj],om,by rw[XZ g hi hj (JC g hi hj),Gq],rfl⟩
 have Mv:∀k∈(nd K.t i).kids,0<=k/\k<K.t.nodes.length:=λk hk=>by have:=g.kid hi hk;omega
 by_cases Eu:(nd K.t i).k=40
 ·obtain⟨n,n1,n2,_⟩:=JgF g hi Eu;change (nd K.t i).n=n at n1;change n<=(nd K.t i).kids.length at n2;obtain⟨x,Bh,Bg,hC⟩:=fmGiven (K:=K) (Z:=Z) (ks:=(nd K.t i).kids.drop n) hl (λk hk=>Mv k (List.mem_of_mem_drop hk)) (by rw[He];omega);have AU:(iz ((nd K.t i).kids.drop n)).take ((nd K.t i).kids.length-n)=iz ((nd K.t i).kids.drop n):=GH (by rw[Jf,He];omega);have hr:Qd K.t m Z.got i=gvn Z.got ((nd K.t i).kids.drop n):=by rw[JW,Eu,rk_block,Jee g hi,n1,Gq]
  rw[hr];refine⟨x,Bh,Bg,?_⟩;refine Kk (vfS c90_ok λN=>?_);simp only[c90,go_sem,hpF,fRow,Ja,hg,Nd.cv,Eu,n1,Ga,Ae,Jh0,AU]
  repeat refine And.intro (by first|omega|exact⟨om,om⟩|exact⟨om,om,om⟩) ?_
  refine KG hC (.inl rfl) rfl rfl rfl (by simp only[CV.closed,Jk,Bh,Gv]) ?_;simp only[go_sem];exact .out (wk.refl _) (by simp only[CV.closed,Jk,Bh,Gv])
 by_cases bU:(nd K.t i).k=45
 ·obtain⟨x,Bh,Bg,hC⟩:=fmGiven (K:=K) (Z:=Z) (ks:=(nd K.t i).kids) hl Mv om;have hr:Qd K.t m Z.got i=gvn Z.got (nd K.t i).kids:=by have:=Jee g (got:=Z.got) (n:=0) hi;rw[Gj]at this;rw[JW,bU,rk_give,this];simp only[G7,Gi]
  rw[hr];refine⟨x,Bh,Bg,?_⟩;refine Kk (vfS c90_ok λN=>?_);simp only[c90,go_sem,hpF,fRow,Ja,hg,Nd.cv,bU,Ga]
  repeat refine anO ?_
  refine KG hC (.inl rfl) rfl rfl rfl (by simp only[CV.closed,Jk,Bh,Gv]) ?_;simp only[go_sem];exact .out (wk.refl _) (by simp only[CV.closed,Jk,Bh,Gv])
 by_cases Ci:(nd K.t i).k=42
 ·have hB:=fmBare (K:=K) (Z:=Z) hi;by_cases hn:(nd K.t i).kids=[]
  ·rw[hn]at hB;refine Ans.of (b:=true) (l:=[]) (txV []) (by rw[JW,Ci,Jdd,if_pos hn];rfl) rfl (λ_=>rfl) ?_;refine Kk (vfS c90_ok λN=>?_);simp only[c90,go_sem,hpF,fRow,Ja,hg,Nd.cv,Ci,Ga]
   repeat refine anO ?_
   refine KGn hB ?_;simp only[go_sem,HV];exact .out (Jal ⟨wk.nils,wk.refl _,trivial⟩) rfl
  ·obtain⟨q1,q2,q3,q4⟩:=Cj (.inr (.inr ⟨Ci,hn⟩));obtain⟨a,a1,a2,a3,a4⟩:=hK 0 q1;rw[a4]at q3 q4;have Ai:(nd K.t i).kids.isEmpty=false:=by cases h:(nd K.t i).kids <;> simp_all
   rw[Ai]at hB;refine Ans.of (b:=true) (l:=[tyN K.t a]) (txV [tyN K.t a]) (by rw[JW,Ci,Jdd,if_neg hn,a4];rfl) rfl (λ_=>rfl) ?_;refine Kk (vfS c90_ok λN=>?_);simp only[c90,go_sem,hpF,fRow,Ja,hg,Nd.cv,Ci,Ga]
   repeat refine anO ?_
   refine KGn hB ?_;simp only[go_sem,Ae,a1];refine anO ?_;refine KGn (XP g a a2 q3 q4) ?_;simp only[go_sem,hpF];exact .one 1 rfl rfl rfl (wk.refl _)
 by_cases Cr:(nd K.t i).k=64
 ·obtain⟨q1,q2,q3,q4⟩:=Cj (.inr (.inl om));obtain⟨a,a1,a2,a3,a4⟩:=hK 0 q1;rw[a4]at q3 q4;refine Ans.of (b:=true) (l:=[tyN K.t a]) (txV [tyN K.t a]) (by rw[JW,Cr,rk_param,a4];rfl) rfl (λ_=>rfl) ?_;refine Kk (vfS c90_ok λN=>?_);simp only[c90,go_sem,hpF,fRow,Ja,hg,Nd.cv,Cr,Ga,Ae,a1]
  repeat refine anO ?_
  refine KGn (XP g a a2 q3 q4) ?_;simp only[go_sem,hpF];exact .one 1 rfl rfl rfl (wk.refl _)
 by_cases Cb:(nd K.t i).k=43
 ·have h1:=Xu g hi (.inr (.inl Cb));obtain⟨a,a1,a2,a3,a4⟩:=hK 0 om;refine Ans.of (.rslc 1 [[S (opT (Kz (Jr Z.got a)))]] none) (by rw[JW,Cb,rk_init,a3]) rfl (λh=>?_) ?_
  ·cases ho:Kz (Jr Z.got a) with
   |none=>rw[ho]at h;cases h
   |some e=>rfl
  refine Kk (vfS c90_ok λN=>?_);simp only[c90,go_sem,hpF,fRow,Ja,hg,Nd.cv,Cb,Ga,Ae,a1]
  repeat refine anO ?_
  refine KGn (fmOne (Z:=Z) a2 hl) ?_;simp only[go_sem,hpF];exact .one 1 rfl rfl rfl (wk.refl _)
 by_cases BG:(nd K.t i).k=44
 ·have h1:=Xu g hi (.inr (.inr (.inl BG)));obtain⟨a,a1,a2,a3,a4⟩:=hK 0 om;obtain⟨m1,m2⟩:=hm BG;have OO:(iz K.of).getD i []=[.int .i64 (m:Int)]:=by rw[JF om,m1]
  have Bn:(iz K.of).length=K.t.nodes.length:=by rw[Jf,Bd]
  have hA:=fmAre (K:=K) (Z:=Z) (w:=opT (Kz (Jr Z.got m))) (ks:=[(a:Int)]) hl (by simp;omega) sM;have hb:areB Z.got (opT (Kz (Jr Z.got m))) [(a:Int)]=((Kz (Jr Z.got m)).isSome && Jr Z.got a == [(Kz (Jr Z.got m)).getD .int]):=by
   cases Kz (Jr Z.got m) with
   |none=>rw[show opT none=[] from rfl,are_none];rfl
   |some e=>rw[show opT (some e)=tyT e from rfl,JaR,Gq];rfl
  rw[hb]at hA;refine Ans.of (l:=[]) (txV []) (by rw[JW,BG,rk_next,a3]) rfl (λ_=>rfl) ?_;refine Kk (vfS c90_ok λN=>?_);simp only[c90,go_sem,hpF,fRow,Ja,hg,Nd.cv,BG,Ga,OO,Bn]
  repeat refine anO ?_
  refine KGn (fmOne (Z:=Z) m2 hl) ?_;simp only[go_sem,hpF,Ae,a1];refine anO ?_;refine Jc3 (K:=K) (Z:=Z) 1 rfl rfl rfl ?_;simp only[go_sem,JK,frz,Gc,Gd,Kn,Gn,Gl,hpF,Hr,Gw,Gi,Gm,Gj,GG,Gy,Gg,Gf];refine KGn hA ?_;simp only[go_sem,hpF];exact .out (Jal ⟨wk.nils,wk.refl _,trivial⟩) rfl
 by_cases BQ:(nd K.t i).k=47
 ·refine Ans.of (b:=true) (l:=[.int]) (txV [.int]) (by rw[JW,BQ];rfl) rfl (λ_=>rfl) ?_;refine Kk (vfS c90_ok λN=>?_);simp only[c90,go_sem,hpF,fRow,Ja,hg,Nd.cv,BQ,Ga]
  repeat refine anO ?_
  exact .one 1 rfl rfl rfl (wk.refl _)
 by_cases BF:(nd K.t i).k=65
 ·have BB:=def_res g hi BF;obtain⟨a,a1,a2,a3,a4⟩:=hK ((nd K.t i).kids.length-1) om;have De:=KV (l:=Z.got) (i:=a) om;have Ck:=sig_len ht i;have gF:∀x∈XH K.t i,(tyT x).length<=100000:=λx hx=>by unfold XH at hx;obtain⟨j,hj,rfl⟩:=GX.1 hx;have hj:=GJ.1 hj;have hm:=Jz g hi (i:=(nd K.t i).n.toNat+j) om;have:=X0 (t:=K.t) (i:=Ju K.t i ((nd K.t i).n.toNat+j)) om;omega
  have hG:=typGreat (XH K.t i) om gF;have hE:=equalTx (Jr Z.got a) (XH K.t i) (by have:=Bb a;omega);have hb:(Qg (XH K.t i) && Jr Z.got a == XH K.t i)=(Jr Z.got a == XH K.t i):=by
   cases he:(Jr Z.got a == XH K.t i) with
   |false=>rw[Bool.and_false]
   |true=>rw[<-eq_of_beq he,hf a];rfl
  refine Ans.of (b:=Qg (XH K.t i) && Jr Z.got a == XH K.t i) (l:=[]) (txV []) (by rw[JW,BF,rk_def,a3,hb]) rfl (λ_=>rfl) ?_;refine Kk (vfS c90_ok λN=>?_);simp only[c90,go_sem,hpF,fRow,Ja,hg,Nd.cv,BF,Ga]
  repeat refine anO ?_
  refine KGn (fmSign g ht hi BF) ?_;simp only[go_sem,hpF,fRow];refine JH [0,0,0,0,0,0,0,1,0,0,0,0,0,0,1,1,0,0,0,0,0] Jm vM ?_;simp only[go_sem];refine Jdx (.inl rfl) hG ?_
  cases iK:Qg (XH K.t i) with
  |false=>simp only[go_sem,GZ];exact .out (Jal ⟨wk.nils,wk.refl _,trivial⟩) rfl
  |true=>
   simp only[go_sem,GA,Ae,a1,De,AO]
   repeat refine aN ?_
   refine Jdx (gok rfl) hE ?_;simp only[go_sem];exact .out (Jal ⟨wk.nils,wk.refl _,trivial⟩) rfl
 ·refine Ans.of (b:=true) (l:=[]) (txV []) (by rw[JW,rk_else om om];rfl) rfl (λ_=>rfl) ?_;have kk:∀q:Nat,(nd K.t i).k≠q->(((nd K.t i).k:Int) == (q:Int))=false:=λq h=>kb h
  have e40:=kk 40 Eu;have e45:=kk 45 bU;have e41:=kk 41 hk.2;have e42:=kk 42 Ci;have e64:=kk 64 Cr;have e43:=kk 43 Cb;have e44:=kk 44 BG;have e47:=kk 47 BQ;have e65:=kk 65 BF;simp only[Ga]at e40 e45 e41 e42 e64 e43 e44 e47 e65;refine Kk (vfS c90_ok λN=>?_);simp only[c90,go_sem,hpF,fRow,Ja,hg,Nd.cv,e40,e45,e41,e42,e64,e43,e44,e47,e65]
  repeat refine anO ?_
  exact .out (Jal ⟨wk.nils,wk.refl _,trivial⟩) rfl
end
section
variable{l:LD}{bs:LB}
theorem five {α:Type}{H:List α}{a b c d e:α}(h0:H[0]? = some a)(h1:H[1]? = some b)(h2:H[2]? = some c)(h3:H[3]? = some d)(h4:H[4]? = some e):∃X,H=a::b::c::d::e::X:=by
 match H,h0,h1,h2,h3,h4 with
 |a'::b'::c'::d'::e'::X,h0,h1,h2,h3,h4=>simp at h0 h1 h2 h3 h4;exact⟨X,by rw[h0,h1,h2,h3,h4]⟩
theorem vy_me {d:Option Nat}{ge:Option (Nat×Bool)}{ags:LP}{args:Lu}(hM:FMe P f args K Z Z res)(hg:GOk T ge)(ha:ags.map (Kg T)=.ptr 0 0 0::args)(hH:H=hpF K Z X)(hc:Jk args=true)(hr:res.closed=true)(h:vdy P E n0 N Q k l bs (put T d res) H):vdyR P E n0 N Q none d (.call f ags) ge 4 k l bs T H:=by
 refine⟨res,H,?_,h⟩;show HS P E _ T H res H (.on [1,2,3,4,5],.on []);subst hH;refine⟨λ_ _=>rfl,λT2 H2 ag hx=>?_⟩;have DZ:∀i,i<5->H2[i]? = (hpF K Z X)[i]?:=λi hi=>by have:=hx (i+1) (by simp only[Foot.has,Hg,Hd,or_false];omega);simpa [hat]using this
 obtain⟨X2,rfl⟩:=five (DZ 0 vk) (DZ 1 vk) (DZ 2 vk) (DZ 3 vk) (DZ 4 vk);have e2:ags.map (Kg T)=ags.map (Kg T2):=Xi (Jj ag).2;refine⟨_,λy hy=>(by cases hy),λ_ _=>rfl,λn0 N Q k l Ao=>Jdl (Yh ag hg) (by rw[<-e2,ha];exact hM.on (X:=X2) hc hr) ?_⟩;rintro v' H' ⟨rfl,rfl⟩;exact Ao
end
section
theorem fmFail:FMe Gb 55 [.int .i64 (i:Int)] K Z (Z.fail i) (.tup []):=by
 obtain⟨got,dn,fd,fg,bad⟩:=Z;refine Kk (Ki c55_ok λN=>?_)
 cases bad with
 |none=>
  simp only[c55,go_sem,hpF,fRow,Gx,Gz,Gg,Gf]
  repeat refine anO ?_
  exact .done (wk.refl _)
 |some b=>simp only[c55,go_sem,hpF,fRow,Gs,Gt];exact .done (wk.refl _)
variable(g:GoodT K.t o)(ht:K.t.Fit)
include g ht
theorem fmSettle {s:Nat}(hs:s<K.t.nodes.length)(hk:(nd K.t s).k=41)(hl:Z.got.length=K.t.nodes.length)(Bb:Ln Z.got):FMe Gb 183 [.int .i64 (s:Int)] K Z (JR K.t s Z) (.tup []):=by
 have Ag:=g.many;have hg:=JX hs;have AO:(gz Z.got).length=K.t.nodes.length:=by rw[QB,hl]
 have Bj:=(JbM ht hs).kidn;obtain⟨n,n1,n2,n3,n4⟩:=Yu g hs hk;change (nd K.t s).n=n at n1;change (nd K.t s).kids.length=n+1 at n2;have hE:=fmExpr g ht (Z:=Z) hs hk;obtain⟨_,_,_,hL⟩:=KA g hs hk;have De:=KV (l:=Z.got) (i:=Ji K.t s) om;have bG:=Bb (Ji K.t s);refine Kk (vfS c183_ok λN=>?_);simp only[c183,go_sem,hpF,fRow];refine JH [0,0,0,0,4,0,0,0,0,0,0,4,0,0,4,4,4,1005,2005,0] Jm vM ?_;simp only[go_sem,Ja,hg,Nd.cv,n1]
 repeat refine And.intro (by first|omega|exact⟨om,om⟩|(simp;done)) ?_
 refine vy_me hE (.inl rfl) rfl rfl rfl rfl ?_;simp only[go_sem,De,AO,yexecN (show 1000<=1005 by decide)]
 repeat refine And.intro (by first|omega|exact⟨om,om⟩|(simp;done)) ?_
 refine vy_new 5 (c:=.tt) (λid=>.ptr id 0 0) (.arr 5 [[.int .u8 0,S [],.int .i64 0,.nils,.int .i64 0]]) (.inl rfl) rfl (λH2=>rfl) trivial vk ?_;simp only[go_sem,yexecN (show 1000<=2005 by decide)];refine vy_set 5 (c:=.and (.le 1 1) (.le 5 5)) (v:=.un) (.arr 5 [ndA (nd K.t s) n]) (.inl rfl) (λH2 h=>?_) ⟨Gm _,Gm _⟩ sM ?_
 ·simp only[List.getElem?_cons_succ,List.getElem?_cons_zero]at h;simp only[exec,go_sem,h];rfl
 have Br:(txz (Jr Z.got (Ji K.t s))).length=(Jr Z.got (Ji K.t s)).length:=KL;by_cases Ad:(Jr Z.got (Ji K.t s)).length=n
 case neg=>
  have hS:JR K.t s Z=Z.fail s:=by unfold JR;simp only;rw[if_neg (by rw[n1,Gq];exact Ad)]
  have d1:(((Jr Z.got (Ji K.t s)).length:Int) != (n:Int))=true:=by simp;omega
  rw[hS];simp only[go_sem,txV,Br,d1,ndA];refine KGn (fmFail (Z:=Z)) ?_;simp only[go_sem];exact .out (wk.refl _) rfl
 have hS:JR K.t s Z = { Z with got:=Yb K.t s (Jr Z.got (Ji K.t s)) Z.got n,fd:=Xz s true Z.fd }:=by unfold JR;simp only;rw[n1,Gq,if_pos Ad]
 rw[hS];clear hS;generalize Jr Z.got (Ji K.t s)=l at *;have d1:((l.length:Int) != (n:Int))=false:=by simp[Ad]
 have Ae:(iz ((nd K.t s).kids.take n)).length=n:=by rw[Jf,GN];omega
 simp only[go_sem,txV,Br,d1,ndA,Jc8,G7,Ae]
 repeat refine And.intro (by first|omega|exact⟨om,om⟩|exact⟨om,om,om⟩|(simp[Jf];omega)) ?_
 have CK:∀j,(Yb K.t s l Z.got j).length=K.t.nodes.length:=λj=>by rw[Yw];exact hl
 refine Js (I:=λj:Nat=>j<=n) (inv:=λj=>mkT 64 [(0,.ptr 0 0 0),(1,.int .i64 (s:Int)),(5,txV l),(37,.rslc 1 (iz ((nd K.t s).kids.take n)) none),(38,.int .i64 (n:Int)),(39,.int .i64 (j:Int))]) (hp:=λj=>hpF K { Z with got:=Yb K.t s l Z.got j } []) (μ:=λj=>n-j) 0 [0,1,2,3,4] om rfl ?_ ?_ ?_
 ·simp only[J2,Gc,Gd,ren,Jl];refine Jt ?_;simp[Km,Kw,txV]
 ·exact Qo (K:=K) (Z:=Z) (X:=[.arr 5 [ndA (nd K.t s) n]]) rfl
 ·intro j hj;by_cases Ab:j<n
  ·have d2:=dtT j n;have hc:=JC g hs (j:=j) om;have hm:=Jz g hs (i:=j) om;have Bp:(iz ((nd K.t s).kids.take n)).getD j []=[.int .i64 (Ju K.t s j:Int)]:=by rw[JF (by rw[GN];omega),Gh,Hu Ab,<-Gh,hc]
   have hB:=fmBare (K:=K) (Z:={ Z with got:=Yb K.t s l Z.got j }) (i:=Ju K.t s j) om;have Dr:Yb K.t s l Z.got (j+1)=if (nd K.t (Ju K.t s j)).kids=[] then(Yb K.t s l Z.got j).set (Ju K.t s j) [l.getD j .int] else Yb K.t s l Z.got j:=rfl
   simp only[go_sem,hpF,fRow,d2,Bp,Ae]
   repeat refine anO ?_
   refine KGn hB ?_;by_cases he:(nd K.t (Ju K.t s j)).kids=[]
   ·rw[if_pos he]at Dr;have DK:=KV (l:=Yb K.t s l Z.got j) (i:=Ju K.t s j) (by rw[CK];omega);have O6:(gz (Yb K.t s l Z.got j)).length=K.t.nodes.length:=by rw[QB,CK]
    have Dm:(gz (Yb K.t s l Z.got j)).set (Ju K.t s j) [.rslc 1 (txz [l.getD j .int]) none]=gz (Yb K.t s l Z.got (j+1)):=by rw[Dr];exact gz_set
    have Ck:((txz l).drop j).take (((j:Int)+1).toNat-j)=txz [l.getD j .int]:=by rw[show ((j:Int)+1).toNat-j=1 by omega];rw[Ht (by rw[Br];omega)];simp[txz,Gh,Gu (show j<l.length by omega)]
    simp only[go_sem,hpF,fRow,he,HV];refine JH [0,0,0,1,0,0,0,0,0,0,1,2] Jm vM ?_;simp only[go_sem,txV,Br,O6,DK,Ck,Dm,splice,Gg,Gf,Gy,G9,Gj,H5]
    repeat refine And.intro (by first|omega|exact⟨om,om⟩|exact⟨om,om,om⟩|exact Jg) ?_
    refine⟨j+1,[0,1,2,3,4],om,om,rfl,?_,?_⟩
    ·exact Qo (K:=K) (Z:={ Z with got:=Yb K.t s l Z.got (j+1) }) (X:=[]) rfl
    ·simp only[ren,Jl];refine Jt ?_;simp[Km,Kw]
   ·rw[if_neg he]at Dr;have Ai:(nd K.t (Ju K.t s j)).kids.isEmpty=false:=by cases h:(nd K.t (Ju K.t s j)).kids <;> simp_all
    simp only[go_sem,hpF,fRow,Ai,txV];refine⟨Jg,j+1,[0,1,2,3,4],om,om,rfl,?_,?_⟩
    ·rw[Dr];exact Qo (K:=K) (Z:={ Z with got:=Yb K.t s l Z.got j }) (X:=[]) rfl
    ·simp only[ren,Jl];refine Jt ?_;simp[Km,Kw]
  ·have d2:=dfF j n;obtain rfl:j=n:=om;rcases JaJ (k:=s) Z.fd 0 with ⟨h1,_,h3⟩|⟨q,h1,h3⟩
   ·simp only[go_sem,hpF,fRow,d2,h1,h3];exact .done (wk.refl _)
   ·rw[Gi]at h1;simp only[go_sem,hpF,fRow,d2,h1,h3];exact .done (wk.refl _)
omit ht in
theorem setF_ok (hI:FI K.t Z){s:Nat}(hs:s<K.t.nodes.length)(hk:(nd K.t s).k=41):FI K.t (YC K.t s Z)/\((YC K.t s Z).bad=none->(Jr (YC K.t s Z).got (Ji K.t s)).length=nB K.t s):=by
 unfold YC
 split
 ·rename_i hf;exact⟨hI,λ_=>(hI.fnd s hf).2.2.1⟩
 ·obtain⟨h1,_,h3,_⟩:=YB g hI hs hk;exact⟨h1,λhb=>(h1.fnd s (h3 hb)).2.2.1⟩
omit g ht in
theorem setF_ln {s:Nat}(h:Ln Z.got):Ln (YC K.t s Z).got:=by
 unfold YC;split
 ·exact h
 ·exact Jcs h
def agr1 (t:Tr)(s:Nat)(l:TL)(k:Nat):Bool:=(nd t (Ju t s k)).kids.isEmpty || tyN t (Ju t (Ju t s k) 0) == l.getD k .int
theorem fmSet {s:Nat}(hI:FI K.t Z)(Bb:Ln Z.got)(hs:s<K.t.nodes.length)(hk:(nd K.t s).k=41):FMe Gb 145 [.int .i64 (s:Int)] K Z (YC K.t s Z) (.bool (!(YC K.t s Z).bad.isSome && XF K.t s (Jr (YC K.t s Z).got (Ji K.t s)))):=by
 have Ag:=g.many;have hg:=JX hs;have Bj:=(JbM ht hs).kidn;obtain⟨n,n1,n2,n3,n4⟩:=Yu g hs hk;change (nd K.t s).n=n at n1;change (nd K.t s).kids.length=n+1 at n2;obtain⟨b1,b2,_,hL⟩:=KA g hs hk;have Py:nB K.t s=n:=om;obtain⟨Pj,Ad⟩:=setF_ok g hI hs hk;have MV:=fmSettle g ht (Z:=Z) hs hk hI.gl Bb;refine Kk (vfS c145_ok λN=>?_);have Cs:∀l,XF K.t s l=(Gr n).all λk=>agr1 K.t s l k:=λl=>by unfold XF agr1;rw[n1,Gq]
 rw[Cs];have BC:∀j,j<n->∃c:Nat,(iz ((nd K.t s).kids.take n)).getD j []=[.int .i64 (c:Int)]/\c<K.t.nodes.length/\Ju K.t s j=c/\(nd K.t c).k=42:=λj hj=>by have hm:=b2 j om;refine⟨Ju K.t s j,?_,om,rfl,hm.1⟩;rw[JF (by rw[GN];omega),Gh,Hu hj,<-Gh,JC g hs om]
 have Ae:(iz ((nd K.t s).kids.take n)).length=n:=by rw[Jf,GN];omega
 have MW:=setF_ln (K:=K) (s:=s) Bb
 cases hb:J6 Z.fd s with
 |false=>
  have e:YC K.t s Z=JR K.t s Z:=by unfold YC;rw[hb];rfl
  rw[<-e]at MV;rcases JaJ (k:=s) Z.fd 0 with ⟨h1,_,_⟩|⟨q,h1,_⟩
  case' inr=>rw[hb]at h1
  all_goals
   simp only[c145,go_sem,hpF,fRow,h1];refine KGn MV ?_;clear MV e;generalize YC K.t s Z=Z1 at *;obtain⟨got1,dn1,fd1,fg1,bad1⟩:=Z1;have hE:=fmExpr g ht (Z:=⟨got1,dn1,fd1,fg1,bad1⟩) hs hk;have hB:=λ(c:Nat) (hc:c<K.t.nodes.length)=>fmBare (K:=K) (Z:=⟨got1,dn1,fd1,fg1,bad1⟩) (i:=c) hc
   have hW:=λ(c:Nat) h1 h2 h3=>XP (Z:=⟨got1,dn1,fd1,fg1,bad1⟩) g c h1 h2 h3
   have Ff:=Pj.gl
   dsimp only at Ad MW Ff
   cases bad1 with
   |some b=>simp only[go_sem,hpF,fRow,Gs,Gt,Ho,GZ];exact .done (wk.refl _)
   |none=>
    have FD:=Ad rfl;have AO:(gz got1).length=K.t.nodes.length:=by rw[QB,Ff]
    have De:=KV (l:=got1) (i:=Ji K.t s) (by rw[Ff];omega);generalize Jr got1 (Ji K.t s)=l at *;have Br:(txz l).length=n:=by rw[KL,FD,Py]
    simp only[go_sem,hpF,fRow,Gx,Gz,GY,GA,Ja,hg,Nd.cv,n1,Gg,Gf,splice,Gy,G9,Gj,H5,H6]
    repeat refine And.intro (by first|omega|exact⟨om,om⟩|(simp;done)) ?_
    refine JH [0,0,0,4,0,0,4,4,4,0] Jm vM ?_;simp only[go_sem];refine vy_me hE (.inl rfl) rfl rfl rfl rfl ?_;simp only[go_sem,De,AO,txV,Jc8,G7,Ae]
    repeat refine And.intro (by first|omega|exact⟨om,om⟩|exact⟨om,om,om⟩|(simp[Jf];omega)) ?_
    refine Js (I:=λj:Nat=>j<=n/\(Gr j).all (λk=>agr1 K.t s l k)=true) (inv:=λj=>mkT 76 [(0,.ptr 0 0 0),(6,txV l),(44,.rslc 1 (iz ((nd K.t s).kids.take n)) none),(45,.int .i64 (n:Int)),(46,.int .i64 (j:Int))]) (hp:=λj=>hpF K ⟨got1,dn1,fd1,fg1,none⟩ []) (μ:=λj=>n-j) 0 [0,1,2,3,4] ⟨om,rfl⟩ rfl ?_ ?_ ?_
    ·simp only[J2,Gc,Gd,ren,Jl];refine Jt ?_;simp[Km,Kw,txV]
    ·exact Qo (K:=K) (Z:=⟨got1,dn1,fd1,fg1,none⟩) (X:=[.arr 5 [ndA (nd K.t s) n]]) rfl
    ·rintro j ⟨hj,Bi⟩;by_cases Ab:j<n
     ·have d2:=dtT j n;obtain⟨c,c1,c2,c3,c4⟩:=BC j Ab;have D9:=JX c2;have U2:=X3 (l:=l) (i:=j) om;have BH:(Gr (j+1)).all (λk=>agr1 K.t s l k)=((nd K.t c).kids.isEmpty || tyN K.t (Ju K.t c 0) == l.getD j .int):=by rw[Hf,H7,Bi,GA,H8,H9,Gv];unfold agr1;rw[c3]
      have Cf:∀b,(Gr (j+1)).all (λk=>agr1 K.t s l k)=b->b=false->(Gr n).all (λk=>agr1 K.t s l k)=false:=λb h1 h2=>by subst h2;obtain⟨x,hx,UT⟩:=GM.1 h1;exact GM.2 ⟨x,GJ.2 (by have:=GJ.1 hx;omega),UT⟩
      simp only[go_sem,hpF,fRow,d2,c1,Ae]
      repeat refine anO ?_
      refine JH [0,0,4,0,0,0,0,0,0,0,4,0,0,0,0,0,0,4,0,0,0,0,0,0] Jm vM ?_;simp only[go_sem];refine vy_me (hB c c2) (.inl rfl) rfl rfl rfl rfl ?_;by_cases he:(nd K.t c).kids=[]
      ·have Ic:(nd K.t c).kids.isEmpty=true:=by rw[he];rfl
       rw[Ic,G5]at BH;simp only[go_sem,Ic,txV];refine⟨Jg,j+1,[0,1,2,3,4],⟨om,BH⟩,om,rfl,?_,?_⟩
       ·exact Qo (K:=K) (Z:=⟨got1,dn1,fd1,fg1,none⟩) (X:=[]) rfl
       ·simp only[ren,Jl];refine Jt ?_;simp[Km,Kw]
      ·have Ic:(nd K.t c).kids.isEmpty=false:=by cases h:(nd K.t c).kids <;> simp_all
       obtain⟨q1,q2,q3,q4⟩:=Yp g c2 (.inr (.inr ⟨c4,he⟩));have D7:=JC g c2 (j:=0) q1;have FK:=JF (l:=(nd K.t c).kids) (i:=0) q1;rw[D7]at FK;have Az:(iz (nd K.t c).kids).length=(nd K.t c).kids.length:=Jf;rw[Ic,Hq]at BH;simp only[go_sem,Ic,Ja,D9,Nd.cv,Az,FK]
       repeat refine And.intro (by first|omega|exact⟨om,om⟩|exact G6 rfl) ?_
       refine vy_me (hW (Ju K.t c 0) om q3 q4) (gok rfl) rfl rfl rfl rfl ?_;simp only[go_sem,txV,Br,U2,JdB]
       repeat refine anO ?_
       cases hx:(tyN K.t (Ju K.t c 0) == l.getD j .int) with
       |true=>
        rw[hx]at BH;simp only[go_sem];refine⟨Jg,j+1,[0,1,2,3,4],⟨om,BH⟩,om,rfl,?_,?_⟩
        ·exact Qo (K:=K) (Z:=⟨got1,dn1,fd1,fg1,none⟩) (X:=[]) rfl
        ·simp only[ren,Jl];refine Jt ?_;simp[Km,Kw]
       |false=>rw[hx]at BH;rw[Cf _ BH rfl];simp only[go_sem];exact .done (wk.refl _)
     ·have d2:=dfF j n;obtain rfl:j=n:=om;rw[Bi];simp only[go_sem,hpF,fRow,d2];exact .done (wk.refl _)
 |true=>
  have e:YC K.t s Z=Z:=by unfold YC;rw[hb];rfl
  rw[e]at Pj Ad MW|-;clear MV;rcases JaJ (k:=s) Z.fd 0 with ⟨_,h2,_⟩|⟨q,h1,_⟩
  ·rw[hb]at h2;cases h2
  rw[hb]at h1;simp only[c145,go_sem,hpF,fRow,h1]
  rename FS=>Z1
  obtain⟨got1,dn1,fd1,fg1,bad1⟩:=Z1;have hE:=fmExpr g ht (Z:=⟨got1,dn1,fd1,fg1,bad1⟩) hs hk;have hB:=λ(c:Nat) (hc:c<K.t.nodes.length)=>fmBare (K:=K) (Z:=⟨got1,dn1,fd1,fg1,bad1⟩) (i:=c) hc
  have hW:=λ(c:Nat) h1 h2 h3=>XP (Z:=⟨got1,dn1,fd1,fg1,bad1⟩) g c h1 h2 h3
  have Ff:=Pj.gl
  dsimp only at Ad MW Ff
  cases bad1 with
  |some b=>simp only[go_sem,Gs,Gt,Ho,GZ];exact .done (wk.refl _)
  |none=>
   have FD:=Ad rfl;have AO:(gz got1).length=K.t.nodes.length:=by rw[QB,Ff]
   have De:=KV (l:=got1) (i:=Ji K.t s) (by rw[Ff];omega);generalize Jr got1 (Ji K.t s)=l at *;have Br:(txz l).length=n:=by rw[KL,FD,Py]
   simp only[go_sem,Gx,Gz,GY,GA,Ja,hg,Nd.cv,n1,Gg,Gf,Gy,G9,Gj,H6]
   repeat refine And.intro (by first|omega|exact⟨om,om⟩|(simp;done)) ?_
   refine JH [0,0,0,4,0,0,4,4,4,0] Jm vM ?_;simp only[go_sem];refine vy_me hE (.inl rfl) rfl rfl rfl rfl ?_;simp only[go_sem,De,AO,txV,Jc8,G7,Ae]
   repeat refine And.intro (by first|omega|exact⟨om,om⟩|exact⟨om,om,om⟩|(simp[Jf];omega)) ?_
   refine Js (I:=λj:Nat=>j<=n/\(Gr j).all (λk=>agr1 K.t s l k)=true) (inv:=λj=>mkT 76 [(0,.ptr 0 0 0),(6,txV l),(44,.rslc 1 (iz ((nd K.t s).kids.take n)) none),(45,.int .i64 (n:Int)),(46,.int .i64 (j:Int))]) (hp:=λj=>hpF K ⟨got1,dn1,fd1,fg1,none⟩ []) (μ:=λj=>n-j) 0 [0,1,2,3,4] ⟨om,rfl⟩ rfl ?_ ?_ ?_
   ·simp only[J2,Gc,Gd,ren,Jl];refine Jt ?_;simp[Km,Kw,txV]
   ·exact Qo (K:=K) (Z:=⟨got1,dn1,fd1,fg1,none⟩) (X:=[.arr 5 [ndA (nd K.t s) n]]) rfl
   ·rintro j ⟨hj,Bi⟩;by_cases Ab:j<n
    ·have d2:=dtT j n;obtain⟨c,c1,c2,c3,c4⟩:=BC j Ab;have D9:=JX c2;have U2:=X3 (l:=l) (i:=j) om;have BH:(Gr (j+1)).all (λk=>agr1 K.t s l k)=((nd K.t c).kids.isEmpty || tyN K.t (Ju K.t c 0) == l.getD j .int):=by rw[Hf,H7,Bi,GA,H8,H9,Gv];unfold agr1;rw[c3]
     have Cf:∀b,(Gr (j+1)).all (λk=>agr1 K.t s l k)=b->b=false->(Gr n).all (λk=>agr1 K.t s l k)=false:=λb h1 h2=>by subst h2;obtain⟨x,hx,UT⟩:=GM.1 h1;exact GM.2 ⟨x,GJ.2 (by have:=GJ.1 hx;omega),UT⟩
     simp only[go_sem,hpF,fRow,d2,c1,Ae]
     repeat refine anO ?_
     refine JH [0,0,4,0,0,0,0,0,0,0,4,0,0,0,0,0,0,4,0,0,0,0,0,0] Jm vM ?_;simp only[go_sem];refine vy_me (hB c c2) (.inl rfl) rfl rfl rfl rfl ?_;by_cases he:(nd K.t c).kids=[]
     ·have Ic:(nd K.t c).kids.isEmpty=true:=by rw[he];rfl
      rw[Ic,G5]at BH;simp only[go_sem,Ic,txV];refine⟨Jg,j+1,[0,1,2,3,4],⟨om,BH⟩,om,rfl,?_,?_⟩
      ·exact Qo (K:=K) (Z:=⟨got1,dn1,fd1,fg1,none⟩) (X:=[]) rfl
      ·simp only[ren,Jl];refine Jt ?_;simp[Km,Kw]
     ·have Ic:(nd K.t c).kids.isEmpty=false:=by cases h:(nd K.t c).kids <;> simp_all
      obtain⟨q1,q2,q3,q4⟩:=Yp g c2 (.inr (.inr ⟨c4,he⟩));have D7:=JC g c2 (j:=0) q1;have FK:=JF (l:=(nd K.t c).kids) (i:=0) q1;rw[D7]at FK;have Az:(iz (nd K.t c).kids).length=(nd K.t c).kids.length:=Jf;rw[Ic,Hq]at BH;simp only[go_sem,Ic,Ja,D9,Nd.cv,Az,FK]
      repeat refine And.intro (by first|omega|exact⟨om,om⟩|exact G6 rfl) ?_
      refine vy_me (hW (Ju K.t c 0) om q3 q4) (gok rfl) rfl rfl rfl rfl ?_;simp only[go_sem,txV,Br,U2,JdB]
      repeat refine anO ?_
      cases hx:(tyN K.t (Ju K.t c 0) == l.getD j .int) with
      |true=>
       rw[hx]at BH;simp only[go_sem];refine⟨Jg,j+1,[0,1,2,3,4],⟨om,BH⟩,om,rfl,?_,?_⟩
       ·exact Qo (K:=K) (Z:=⟨got1,dn1,fd1,fg1,none⟩) (X:=[]) rfl
       ·simp only[ren,Jl];refine Jt ?_;simp[Km,Kw]
      |false=>rw[hx]at BH;rw[Cf _ BH rfl];simp only[go_sem];exact .done (wk.refl _)
    ·have d2:=dfF j n;obtain rfl:j=n:=om;rw[Bi];simp only[go_sem,hpF,fRow,d2];exact .done (wk.refl _)
end
section
structure RS where
 got:List TL
 dn:LK
 fg:LK
 bad:Int
variable (t:Tr)(of:Lx)(R:RS)
def Qc (b:Int):Lu:=[.rslc 5 (ndz t.nodes) none,.rslc 1 (iz t.items) none,.rslc 1 (iz of) none,.slc 1 0 t.nodes.length (some t.nodes.length),.slc 2 0 t.nodes.length (some t.nodes.length),.slc 3 0 t.nodes.length (some t.nodes.length),.int .i64 b]
def hpR (X:Lv):Lv:=.arr 7 [Qc t of R.bad] :: .arr 1 (gz R.got) :: .arr 1 (bqz R.dn) :: .arr 1 (bqz R.fg)::X
variable {t of R}
theorem ren_hpR{ρ:LB}:KE (0::1::2::3::ρ) (hpR t of R X)=hpR t of R (ρ.map λid=>Xn (0::1::2::3::ρ) ((hpR t of R X).getD id .dead)):=by
 have h1:Xn (0::1::2::3::ρ) (.arr 1 (gz R.got))=.arr 1 (gz R.got):=by rw[Jo,ren_gz]
 have h2:∀l,Xn (0::1::2::3::ρ) (.arr 1 (bqz l))=.arr 1 (bqz l):=λl=>by rw[Jo,ren_bqz]
 have h0:Xn (0::1::2::3::ρ) (.arr 7 [Qc t of R.bad])=.arr 7 [Qc t of R.bad]:=rfl;show [Xn _ (.arr 7 [Qc t of R.bad]),Xn _ (.arr 1 (gz R.got)),Xn _ (.arr 1 (bqz R.dn)),Xn _ (.arr 1 (bqz R.fg))]++_=_;rw[h0,h1,h2,h2];rfl
theorem frz_rRow{id:Nat}{b:Int}(h:4<=id):JK id z e (Qc t of b)=Qc t of b:=by
 have h1:¬1=id:=om;have h2:¬2=id:=om;have h3:¬3=id:=om;simp only[Qc,JK,frz,if_neg h1,if_neg h2,if_neg h3]
theorem frz_hpR{id:Nat}:KC (id+4) z e (hpR t of R X)=hpR t of R ((X.map (Kn (id+4) z e)).set id .dead):=by have h0:=frz_rRow (t:=t) (of:=of) (id:=id+4) (z:=z) (e:=e) (b:=R.bad) om;simp only[hpR,KC,Gc,Gd,Kn,h0,JJ (KP _),JJ (Qu _),Gl]
theorem back_outR {σ:LB}(hσ:σ=[0,1,2,3])(hH:H'.length=4):∀(X:Lv) (k:Nat),4<=k->YA σ n k H' X=X
 |[],k,_=>by subst hσ;rw[YA,Hw (by simp[hH])];rfl
 |o::X,k,hk=>by
  have h:Jl k σ 0=none:=by subst hσ;simp only[Jl];rw[iN7,iN7,iN7,iN7]
  rw[YA,h,back_outR hσ hH X (k+1) om]
theorem back_hpR {R':RS}:YA [0,1,2,3] n 0 (hpR t of R' []) (hpR t of R X)=hpR t of R' X:=by
 have h1:=JbJ (τ:=tau [0,1,2,3] n) (z:=1) (KP R'.got);have h2:=λl=>JbJ (τ:=tau [0,1,2,3] n) (z:=1) (Qu l)
 have h0:moO (tau [0,1,2,3] n) (.arr 7 [Qc t of R'.bad])=.arr 7 [Qc t of R'.bad]:=rfl;show moO _ (.arr 7 [Qc t of R'.bad])::moO _ (.arr 1 (gz R'.got))::moO _ (.arr 1 (bqz R'.dn))::moO _ (.arr 1 (bqz R'.fg))::YA [0,1,2,3] n 4 (hpR t of R' []) X=_;rw[h0,h1,h2,h2,back_outR rfl rfl X 4 (Gm _)];rfl
def RMe (P:Program)(f:Nat)(args:Lu)(t:Tr)(of:Lx)(R R':RS)(res:CV):Prop:=CallsC P Env.none f (.ptr 0 0 0::args) (hpR t of R []) λv H'=>v=res/\H'=hpR t of R' []
theorem RMe.on{args:Lu}{R':RS}(h:RMe P f args t of R R' res)(ha:Jk args=true)(hr:res.closed=true):CallsC P E f (.ptr 0 0 0::args) (hpR t of R X) λv H'=>v=res/\H'=hpR t of R' X:=by
 refine(CallsC.loc [0,1,2,3] h ?_ ?_ ?_).mono ?_
 ·show ren _ (.ptr 0 0 0)::JG _ args=_;rw[Q8 args ha];rfl
 ·rw[ren_hpR];rfl
 ·rfl
 ·rintro v H' ⟨v0,H0,⟨rfl,rfl⟩,rfl,rfl⟩;exact⟨JcA _ hr,back_hpR⟩
theorem Fnl.outR(hw:wk v v0)(hc:v.closed=true):Fnl 4 v0 (hpR t of R []) v (hpR t of R X):=by refine .ren [0,1,2,3] (by simp[Jde,hpR,Hf]) ?_;rw[ren_hpR,YD v hc];exact .done hw
theorem Fnl.oneR(id:Nat)(hX:X[id]? = some (.arr z els))(hc:Jq els=true)(Az:(Go.Cm.frz (id+4) z els v).closed=true)(hw:wk (Go.Cm.frz (id+4) z els v) v0):Fnl 4 v0 (hpR t of R []) v (hpR t of R X):=.frz (id+4) z els hX hc (by rw[frz_hpR];exact Fnl.outR hw Az)
theorem QH{args:Lu}{R':RS}(h:CallsC P Env.none f (.ptr 0 0 0::args) (hpR t of R []) λv H'=>Fnl 4 res (hpR t of R' []) v H'):RMe P f args t of R R' res:=CallsC.fnl h
end
def fgL (n:Nat)(S:FS):LK:=(Gr n).map λi=>J6 S.fg i
def JdU (b:Option Nat):Int:=match b with
 |none=>-1
 |some i=>i
def rsO (n:Nat)(S:FS)(d:LK):RS:=⟨S.got,d,fgL n S,JdU S.bad⟩
theorem JhV{S:FS}:(fgL n S).length=n:=by simp[fgL]
theorem fgL_get{S:FS}(h:i<n):(fgL n S).getD i false=J6 S.fg i:=by simp[fgL,Gh,h]
theorem fgL_set{s:Nat}{S:FS}{b:Bool}:(fgL n S).set s b=fgL n { S with fg:=Xz s b S.fg }:=by
 refine GU (by simp[fgL]) λj h1 h2=>?_
 rw[HZ];simp only[fgL,GR,GL,QX];by_cases h:s=j
 ·subst h;simp
 ·rw[if_neg h,if_neg (λe=>h e.symm)]
theorem doF_bad{mean:Nat->Nat}{S:FS}(h:S.bad.isSome=true):doF t o mean f S i=S:=by
 cases f with
 |zero=>rfl
 |succ f=>rw[doF,if_pos (by rw[h];rfl)]
theorem fold_bad{mean:Nat->Nat}{S:FS}(h:S.bad.isSome=true):∀l:LB,l.foldl (doF t o mean f) S=S
 |[]=>rfl
 |i::l=>by rw[List.foldl_cons,doF_bad h];exact fold_bad h l
theorem JaC (e:H=H')(h:KD P E n0 N Q k T H'):Ok P E n0 N Q k T H:=by subst e;exact JD _ _ _ h
def fK (t:Tr)(o:Lx):FT0:=⟨t,ofL t o,upZ t t.nodes.length,fiZ t o t.nodes.length⟩
abbrev mnF (t:Tr)(o:Lx):Nat->Nat:=λi=>(JY t o i).toNat
def GoW (t:Tr)(o:Lx)(f:Nat):Prop:=∀S i,FI t S->FM t o S->Ln S.got->i<t.nodes.length->JfO t o S i->uf t S<f->FMe Gb 31 [.int .i64 (i:Int)] (fK t o) S (doF t o (mnF t o) f S i) (.tup [])
section
variable(g:GoodT t o)(ht:t.Fit)
include g ht
omit g in
theorem Jb3 {S:FS}(h:Ln S.got)(f:Nat):∀l:LB,Ln (l.foldl (doF t o (mnF t o) f) S).got:=by
 intro l
 induction l generalizing S with
 |nil=>exact h
 |cons x l ih=>exact ih (doF_ln ht f S x h)
theorem fmForce (hE:(XY t o).2=0)(ih:GoW t o f){S:FS}{s:Nat}(hI:FI t S)(hM:FM t o S)(Bb:Ln S.got)(hi:i<t.nodes.length)(hP:JfO t o S i)(hu:uf t S<f+1)(hs:s<t.nodes.length)(Bw:(nd t s).k=41)(hm:(m:Int)∈(nd t s).kids)(BX:(nd t m).k=42)(AQ:inS t o (m:Int) i):FMe Gb 180 [.int .i64 (s:Int),.int .i64 (i:Int)] (fK t o) S (Qn t o (doF t o (mnF t o) f) s i S) (.tup []):=by
 have Ag:=g.many;have gK:GoodT (fK t o).t o:=g;have OD:(fK t o).t.Fit:=ht;obtain⟨_,_,_,hL⟩:=KA g hs Bw;refine Kk (vfS c180_ok λN=>?_)
 cases hb:J6 S.fg s with
 |true=>
  have e:Qn t o (doF t o (mnF t o) f) s i S=S.fail i:=by unfold Qn;rw[if_pos hb]
  rw[e];rcases JaJ (k:=s) S.fg 0 with ⟨_,h2,_⟩|⟨q,h1,_⟩
  ·rw[hb]at h2;cases h2
  rw[hb]at h1;simp only[c180,go_sem,hpF,fRow,h1];refine KGn (fmFail (K:=fK t o) (Z:=S)) ?_;simp only[go_sem];exact .done (wk.refl _)
 |false=>
  generalize DL:({ S with fg:=Xz s true S.fg }:FS)=S0;obtain⟨a,ha⟩:∃a:Nat,fs o ((Ji t s:Nat):Int)=a:=⟨(fs o ((Ji t s:Nat):Int)).toNat,by have:=(JhN g (a:=Ji t s) om).1;omega⟩;have iY:a<=Ji t s:=by have:=(JhN g (a:=Ji t s) om).2;omega
  generalize Du:Ji t s+1-a=mm;have e:Qn t o (doF t o (mnF t o) f) s i S=(λS1=>let S2:=if S1.bad.isSome then S1 else JR t s S1;{ S2 with fg:=Xz s false S2.fg }) ((Kr a mm).foldl (doF t o (mnF t o) f) S0):=by unfold Qn;rw[if_neg (by rw[hb];decide)];simp only[ha,Gq,Du,DL]
  rw[e];clear e;generalize Ov:(λS1:FS=>let S2:=if S1.bad.isSome then S1 else JR t s S1;({ S2 with fg:=Xz s false S2.fg }:FS)) ((Kr a mm).foldl (doF t o (mnF t o) f) S0)=SE;have Fx:FI t S0:=by subst DL;exact⟨hI.gl,hI.dl,hI.emp,hI.unf,hI.fnd,hI.fine,hI.ini,hI.typ⟩
  have bF:FM t o S0:=by subst DL;exact hM
  have Mm:Ln S0.got:=by subst DL;exact Bb
  have I6:uf t S0<f:=by subst DL;have:=Jeq hs hb;omega
  have Pi:=JcL g hi hP hs Bw hm BX AQ ha;rw[DL,Du]at Pi;have Eg:=JaE (Jaw g hE f) Fx bF I6 (a:=a) (m:=mm) om Pi;have eU:=λZ=>fmExpr gK OD (Z:=Z) hs Bw
  have PH:(iz (fiZ t o t.nodes.length)).getD (Ji t s) []=[.int .i64 (a:Int)]:=by rw[JF (by rw[Jbl];omega),fiZ_get om om,ha]
  have EM:(iz (fiZ t o t.nodes.length)).length=t.nodes.length:=by rw[Jf,Jbl]
  have BJ:∀(Z:FS) (b:Bool),(∃q v,QZ .int (.int .i64 (s:Int)) (kz Z.fg) 0=some (some (q,v))/\(kz Z.fg).set q (.int .i64 (s:Int),.bool b)=kz (Xz s b Z.fg))\/(QZ .int (.int .i64 (s:Int)) (kz Z.fg) 0=some none/\kz Z.fg++[(.int .i64 (s:Int),.bool b)]=kz (Xz s b Z.fg)):=λZ b=>by
   rcases JaJ (k:=s) Z.fg 0 with ⟨h1,_,h3⟩|⟨q,h1,h3⟩
   ·exact .inr ⟨h1,h3 b⟩
   ·exact .inl ⟨_,_,h1,by rw[Gi];exact h3 b⟩
  have RY:QZ .int (.int .i64 (s:Int)) (kz S.fg) 0=some none\/∃q,QZ .int (.int .i64 (s:Int)) (kz S.fg) 0=some (some (q,.bool false)):=by
   rcases JaJ (k:=s) S.fg 0 with ⟨h1,_,h3⟩|⟨q,h1,h3⟩
   ·exact .inl h1
   ·rw[hb]at h1;exact .inr ⟨_,h1⟩
  have BO:hpF (fK t o) S0 []=[.arr 11 [fRow (fK t o) S.bad],.arr 1 (gz S.got),.arr 1 (bqz S.dn),.map (kz S.fd),.map (kz (Xz s true S.fg))]:=by subst DL;rfl
  rcases RY with h1|⟨q0,h1⟩ <;> rcases BJ S true with ⟨q,v,h2,h3⟩|⟨h2,h3⟩
  ·rw[h1]at h2;cases h2
  case' inr.inl=>rw[h1]at h2;cases h2
  case' inr.inr=>rw[h1]at h2;cases h2
  all_goals
   simp only[c180,go_sem,hpF,fRow,h1,h3];refine JaC BO.symm ?_;simp only[go_sem,hpF,fRow];refine JH [0,0,0,4,0,0,4,0,0,0] Jm vM ?_;simp only[go_sem];refine vy_me (eU S0) (.inl rfl) rfl rfl rfl rfl ?_;simp only[go_sem,fK,PH,EM]
   repeat refine anO ?_
   refine Js (I:=λj:Nat=>j<=mm) (inv:=λj=>mkT 60 [(0,.ptr 0 0 0),(1,.int .i64 (s:Int)),(6,.int .i64 ((a+j:Nat):Int))]) (hp:=λj=>hpF (fK t o) ((Kr a j).foldl (doF t o (mnF t o) f) S0) []) (μ:=λj=>mm-j) 0 [0,1,2,3,4] om rfl ?_ ?_ ?_
   ·simp only[J2,Gc,Gd,ren,Jl];refine Jt ?_;simp[Km,Kw]
   ·exact Qo (K:=fK t o) (Z:=S0) (X:=[]) rfl
   ·intro j hj;obtain⟨p1,p2,p3,p4⟩:=Eg j hj;have Im:=Jb3 ht (o:=o) Mm f (Kr a j);have BH:(Kr a (j+1)).foldl (doF t o (mnF t o) f) S0=doF t o (mnF t o) f ((Kr a j).foldl (doF t o (mnF t o) f) S0) (a+j):=by rw[YK,Ha];rfl
    have CP:((Kr a j).foldl (doF t o (mnF t o) f) S0).bad.isSome=true\/j=mm->(Kr a mm).foldl (doF t o (mnF t o) f) S0=(Kr a j).foldl (doF t o (mnF t o) f) S0:=λh=>by
     rcases h with h|h
     ·have e:Kr a mm=Kr a j++(Kr a mm).drop j:=by
       have:Kr a j=(Kr a mm).take j:=by unfold Kr;rw[<-List.map_take,List.take_range,Nat.min_eq_left hj]
       rw[this,List.take_append_drop]
      rw[e,Ha,fold_bad h]
     ·rw[h]
    generalize bq:(Kr a j).foldl (doF t o (mnF t o) f) S0=Sj at *;obtain⟨gj,dj,fdj,fgj,bj⟩:=Sj;have jJ:=eU ⟨gj,dj,fdj,fgj,bj⟩;simp only[go_sem,hpF];refine KGn jJ ?_;by_cases Ab:j<mm
    ·have d2:(((a+j:Nat):Int)<=((Ji t s:Nat):Int))=True:=J4
     cases bj with
     |none=>
      have hW:=ih _ (a+j) p1 p2 Im om (Pi _ j p3 om p4) (by rw[uf_eq p3];exact I6);simp only[go_sem,fK,hpF,fRow,d2,Gx,Gz];refine KGn hW ?_;simp only[go_sem];refine⟨Jg,j+1,[0,1,2,3,4],om,om,rfl,?_,?_⟩
      ·rw[BH];exact Qo (K:=fK t o) (X:=[]) rfl
      ·simp only[ren,Jl];refine Jt ?_;simp[Km,Kw];omega
     |some b=>
      have Co:=CP (.inl rfl);rw[Co]at Ov;simp only[Gs,if_true]at Ov;subst Ov;rcases BJ ⟨gj,dj,fdj,fgj,some b⟩ false with ⟨q4,v4,h4,h5⟩|⟨h4,h5⟩
      all_goals
       dsimp only at h4 h5
       simp only[go_sem,fK,hpF,fRow,d2,Gs,Gt,h4,h5];exact .done (wk.refl _)
    ·have d2:(((a+j:Nat):Int)<=((Ji t s:Nat):Int))=False:=JS;have Co:=CP (.inr om);rw[Co]at Ov
     cases bj with
     |none=>
      simp only[Gx,Bool.false_eq_true,if_false]at Ov;subst Ov;have jh:=fmSettle gK OD hs Bw p1.gl Im;simp only[go_sem,fK,hpF,fRow,d2,Gx,Gz];refine KGn jh ?_;change KD _ _ _ _ _ _ _ (hpF (fK t o) (JR t s _) []);generalize JR t s ⟨gj,dj,fdj,fgj,none⟩=S2;rcases BJ S2 false with ⟨q4,v4,h4,h5⟩|⟨h4,h5⟩
      all_goals
       simp only[go_sem,hpF,fRow,h4,h5];exact .done (wk.refl _)
     |some b=>
      simp only[Gs,if_true]at Ov;subst Ov;rcases BJ ⟨gj,dj,fdj,fgj,some b⟩ false with ⟨q4,v4,h4,h5⟩|⟨h4,h5⟩
      all_goals
       dsimp only at h4 h5
       simp only[go_sem,fK,hpF,fRow,d2,Gs,Gt,h4,h5];exact .done (wk.refl _)
theorem fmDecl (hE:(XY t o).2=0)(ih:GoW t o f){S:FS}(hI:FI t S)(hM:FM t o S)(Bb:Ln S.got)(hi:i<t.nodes.length)(h3:(nd t i).k=3)(hP:JfO t o S i)(hu:uf t S<f+1):FMe Gb 137 [.int .i64 (i:Int)] (fK t o) S (Y3 t o (doF t o (mnF t o) f) (mnF t o i) i S).1 (txV ((Y3 t o (doF t o (mnF t o) f) (mnF t o i) i S).2.getD [])):=by
 have Ag:=g.many;have gK:GoodT (fK t o).t o:=g;have OD:(fK t o).t.Fit:=ht;obtain⟨m,hm⟩:∃m:Nat,JY t o i=m:=by obtain⟨F9,Co,MJ,_,Oa⟩:=YQ g hE hi h3;exact⟨(JY t o i).toNat,om⟩
 have Du:mnF t o i=m:=by unfold mnF;rw[hm];rfl
 rw[Du];obtain⟨Ce,AQ,Dy⟩:=Jat g hE hi h3 hm;have CW:(iz (ofL t o)).getD i []=[.int .i64 (m:Int)]:=by rw[JF (by rw[QL];exact hi),JeZ hi,hm]
 have Bn:(iz (ofL t o)).length=t.nodes.length:=by rw[Jf,QL]
 have hg:=JX Ce;have Cj:=Yp g Ce;have Ap:(iz (nd t m).kids).length=(nd t m).kids.length:=Jf;have D7:0<(nd t m).kids.length->(iz (nd t m).kids).getD 0 []=[.int .i64 (Ju t m 0:Int)]:=λh=>by rw[JF h,JC g Ce h]
 have AO:∀Z:FS,FI t Z->(gz Z.got).length=t.nodes.length/\(gz Z.got).getD m []=[txV (Jr Z.got m)]:=λZ hZ=>⟨by rw[QB,hZ.gl],KV (by rw[hZ.gl];exact Ce)⟩
 unfold Y3;refine Kk (vfS c137_ok λN=>?_);rcases Dy with h|h|h|⟨h,s,k,s1,s2,s3,s4,s5,s6⟩
 ·rw[if_pos h];simp only[c137,go_sem,hpF,fRow,fK,CW,Bn,Ja,hg,Nd.cv,h,Ga]
  repeat refine anO ?_
  exact Fnl.one (K:=fK t o) 1 rfl rfl rfl (wk.refl _)
 ·rw[iN7,if_pos (.inl h)];obtain⟨q1,q2,q3,q4⟩:=Cj (.inr (.inl om));have hW:=XP gK (Z:=S) (Ju t m 0) (show Ju t m 0<t.nodes.length by omega) q3 q4;simp only[c137,go_sem,hpF,fRow,fK,CW,Bn,Ja,hg,Nd.cv,h,Ga,Ap,D7 q1]
  repeat refine anO ?_
  refine KGn hW ?_;simp only[go_sem];exact Fnl.one (K:=fK t o) 1 rfl rfl rfl (wk.refl _)
 ·rw[iN7,iN7,iN7];obtain⟨g1,g2⟩:=AO S hI;simp only[c137,go_sem,hpF,fRow,fK,CW,Bn,Ja,hg,Nd.cv,h,Ga,g1,g2]
  repeat refine anO ?_
  exact Fnl.out (K:=fK t o) (wk.refl _) rfl
 ·rw[iN7];have hB:=fmBare (K:=fK t o) (Z:=S) (i:=m) Ce;by_cases hn:(nd t m).kids=[]
  ·rw[if_neg (by rintro(h2|⟨_,h2⟩);omega;exact h2 hn)];have he:(nd t m).kids.isEmpty=true:=by rw[hn];rfl
   change FMe _ _ _ _ _ _ (.bool (nd t m).kids.isEmpty) at hB;rw[he]at hB;have Um:(iz (upZ t t.nodes.length)).getD m []=[.int .i64 (s:Int)]:=by rw[JF (by rw[Jc6];exact Ce),up_kid g s2 s4]
   have P8:(iz (upZ t t.nodes.length)).length=t.nodes.length:=by rw[Jf,Jc6]
   rw[s1,Gq]
   cases hb:J6 S.fd s with
   |true=>
    rw[if_neg sM];obtain⟨g1,g2⟩:=AO S hI;rcases JaJ (k:=s) S.fd 0 with ⟨_,h2,_⟩|⟨q,h1,_⟩
    ·rw[hb]at h2;cases h2
    rw[hb]at h1;simp only[c137,go_sem,hpF,fRow,fK,CW,Bn,Ja,hg,Nd.cv,h,Ga]
    repeat refine anO ?_
    refine KGn hB ?_;simp only[go_sem,hpF,fRow,fK,Um,P8,h1,g1,g2]
    repeat refine anO ?_
    exact Fnl.out (K:=fK t o) (wk.refl _) rfl
   |false=>
    rw[if_pos ⟨h,rfl⟩];have hF:=fmForce g ht hE ih hI hM Bb hi hP hu s2 s3 s4 h AQ;obtain⟨f1,_⟩:=JbL g (Jaw g hE f) hI hM hi hP hu s2 s3 s4 h AQ;generalize kJ:Qn t o (doF t o (mnF t o) f) s i S=SF at *;obtain⟨g1,g2⟩:=AO SF f1;have Dk:QZ .int (.int .i64 (s:Int)) (kz S.fd) 0=some none\/∃q,QZ .int (.int .i64 (s:Int)) (kz S.fd) 0=some (some (q,.bool false)):=by
     rcases JaJ (k:=s) S.fd 0 with ⟨h1,_,h3⟩|⟨q,h1,h3⟩
     ·exact .inl h1
     ·rw[hb]at h1;exact .inr ⟨_,h1⟩
    rcases Dk with h1|⟨q,h1⟩
    all_goals
     simp only[c137,go_sem,hpF,fRow,fK,CW,Bn,Ja,hg,Nd.cv,h,Ga]
     repeat refine anO ?_
     refine KGn hB ?_;simp only[go_sem,hpF,fRow,fK,Um,P8,h1]
     repeat refine anO ?_
     refine KGn hF ?_;simp only[go_sem,hpF,fRow,fK,g1,g2]
     repeat refine anO ?_
     exact Fnl.out (K:=fK t o) (wk.refl _) rfl
  ·rw[if_pos (.inr ⟨h,hn⟩)];have he:(nd t m).kids.isEmpty=false:=by cases h:(nd t m).kids <;> simp_all
   change FMe _ _ _ _ _ _ (.bool (nd t m).kids.isEmpty) at hB;rw[he]at hB;obtain⟨q1,q2,q3,q4⟩:=Cj (.inr (.inr ⟨h,hn⟩));have hW:=XP gK (Z:=S) (Ju t m 0) (show Ju t m 0<t.nodes.length by omega) q3 q4;simp only[c137,go_sem,hpF,fRow,fK,CW,Bn,Ja,hg,Nd.cv,h,Ga]
   repeat refine anO ?_
   refine KGn hB ?_;simp only[go_sem,hpF,fRow,fK,Ap,D7 q1]
   repeat refine anO ?_
   refine KGn hW ?_;simp only[go_sem];exact Fnl.one (K:=fK t o) 1 rfl rfl rfl (wk.refl _)
end
def Tx (m:Nat)(l:TL):Prop:=∀a∈l,(tyT a).length<=m
theorem Ja1{a:TyX}(h:(tyT a).length<=m):Tx m [a]:=λb hb=>by rw[Hz.1 hb];exact h
theorem one_tx2(h:Tx m l)(hm:3<=m):(tyT ((Kz l).getD .int)).length<=m:=by
 cases ho:Kz l with
 |none=>simpa [tyT]using hm
 |some a=>have:=XM.1 ho;subst this;exact h a sM
theorem prt_tx(h:Tx m l)(hm:3<=m):(tyT ((prt (Kz l)).getD .int)).length<=m:=by have h1:=one_tx2 h hm;rcases ho:Kz l with _|a|a|a|a <;> rw[ho]at h1 <;> simp[prt,tyT]at h1|- <;> omega
theorem given_tx{ls:List TL}(h:YS ls=some l)(hm:3<=m)(h2:∀x∈ls,Tx m x):Tx m l:=by
 unfold YS at h
 split at h
 ·cases h;exact h2 _ sM
 ·split at h
  ·cases h
   intro a ha;obtain⟨x,hx,rfl⟩:=GX.1 ha;have:=h2 x hx
   cases x with
   |nil=>simpa [tyT]using hm
   |cons b y=>exact this b sM
  ·cases h
theorem rule_tx{k:Nat}{ks:Lx}{K L:Nat->TL}{ty:TyX}{sp sr si gm:TL}(h:J9 k ks n K L ty sp sr si gm=some l)(hK:∀j,Tx 10000 (K j))(hL:Tx 10000 (L 1))(Cj:(tyT ty).length<=10000)(Iy:Tx 10000 sr):Tx 20000 l:=by
 have up:∀{l:TL},Tx 10000 l->Tx 20000 l:=λh a ha=>by have:=h a ha;omega
 have hg:∀(m:Nat) (f:Nat->Nat),YS ((Gr m).map λj=>K (f j))=some l->Tx 20000 l:=λm f h=>up (given_tx h om λx hx=>by obtain⟨j,_,rfl⟩:=GX.1 hx;exact hK _)
 have BK:∀{c:Prop} [Decidable c] {x:TL},(if c then some x else none)=some l->Tx 20000 x->Tx 20000 l:=λh hx=>by
  split at h
  ·cases h;exact hx
  ·cases h
 have hi:Tx 20000 [.int]:=Ja1 (by simp[tyT]);have hb:Tx 20000 [.bool]:=Ja1 (by simp[tyT]);have hn:Tx 20000 []:=λa ha=>by cases ha
 have hp:∀j,(tyT ((prt (Kz (K j))).getD .int)).length<=10000:=λj=>prt_tx (hK j) om
 have hs:∀{a:TyX},(tyT a).length<=10000->Tx 20000 [.str a]:=λh=>Ja1 (by simp[tyT,Xg];omega)
 by_cases e1:k=1
 ·subst e1;cases h;exact hi
 by_cases e2:k=2
 ·subst e2;cases h;exact hb
 by_cases e4:k=4
 ·subst e4;rw[Jhk]at h;exact BK h (hs (hp 1))
 by_cases e5:k=5\/k=6
 ·rw[rk_or e5]at h;exact BK h hb
 by_cases e7:k=7\/k=8
 ·rw[rk_eq e7]at h;exact BK h hb
 by_cases e9:9<=k/\k<=12
 ·rw[rk_lt e9]at h;exact BK h hb
 by_cases e13:13<=k/\k<=17
 ·rw[rk_add e13]at h;exact BK h hi
 by_cases e18:k=18
 ·subst e18;rw[Jhh]at h;exact BK h (up (Ja1 (hp 0)))
 by_cases e19:k=19
 ·subst e19;rw[rk_not]at h;exact BK h hb
 by_cases e20:k=20
 ·subst e20;rw[rk_neg]at h;exact BK h hi
 by_cases e21:k=21
 ·subst e21;rw[Jhj]at h;exact BK h (up (Ja1 (hp 0)))
 by_cases e22:k=22
 ·subst e22;rw[Jhf]at h;exact BK h (up (hK _))
 by_cases e23:k=23
 ·subst e23;rw[Jd3]at h;exact BK h hb
 by_cases e24:k=24
 ·subst e24;rw[Jhg]at h;exact BK h hi
 by_cases e25:k=25
 ·subst e25;cases h;exact hs Cj
 by_cases e26:k=26
 ·subst e26;rw[Jhl]at h;exact BK h (up Iy)
 by_cases e27:k=27
 ·subst e27;rw[rk_if]at h;exact BK h (up (hK _))
 by_cases e28:k=28
 ·subst e28;rw[Jhi]at h;exact BK h (up (hK _))
 by_cases e29:k=29
 ·subst e29;rw[Jd4]at h;have:=one_tx2 hL om;exact BK h (Ja1 (by simp[tyT];omega))
 by_cases e40:k=40
 ·subst e40;exact hg _ _ h
 by_cases e45:k=45
 ·subst e45;exact hg _ id h
 by_cases e42:k=42
 ·subst e42;rw[Jdd]at h
  split at h <;> cases h
  ·exact hn
  ·exact up (Ja1 Cj)
 by_cases e64:k=64
 ·subst e64;cases h;exact up (Ja1 Cj)
 by_cases e43:k=43
 ·subst e43;rw[rk_init]at h;exact BK h (up (Ja1 (one_tx2 (hK 0) om)))
 by_cases e44:k=44
 ·subst e44;rw[rk_next]at h;exact BK h hn
 by_cases e47:k=47
 ·subst e47;cases h;exact hi
 by_cases e65:k=65
 ·subst e65;rw[rk_def]at h;exact BK h hn
 have:J9 k ks n K L ty sp sr si gm=some []:=by unfold J9;simp only[e1,e2,e4,e5,e7,e9,e13,e18,e19,e20,e21,e22,e23,e24,e25,e26,e27,e28,e29,e40,e45,e42,e64,e43,e44,e47,e65,if_false]
 rw[this]at h;cases h;exact hn
theorem fine_tx(hf:∀j,Qg (Jr got j)=true)(j:Nat):Tx 10000 (Jr got j):=λa ha=>by have:=Yx (hf j) ha;omega
theorem rule_sm(g:GoodT t o)(ht:t.Fit)(hf:∀j,Qg (Jr got j)=true)(hi:i<t.nodes.length)(hm:m<t.nodes.length\/(nd t i).k≠26)(h:Qd t m got i=some l):Tx 20000 l:=by
 have Ag:=g.many;rw[JW]at h;have Cj:∀{j:Nat},j<t.nodes.length->(tyT (tyN t j)).length<=10000:=λh=>X0 om
 have dz:∀x y,x<t.nodes.length->(tyT (tyN t (Ju t x y))).length<=10000:=λx y hx=>by
  refine Cj ?_;by_cases hy:y<(nd t x).kids.length
  ·have:=(Jz g hx hy).2.1;omega
  ·unfold Ju;rw[Gh,Hy om];simp;omega
 refine rule_tx (k:=(nd t i).k) (n:=(nd t i).n.toNat) (ks:=(nd t i).kids) (K:=KK t got i) (L:=Jbi t got i) (sp:=Q3 t m) (si:=XH t i) (gm:=Jr got m) (sr:=if (nd t i).k=26 then XH t m else []) (Eq.trans ?_ h) (λj=>?_) ?_ (dz i 0 hi) ?_
 ·by_cases Dj:(nd t i).k=26
  ·rw[if_pos Dj]
  ·rw[if_neg Dj];exact ruleK_congr rfl (λ_ _=>rfl) (λ_=>⟨rfl,rfl⟩) (λ_ _ _=>rfl) (λ_ _=>rfl) (λ_=>rfl) (λh=>absurd h Dj) (λ_=>rfl) (λ_=>rfl)
 ·unfold KK
  split
  ·exact fine_tx hf _
  ·intro a ha;cases ha
 ·unfold Jbi
  split
  ·exact fine_tx hf _
  ·intro a ha;cases ha
 ·split
  ·rename_i Dj;rcases hm with hm|hm
   ·intro a ha;unfold XH at ha;obtain⟨x,_,rfl⟩:=GX.1 ha;exact dz m _ hm
   ·exact absurd Dj hm
  ·intro a ha;cases ha
def TyR (f:Nat)(K:FT0)(S:FS)(i:Nat)(R:FS):Prop:=∃(S':FS) (x:CV) (b:Bool) (l:TL),x.closed=true/\FMe Gb f [.int .i64 (i:Int)] K S S' (.tup [x,.bool b])/\(b=true->x=txV l/\l.length<=30/\Tx 20000 l/\R=S'.fin i (some l))/\(b=false->R=S'.fail i)/\S'.got.length=K.t.nodes.length/\S'.dn.length=K.t.nodes.length
theorem TyR.of{S:FS}(h:Ans K S f [.int .i64 (i:Int)] r)(hl:∀l,r=some l->l.length<=30/\Tx 20000 l)(h1:S.got.length=K.t.nodes.length)(h2:S.dn.length=K.t.nodes.length):TyR f K S i (S.fin i r):=by
 obtain⟨x,q1,q2,q3⟩:=h
 cases r with
 |none=>exact⟨S,x,false,[],q1,q3,λh=>(by cases h),λ_=>rfl,h1,h2⟩
 |some l=>exact⟨S,x,true,l,q1,q3,λ_=>⟨q2 l rfl,(hl l rfl).1,(hl l rfl).2,rfl⟩,λh=>(by cases h),h1,h2⟩
theorem Jfi {S:FS}(h:S.bad.isSome=true):S.fin i r=S/\S.fail i=S:=by
 have h2:S.fail i=S:=by unfold FS.fail;rw[if_pos h]
 refine⟨?_,h2⟩;unfold FS.fin
 cases r with
 |none=>exact h2
 |some l=>simp only;rw[if_pos h]
theorem Jc7:(txV l).closed=true:=by simp[txV,CV.closed]
section
variable(g:GoodT t o)(ht:t.Fit)
include g ht
omit ht in
theorem Jd9 (hE:(XY t o).2=0)(hi:i<t.nodes.length)(hs:KI t i=true):(ofL t o).getD i 0=(mnF t o i:Int)/\mnF t o i<t.nodes.length/\((nd t i).k=26->(nd t (mnF t o i)).k=65):=by
 have Ai:=(Jeh hE).mean i hi hs;have hr:=Jhy (t:=t) (o:=o) (i:=i);have h0:0<=JY t o i:=om;obtain⟨d,hd⟩:∃d:Nat,JY t o i=d:=⟨(JY t o i).toNat,om⟩;have hm:mnF t o i=d:=by unfold mnF;rw[hd];rfl
 have h2:=mean_text g (Jeh hE) hi hd;rw[hm];exact⟨by rw[JeZ hi,hd],h2.2.2.2,λhk=>((meanC_iff (Jeh hE) hi hk).1 hd).2.2⟩
theorem fmSmall (hE:(XY t o).2=0)(ih:GoW t o f){S:FS}(hI:FI t S)(hM:FM t o S)(Bb:Ln S.got)(hi:i<t.nodes.length)(hb:S.bad=none)(hd:S.dn.getD i false=false)(hP:JfO t o S i)(hu:uf t S<f+1)(h3:(nd t i).k=3):TyR 88 (fK t o) S i (doF t o (mnF t o) (f+1) S i):=by
 have Ag:=g.many;have hg:=JX hi;have hD:=fmDecl g ht hE ih hI hM Bb hi h3 hP hu;have hR:doF t o (mnF t o) (f+1) S i=(Y3 t o (doF t o (mnF t o) f) (mnF t o i) i S).1.fin i (Y3 t o (doF t o (mnF t o) f) (mnF t o i) i S).2:=by rw[doF,if_neg (by rw[hb,hd];decide),if_pos h3]
 rw[hR];have Ri:∃l,(Y3 t o (doF t o (mnF t o) f) (mnF t o i) i S).2=some l:=by
  unfold Y3
  split
  ·exact⟨_,rfl⟩
  ·split
   ·exact⟨_,rfl⟩
   ·split <;> exact⟨_,rfl⟩
 obtain⟨l,hl⟩:=Ri;have CY:FI t (Y3 t o (doF t o (mnF t o) f) (mnF t o i) i S).1/\l.length<=30/\Tx 20000 l:=by
  obtain⟨F9,Co,MJ,_,Oa⟩:=YQ g hE hi h3;obtain⟨m,hm⟩:∃m:Nat,JY t o i=m:=⟨(JY t o i).toNat,om⟩;have Du:mnF t o i=m:=by unfold mnF;rw[hm];rfl
  obtain⟨Ce,AQ,Dy⟩:=Jat g hE hi h3 hm;rw[Du]at hl|-;have BO:∀Z:FS,FI t Z->Ln Z.got->(Jr Z.got m).length<=30/\Tx 20000 (Jr Z.got m):=λZ h1 h2=>⟨h2 m,λa ha=>by have:=Yx (h1.fine m) ha;omega⟩
  have E5:∀x,x<t.nodes.length->Ju t x 0<t.nodes.length:=λx hx=>by
   by_cases hy:0<(nd t x).kids.length
   ·have:=(Jz g hx hy).2.1;omega
   ·unfold Ju;rw[Gh,Hy om];simp;omega
  unfold Y3 at hl|-
  split at hl
  ·rename_i h;rw[if_pos h];cases hl;exact⟨hI,sM,Ja1 (by simp[tyT])⟩
  ·rename_i h;rw[if_neg h]
   split at hl
   ·rename_i h;rw[if_pos h];cases hl;exact⟨hI,sM,Ja1 (by have:=X0 (t:=t) (i:=Ju t m 0) (by have:=E5 m Ce;omega);omega)⟩
   ·rename_i h2;rw[if_neg h2]
    split at hl
    ·rename_i h4;rw[if_pos h4];simp only at hl|-
     cases hl
     rcases Dy with h5|h5|h5|⟨h5,s,k,s1,s2,s3,s4,s5,s6⟩
     ·exact absurd h5 h
     ·exact absurd (.inl h5) h2
     ·omega
     ·rw[s1,Gq];obtain⟨f1,_⟩:=JbL g (Jaw g hE f) hI hM hi hP hu s2 s3 s4 h5 AQ;have jy:Ln (Qn t o (doF t o (mnF t o) f) s i S).got:=by
       unfold Qn
       split
       ·unfold FS.fail;split <;> exact Bb
       ·simp only;have h1:=Jb3 ht (o:=o) (S:={ S with fg:=Xz s true S.fg }) Bb f (Kr (fs o ((Ji t s:Nat):Int)).toNat (Ji t s+1-(fs o ((Ji t s:Nat):Int)).toNat))
        split
        ·exact h1
        ·exact Jcs h1
      exact⟨f1,BO _ f1 jy⟩
    ·rename_i h4;rw[if_neg h4];cases hl;exact⟨hI,BO S hI Bb⟩
 generalize Y3 t o (doF t o (mnF t o) f) (mnF t o i) i S=D at *;obtain⟨Z,r⟩:=D;obtain⟨got,dn,fd,fg,bad⟩:=Z
 dsimp only at hl CY hD|-
 subst hl;rw[Gt]at hD;refine⟨⟨got,dn,fd,fg,bad⟩,txV l,!bad.isSome,l,Jc7,?_,λh=>⟨rfl,CY.2.1,CY.2.2,rfl⟩,λh=>?_,CY.1.gl,CY.1.dl⟩
 ·refine Kk (vfS c88_ok λN=>?_);simp only[c88,go_sem,hpF,fRow,fK,Ja,hg,Nd.cv,h3,Ga]
  repeat refine anO ?_
  refine KG (K:=fK t o) hD (.inl rfl) rfl rfl rfl Jc7 ?_;simp only[go_sem,hpF,fRow,fK];refine JH [0,0,0,0,1,0,0,0] Jm vM ?_;simp only[go_sem];refine Fnl.out (K:=fK t o) (S:=⟨got,dn,fd,fg,bad⟩) (wk.refl _) ?_;simp[CV.closed,Jk,Jc7]
 ·have PO:bad.isSome=true:=by simpa using h
  have h1:=Jfi (S:=⟨got,dn,fd,fg,bad⟩) (i:=i) (r:=some l) PO;rw[h1.1,h1.2]
theorem fmTypes (hE:(XY t o).2=0)(ih:GoW t o f){S:FS}(hI:FI t S)(hM:FM t o S)(Bb:Ln S.got)(hi:i<t.nodes.length)(hb:S.bad=none)(hd:S.dn.getD i false=false)(hP:JfO t o S i)(hu:uf t S<f+1):TyR 53 (fK t o) S i (doF t o (mnF t o) (f+1) S i):=by
 have Ag:=g.many;have gK:GoodT (fK t o).t o:=g;have OD:(fK t o).t.Fit:=ht;have hg:=JX hi;have Fz:∀m,(m<t.nodes.length\/(nd t i).k≠26)->∀l,Qd t m S.got i=some l->l.length<=30/\Tx 20000 l:=λm hm l h=>by refine⟨?_,rule_sm g ht hI.fine hi hm h⟩;rw[JW]at h;exact rule_len h (λj=>by unfold KK;split;exact Bb _;simp) (kids_len ht i) (sig_len ht _)
 have aN:(nd t i).k≠3->(nd t i).k≠41->doF t o (mnF t o) (f+1) S i=S.fin i (Qd t (mnF t o i) S.got i):=λh1 h2=>by rw[doF,if_neg (by rw[hb,hd];decide),if_neg h1,if_neg h2]
 have Dj:(nd t i).k=26->(fK t o).of.getD i 0=(mnF t o i:Int)/\mnF t o i<t.nodes.length/\(nd t (mnF t o i)).k=65:=λhk=>by obtain⟨h1,h2,h3⟩:=Jd9 g hE hi (by simp[KI,hk]);exact⟨h1,h2,h3 hk⟩
 have BG:(nd t i).k=44->(fK t o).of.getD i 0=(mnF t o i:Int)/\mnF t o i<t.nodes.length:=λhk=>by obtain⟨h1,h2,h3⟩:=Jd9 g hE hi (by simp[KI,hk]);exact⟨h1,h2⟩
 have hR:∀f',(∃R,R=doF t o (mnF t o) (f+1) S i/\TyR f' (fK t o) S i R)->TyR f' (fK t o) S i (doF t o (mnF t o) (f+1) S i):=λf' ⟨R,h1,h2⟩=>by rw[<-h1];exact h2
 have OE:((nd t i).k<=18->TyR 88 (fK t o) S i (doF t o (mnF t o) (f+1) S i))/\(18<(nd t i).k->(nd t i).k<=29->TyR 89 (fK t o) S i (doF t o (mnF t o) (f+1) S i))/\(29<(nd t i).k->TyR 90 (fK t o) S i (doF t o (mnF t o) (f+1) S i)):=by
  have D7:(nd t i).k≠0:=λh0=>by have hn:=g.nds (nd t i) (by unfold nd;rw[Gh,Gu hi];exact GQ hi);rw[ndI_R]at hn;simp[h0,Qk]at hn
  refine⟨λh=>?_,λh1 h2=>?_,λh=>?_⟩
  ·by_cases h3:(nd t i).k=3
   ·exact fmSmall g ht hE ih hI hM Bb hi hb hd hP hu h3
   ·rw[aN h3 om];refine TyR.of ?_ (Fz _ (.inr om)) hI.gl hI.dl;by_cases h1:(nd t i).k=1\/(nd t i).k=2
    ·exact small1 gK hi h1
    ·exact small2 gK hi (show 4<=(nd t i).k/\(nd t i).k<=18 by omega) hI.gl hI.fine
  ·rw[aN om om];by_cases h3:(nd t i).k<=25
   ·exact TyR.of (great1 gK hi (show 19<=(nd t i).k/\(nd t i).k<=25 by omega) hI.gl hI.fine) (Fz _ (.inr om)) hI.gl hI.dl
   ·refine TyR.of (great2 gK OD hi (show 26<=(nd t i).k/\(nd t i).k<=29 by omega) hI.gl hI.fine Bb QL Dj) (Fz _ ?_) hI.gl hI.dl;by_cases h6:(nd t i).k=26
    ·exact .inl (Dj h6).2.1
    ·exact .inr h6
  ·by_cases Ba:(nd t i).k=41
   ·obtain⟨Pj,Ad⟩:=setF_ok gK (K:=fK t o) hI hi Ba;have hS:=fmSet gK OD hI Bb hi Ba;have MW:=setF_ln (K:=fK t o) (s:=i) Bb;have aM:doF t o (mnF t o) (f+1) S i=(YC t i S).fin i (if XF t i (Jr (YC t i S).got (Ji t i))=true then some [] else none):=by rw[doF,if_neg (by rw[hb,hd];decide),iN7,if_pos Ba]
    rw[aM];change FMe _ _ _ _ _ (YC t i S) (.bool (!(YC t i S).bad.isSome && XF t i (Jr (YC t i S).got (Ji t i)))) at hS;change FI t (YC t i S) at Pj;generalize YC t i S=Z at *;have hl:∀l:TL,l=[]->l.length<=30/\Tx 20000 l:=λl h=>by subst h;exact⟨sM,λa ha=>by cases ha⟩
    refine⟨Z,txV [],!Z.bad.isSome && XF t i (Jr Z.got (Ji t i)),[],rfl,?_,λh=>?_,λh=>?_,Pj.gl,Pj.dl⟩
    ·refine Kk (vfS c90_ok λN=>?_);simp only[c90,go_sem,hpF,fRow,fK,Ja,hg,Nd.cv,Ba,Ga]
     repeat refine anO ?_
     refine KGn (K:=fK t o) hS ?_;simp only[go_sem];exact Fnl.out (K:=fK t o) (Jal ⟨wk.nils,wk.refl _,trivial⟩) rfl
    ·simp only[Hm]at h;rw[if_pos h.2];exact⟨rfl,(hl [] rfl).1,(hl [] rfl).2,rfl⟩
    ·by_cases PM:Z.bad.isSome=true
     ·rw[(Jfi PM).1,(Jfi (r:=none) PM).2]
     ·rw[Bool.eq_false_iff.2 PM,GY,GA]at h;rw[h];rfl
   ·rw[aN om Ba];exact TyR.of (part1 gK OD hi (show 30<=(nd t i).k/\(nd t i).k≠41 by omega) hI.gl hI.fine Bb QL BG) (Fz _ (.inr om)) hI.gl hI.dl
 obtain⟨s1,s2,s3⟩:=OE;have fin:∀f' (P1:TyR f' (fK t o) S i (doF t o (mnF t o) (f+1) S i)) (hC:∀(S':FS) (x:CV) (b:Bool),x.closed=true->FMe Gb f' [.int .i64 (i:Int)] (fK t o) S S' (.tup [x,.bool b])->FMe Gb 53 [.int .i64 (i:Int)] (fK t o) S S' (.tup [x,.bool b])),TyR 53 (fK t o) S i (doF t o (mnF t o) (f+1) S i):=λf' P1 hC=>by obtain⟨S',x,b,l,q1,q2,q3⟩:=P1;exact⟨S',x,b,l,q1,hC S' x b q1 q2,q3⟩
 have DY:∀{x:CV} {b:Bool},x.closed=true->(CV.tup [x,.bool b]).closed=true:=λh=>by simp[CV.closed,Jk,h]
 by_cases Uk:(nd t i).k<=18
 ·refine fin _ (s1 Uk) λS' x b hx hF=>?_
  have d1:((nd t i).k<=18)=True:=eq_true Uk;have d2:(((nd t i).k:Int)<=18)=True:=J4;refine Kk (vfS c53_ok λN=>?_);simp only[c53,go_sem,hpF,fRow,fK,Ja,hg,Nd.cv,d2]
  repeat refine anO ?_
  refine KG (K:=fK t o) hF (.inl rfl) rfl rfl rfl (DY hx) ?_;simp only[go_sem];exact Fnl.out (K:=fK t o) (wk.refl _) (DY hx)
 ·have d1:((nd t i).k<=18)=False:=eq_false Uk;have d2:(((nd t i).k:Int)<=18)=False:=JS;by_cases PU:(nd t i).k<=29
  ·refine fin _ (s2 om PU) λS' x b hx hF=>?_
   have d3:(((nd t i).k:Int)<=29)=True:=J4;refine Kk (vfS c53_ok λN=>?_);simp only[c53,go_sem,hpF,fRow,fK,Ja,hg,Nd.cv,d2,d3]
   repeat refine anO ?_
   refine KG (K:=fK t o) hF (.inl rfl) rfl rfl rfl (DY hx) ?_;simp only[go_sem];exact Fnl.out (K:=fK t o) (wk.refl _) (DY hx)
  ·refine fin _ (s3 om) λS' x b hx hF=>?_
   have d3:(((nd t i).k:Int)<=29)=False:=JS;refine Kk (vfS c53_ok λN=>?_);simp only[c53,go_sem,hpF,fRow,fK,Ja,hg,Nd.cv,d2,d3]
   repeat refine anO ?_
   refine KG (K:=fK t o) hF (.inl rfl) rfl rfl rfl (DY hx) ?_;simp only[go_sem];exact Fnl.out (K:=fK t o) (wk.refl _) (DY hx)
theorem lawDo (hE:(XY t o).2=0):∀f,GoW t o f
 |0=>λS i _ _ _ _ _ hu=>om
 |f+1=>λS i hI hM Bb hi hP hu=>by
  have Ag:=g.many;obtain⟨got,dn,fd,fg,bad⟩:=S;have AU:=hI.dl;have AO:=hI.gl
  dsimp only at AU AO Bb
  have Eb:(bqz dn).getD i []=[.bool (dn.getD i false)]:=Jcj om;have Sq:(bqz dn).length=t.nodes.length:=by rw[Jci,AU]
  refine Kk (vfS c31_ok λN=>?_)
  cases hd:dn.getD i false with
  |true=>
   have e:doF t o (mnF t o) (f+1) ⟨got,dn,fd,fg,bad⟩ i=⟨got,dn,fd,fg,bad⟩:=by rw[doF,if_pos (by simp only[hd,Bool.or_true])]
   rw[e];simp only[c31,go_sem,hpF,fRow,fK,Eb,Sq,hd]
   repeat refine anO ?_
   exact .done (wk.refl _)
  |false=>
   cases bad with
   |some b=>
    have e:doF t o (mnF t o) (f+1) ⟨got,dn,fd,fg,some b⟩ i=⟨got,dn,fd,fg,some b⟩:=by rw[doF,if_pos sM]
    rw[e];simp only[c31,go_sem,hpF,fRow,fK,Eb,Sq,hd,Gs,Gt]
    repeat refine anO ?_
    exact .done (wk.refl _)
   |none=>
    obtain⟨S',x,b,l,q1,q2,q3,q4,q5,q6⟩:=fmTypes g ht hE (lawDo hE f) hI hM Bb hi rfl hd hP hu;generalize doF t o (mnF t o) (f+1) ⟨got,dn,fd,fg,none⟩ i=R at *;have DY:(CV.tup [x,.bool b]).closed=true:=by simp[CV.closed,Jk,q1]
    have FQ:=fmFail (K:=fK t o) (Z:=S') (i:=i);simp only[c31,go_sem,hpF,fRow,fK,Eb,Sq,hd,Gx,Gz]
    repeat refine anO ?_
    refine KG (K:=fK t o) (Z:=⟨got,dn,fd,fg,none⟩) q2 (.inl rfl) rfl rfl rfl DY ?_
    cases b with
    |false=>
     have e:=q4 rfl;have DI:(S'.fail i).bad.isSome=true:=by unfold FS.fail;split;assumption;rfl
     rw[<-e]at FQ DI;obtain⟨got1,dn1,fd1,fg1,bad1⟩:=R;obtain⟨b1,rfl⟩:=Lb.1 DI;simp only[go_sem];refine KGn FQ ?_;simp only[go_sem,hpF,fRow,fK,Gs,Gt];exact .done (wk.refl _)
    |true=>
     obtain⟨rfl,l1,l2,l3⟩:=q3 rfl;have hG:=typGreat l om (λa ha=>by have:=l2 a ha;omega);simp only[go_sem];refine Ka (gok rfl) hG ?_
     cases Bq:Qg l with
     |false=>
      have e:R=S'.fail i:=by
       rw[l3];unfold FS.fin;simp only
       split
       ·unfold FS.fail;rw[if_pos (by assumption)]
       ·rw[if_neg (by rw[Bq];decide)]
      have DI:(S'.fail i).bad.isSome=true:=by unfold FS.fail;split;assumption;rfl
      rw[<-e]at FQ DI;clear l3 e q3 q4;obtain⟨got1,dn1,fd1,fg1,bad1⟩:=R;obtain⟨b1,rfl⟩:=Lb.1 DI;simp only[go_sem];refine KGn FQ ?_;simp only[go_sem,hpF,fRow,fK,Gs,Gt];exact .done (wk.refl _)
     |true=>
      obtain⟨got1,dn1,fd1,fg1,bad1⟩:=S'
      dsimp only at q5 q6
      cases bad1 with
      |some b1=>rw[(Jfi (S:=⟨got1,dn1,fd1,fg1,some b1⟩) rfl).1]at l3;rw[l3];simp only[go_sem,hpF,fRow,fK,Gs,Gt];exact .done (wk.refl _)
      |none=>
       have e:R=⟨if l=[] then got1 else got1.set i l,dn1.set i true,fd1,fg1,none⟩:=by rw[l3];unfold FS.fin;simp only;rw[if_neg vk,if_pos Bq]
       rw[e];have R9:(gz got1).length=t.nodes.length:=by rw[QB];exact q5
       have PM:(bqz dn1).length=t.nodes.length:=by rw[Jci];exact q6
       have CE:(txz l).length=l.length:=KL;have O7:(gz got1).getD i []=[txV (Jr got1 i)]:=KV (by rw[q5];exact hi);have Mh:(bqz dn1).getD i []=[.bool (dn1.getD i false)]:=Jcj (by rw[q6];exact hi);by_cases Be:l=[]
       ·subst Be;have d2:((0:Int)<(([]:TL).length:Int))=False:=eq_false sM;rw[if_pos rfl];simp only[go_sem,hpF,fRow,fK,Gx,Gz,txV,CE,PM,Mh,Jh4,Gg,Gf]
        repeat refine anO ?_
        exact .done (wk.refl _)
       ·have d2:((0:Int)<(l.length:Int))=True:=eq_true (by have:=List.length_pos_iff.2 Be;omega);rw[if_neg Be];have Dm:(gz got1).set i [.rslc 1 (txz l) none]=gz (got1.set i l):=gz_set;simp only[go_sem,hpF,fRow,fK,Gx,Gz,txV,CE,d2,PM,R9,O7,Mh,Jh4,Dm,Gg,Gf]
        repeat refine anO ?_
        exact .done (wk.refl _)
end
theorem Jgv{args:Lu}(h:CallsC P Env.none f args [] λv H'=>Fnl 0 v0 [] v H')(ha:Jk args=true)(hv:v0.closed=true):Fn P f args v0:=JhQ ((CallsC.fnl h).mono λ_ _ h=>h.1) ha hv
theorem Fnl.drop(hc:v.closed=true)(hw:wk v v0):Fnl 0 v0 [] v H:=by refine .ren [] rfl ?_;rw[YD v hc];exact .done hw
theorem ok_pad (h:Ok P E n0 N Q k T (H++[.dead])):Ok P E n0 N Q k T H:=by intro m w a b cs kr rest hp hd hk;obtain⟨hs,ho,he⟩:=Sim.pad (n0:=n0) hp.sim;exact Reach.step (.refl _ _) he (h _ w a b cs kr rest ⟨hs,KY ho (KJ.refl _) _ _ hp.tmps,by have:=hp.long;simp;omega⟩ (hd.ext he) hk)
theorem ok_pads:∀(m:Nat) {H:Lv},Ok P E n0 N Q k T (H++Gp m .dead)->Ok P E n0 N Q k T H
 |0,H,h=>by simpa using h
 |m+1,H,h=>ok_pad (ok_pads m (by rw[List.append_assoc];exact h))
theorem NoD.none {p:Nat}(h1:(T.all λc=>(refs c).isEmpty)=true)(h2:(H.all λo=>(JeK o).isEmpty)=true):NoD p T H:=by rw[List.all_eq_true]at h1 h2;exact⟨λc hc i hi=>(by have:=h1 c hc;rw[HY]at this;rw[this]at hi;cases hi),λo ho i hi=>(by have:=h2 o ho;rw[HY]at this;rw[this]at hi;cases hi)⟩
theorem nf_at:∀{l l':Lu}{t:Nat}{c':CV},wks l l'->l'[t]? = some c'->∃c,l[t]? = some c/\Cm.wk c c'
 |[],[],_,_,_,h=>by simp at h
 |c::l,c'::l',0,d,hw,h=>by simp at h;subst h;exact⟨c,rfl,hw.1⟩
 |c::l,c'::l',t+1,d,hw,h=>by simp at h;simpa using nf_at hw.2 h
theorem nf_ln:∀{l l':Lu},wks l l'->l.length=l'.length
 |[],[],_=>rfl
 |_::l,_::l',hw=>by simp[nf_ln hw.2]
theorem vr_wkE{els':LQ}(hH:H[i]? = some (.arr z els))(hl:els.length=els'.length)(hw:∀(j:Nat) (a b:Lu),els[j]? = some a->els'[j]? = some b->wks a b)(h:KD P E n0 N Q k T (H.set i (.arr z els'))):Ok P E n0 N Q k T H:=by
 intro m w a' b' cs kr rest hp hd hk;have hs:=hp.sim;have Dm:∀{k:Nat} {o:CObj},(H.set i (.arr z els'))[k]? = some o->(k=i/\o=.arr z els')\/(k≠i/\H[k]? = some o):=λ{k o} h=>by
  by_cases E5:k=i
  ·subst E5;rw[List.getElem?_set_self (GK.1 hH).1]at h;exact .inl ⟨rfl,(Option.some.inj h).symm⟩
  ·rw[List.getElem?_set_ne (λg=>E5 g.symm)]at h;exact .inr ⟨E5,h⟩
 have key:∀(k:Nat) o,(H.set i (.arr z els'))[k]? = some o->∃o',H[k]? = some o'/\o'.alive=o.alive:=λk o h=>by
  rcases Dm h with ⟨rfl,rfl⟩|⟨_,h2⟩
  ·exact⟨_,hH,rfl⟩
  ·exact⟨o,h2,rfl⟩
 have AB:Sim E m (H.set i (.arr z els')) w:=by
  refine⟨by rw[GV];exact hs.len,λk o x hk hx=>?_,hs.imm,hs.one,λk k' o o' x x' hk AC ha AX hx Aw hB=>?_,λk o x hk ha hx=>?_,λk s b hk=>?_,λk o x hk ha hx=>?_,hs.extlt,hs.gl⟩
  ·rcases Dm hk with ⟨rfl,rfl⟩|⟨_,h2⟩
   ·obtain⟨hz,c,elem,h1,h2,h3,h4,h5⟩:=hs.obj k _ x hH hx;refine⟨hz,c,elem,h1,h2,by rw[<-hl];exact h3,λj e he=>?_,h5⟩;have hj:j<els.length:=by rw[hl];exact(GK.1 he).1
    have bY:=hw j _ e (Gu hj) he;obtain⟨q1,q2⟩:=h4 j _ (Gu hj);refine⟨by rw[<-nf_ln bY];exact q1,λt c' C8=>?_⟩;obtain⟨c0,g1,g2⟩:=nf_at bY C8;obtain⟨r,r1,r2⟩:=q2 t c0 g1;exact⟨r,r1,g2 _ _ _ r2⟩
   ·exact hs.obj k o x h2 hx
  ·obtain⟨p,hp,CU⟩:=key k o hk;obtain⟨p',EW,II⟩:=key k' o' AC;exact hs.sep k k' p p' x x' hp EW (CU.trans ha) (II.trans AX) hx Aw hB
  ·obtain⟨p,hp,CU⟩:=key k o hk;exact hs.ro k p x hp (CU.trans ha) hx
  ·rcases Dm hk with ⟨_,h2⟩|⟨_,h2⟩
   ·cases h2
   ·exact hs.ext k s b h2
  ·obtain⟨p,hp,CU⟩:=key k o hk;exact hs.extsep k p x hp (CU.trans ha) hx
 have he:Ext n0 m H w m (H.set i (.arr z els')) w:=by
  refine⟨Gm _,λ_ _ _=>rfl,KJ.refl _,λB hB=>.inl ?_,λB i v hv=>.inl hv,λk x _ hx=>hx,λh=>h,rfl,rfl,rfl⟩;rcases hB with h|⟨k,o,x,hk,ha,hx,hB⟩
  ·exact .inl h
  ·obtain⟨p,hp,CU⟩:=key k o hk;exact .inr ⟨k,p,x,hp,CU.trans ha,hx,hB⟩
 exact Reach.step (.refl _ _) he (JD _ _ _ h _ w a' b' cs kr rest ⟨AB,hp.tmps,by rw[GV];exact hp.long⟩ (hd.ext he) hk)
theorem vr_pads (m:Nat)(hH:H++Gp m .dead=H')(h:KD P E n0 N Q k T H'):Ok P E n0 N Q k T H:=ok_pads m (by rw[hH];exact JD _ _ _ h)
def nfH (t:Tr)(of up fi:Lx)(X:Lv):Lv:=.arr 11 [[.rslc 5 (ndz t.nodes) none,.rslc 1 (iz t.items) none,.rslc 1 (iz of) none,.slc 5 0 t.nodes.length (some t.nodes.length),.slc 6 0 t.nodes.length (some t.nodes.length),.slc 1 0 t.nodes.length (some t.nodes.length),.slc 2 0 t.nodes.length (some t.nodes.length),.map 3,.map 4,.int .i64 0,.bool false]] :: .arr 1 (gz (Gp t.nodes.length [])) :: .arr 1 (bqz (Gp t.nodes.length false)) :: .map [] :: .map [] :: .arr 1 (iz up) :: .arr 1 (iz fi) :: .arr 1 [[.ptr 0 0 0]]::X
theorem nfH_ren{of:Lx}:KE [0,1,2,3,4,5,6,7] (nfH t of up fi X)=nfH t of up fi []:=by show [_,Xn _ (.arr 1 (gz _)),Xn _ (.arr 1 (bqz _)),_,_,Xn _ (.arr 1 (iz up)),Xn _ (.arr 1 (iz fi)),_]=_;simp only[Xn];rw[Jc (KP _),Jc (Qu _),Jc (Jh _),Jc (Jh _)];rfl
theorem nfH_frz{of:Lx}{id:Nat}:KC (id+8) z e (nfH t of up fi X)=nfH t of up fi ((X.map (Kn (id+8) z e)).set id .dead):=by
 have h0:∀(j:Nat) (a b:Nat) (c:Option Nat),j<8->frz (id+8) z e (.slc j a b c)=.slc j a b c:=λj a b c h=>by simp only[frz];rw[iN7]
 have h1:frz (id+8) z e (.ptr 0 0 0)=.ptr 0 0 0:=by simp only[frz];rw[iN7]
 simp only[nfH,KC,Gc,Gd,Kn,JK,h0 5 _ _ _ vk,h0 6 _ _ _ vk,h0 1 _ _ _ vk,h0 2 _ _ _ vk,h1,JJ (KP _),JJ (Qu _),JJ (Jh _),Gl];rfl
theorem nfH_end{of:Lx}(hK:K=⟨t,of,upZ t t.nodes.length,fiZ t o t.nodes.length⟩):Fnl 0 (.ptr 0 0 0) (hpF K (FS.start t) []) (.ptr 0 0 0) (nfH t of (upZ t t.nodes.length) (fiZ t o t.nodes.length) []):=by
 subst hK;have hu:(iz (upZ t t.nodes.length)).length=t.nodes.length:=by rw[Jf,Jc6]
 have hf:(iz (fiZ t o t.nodes.length)).length=t.nodes.length:=by rw[Jf,Jbl]
 have h1:∀(j a b id:Nat) (c:Option Nat) (z:Nat) (e:LQ),j≠id->frz id z e (.slc j a b c)=.slc j a b c:=λj a b id c z e h=>by simp only[frz];rw[if_neg h]
 have h2:∀(id z:Nat) (e:LQ),0≠id->frz id z e (.ptr 0 0 0)=.ptr 0 0 0:=λid z e h=>by simp only[frz];rw[if_neg h]
 have h3:∀(id z:Nat) (e:LQ) (n:Nat),e.length=n->frz id z e (.slc id 0 n (some n))=.rslc z e none:=λid z e n h=>by subst h;simp only[frz,if_true,Gi,Gm,Gj,List.take_length]
 have e1:KC 5 1 (iz (upZ t t.nodes.length)) (nfH t of (upZ t t.nodes.length) (fiZ t o t.nodes.length) [])=[.arr 11 [[.rslc 5 (ndz t.nodes) none,.rslc 1 (iz t.items) none,.rslc 1 (iz of) none,.rslc 1 (iz (upZ t t.nodes.length)) none,.slc 6 0 t.nodes.length (some t.nodes.length),.slc 1 0 t.nodes.length (some t.nodes.length),.slc 2 0 t.nodes.length (some t.nodes.length),.map 3,.map 4,.int .i64 0,.bool false]],.arr 1 (gz (Gp t.nodes.length [])),.arr 1 (bqz (Gp t.nodes.length false)),.map [],.map [],.dead,.arr 1 (iz (fiZ t o t.nodes.length)),.arr 1 [[.ptr 0 0 0]]]:=by simp only[nfH,KC,Gc,Gd,Kn,JK,h1 6 _ _ 5 _ _ _ vk,h1 1 _ _ 5 _ _ _ vk,h1 2 _ _ 5 _ _ _ vk,h2 5 _ _ vk,h3 5 1 _ _ hu,JJ (KP _),JJ (Qu _),JJ (Jh _),Gl,Gn];rfl
 have e2:KC 6 1 (iz (fiZ t o t.nodes.length)) [.arr 11 [[.rslc 5 (ndz t.nodes) none,.rslc 1 (iz t.items) none,.rslc 1 (iz of) none,.rslc 1 (iz (upZ t t.nodes.length)) none,.slc 6 0 t.nodes.length (some t.nodes.length),.slc 1 0 t.nodes.length (some t.nodes.length),.slc 2 0 t.nodes.length (some t.nodes.length),.map 3,.map 4,.int .i64 0,.bool false]],.arr 1 (gz (Gp t.nodes.length [])),.arr 1 (bqz (Gp t.nodes.length false)),.map [],.map [],.dead,.arr 1 (iz (fiZ t o t.nodes.length)),.arr 1 [[.ptr 0 0 0]]]=hpF ⟨t,of,upZ t t.nodes.length,fiZ t o t.nodes.length⟩ (FS.start t) [.dead,.dead,.arr 1 [[.ptr 0 0 0]]]:=by simp only[KC,Gc,Gd,Kn,JK,h1 1 _ _ 6 _ _ _ vk,h1 2 _ _ 6 _ _ _ vk,h2 6 _ _ vk,h3 6 1 _ _ hf,JJ (KP _),JJ (Qu _),JJ (Jh _),Gl,Gn];rfl
 refine .frz 5 1 (iz (upZ t t.nodes.length)) rfl (Jh _) ?_;rw[h2 5 _ _ vk,e1];refine .frz 6 1 (iz (fiZ t o t.nodes.length)) rfl (Jh _) ?_;rw[h2 6 _ _ vk,e2];refine .ren [0,1,2,3,4] rfl ?_;rw[Qo (Y:=[]) rfl];exact .done (wk.refl _)
section
variable(g:GoodT t o)(ht:t.Fit)
include g ht
theorem newFinder (of:Lx):CallsC Gb Env.none 30 [t.cv,.agg [.rslc 1 (iz of) none]] [] λv H'=>v=.ptr 0 0 0/\H'=hpF ⟨t,of,upZ t t.nodes.length,fiZ t o t.nodes.length⟩ (FS.start t) []:=by
 have Ag:=g.many;refine CallsC.fnl ?_;refine vfS c30_ok λN=>?_
 simp only[c30,go_sem,Tr.cv,Tr.row,Ja];refine Je (id:=0) (z:=2) (els:=[t.row]) rfl rfl ?_;simp only[go_sem,Tr.row];refine Je (id:=1) (z:=1) (els:=[[.rslc 1 (iz of) none]]) rfl rfl ?_;simp only[go_sem];refine vr_ren [] rfl ?_;simp only[go_sem];refine vr_pads 8 rfl ?_;simp only[go_sem];refine JaC (H':=[.dead,.dead,.dead,.dead,.dead,.dead,.dead,.dead]) rfl ?_;simp only[go_sem];have F8:∀(ρ:LB) (id i n:Nat),Jl id ρ 0=some i->ren ρ (.slc id 0 n (some n))=.slc i 0 n (some n):=λρ id i n h=>by simp only[ren,h]
 have Du:∀(ρ:LB) (id i:Nat),Jl id ρ 0=some i->ren ρ (.map id)=.map i:=λρ id i h=>by simp only[ren,h]
 have RQ:∀(ρ:LB) (id i:Nat),Jl id ρ 0=some i->ren ρ (.ptr id 0 0)=.ptr i 0 0:=λρ id i h=>by simp only[ren,h]
 have MS:∀b:Int,0<=b->b<=24->(Cond.and (.ile 0 (t.nodes.length:Int)) (.and (.ile (t.nodes.length:Int) (t.nodes.length:Int)) (.and (.ile (t.nodes.length:Int) 281474976710656) (.ile (b*(t.nodes.length:Int)) 281474976710656)))).holds:=λb h1 h2=>by
  refine⟨?_,?_,?_,?_⟩
  ·show (0:Int)<=_;omega
  ·show (t.nodes.length:Int)<=_;omega
  ·show (t.nodes.length:Int)<=_;omega
  ·show b*(t.nodes.length:Int)<=_;have:=Int.mul_le_mul h2 (show (t.nodes.length:Int)<=700 by omega) om om;omega
 have IE:∀(m:Nat) (c:CV),refs c=[]->JeK (.arr 1 (Gp m [c]))=[]:=λm c h=>by simp[JeK,JeL,h,List.flatMap_replicate]
 refine vr_dregZ 0 [(0,[]),(0,[]),(0,[]),(0,[]),(6,[]),(0,[]),(7,[]),(0,[]),(2,[]),(0,[]),(3,[]),(4,[]),(5,[]),(0,[5,6,1,2,3,4]),(1,[5,6,1,2,3,4]),(8,[]),(8,[0])] Jm vM (NoD.none rfl rfl) ?_;refine YH rfl rfl (G6 rfl) rfl sM ?_;simp only[go_sem];refine YH rfl rfl (G6 rfl) rfl sM ?_;simp only[go_sem];refine YH rfl rfl trivial rfl sM ?_;simp only[go_sem];refine YH rfl rfl trivial rfl sM ?_;simp only[go_sem];refine JaT 5 (λid=>.slc id 0 t.nodes.length (some t.nodes.length)) (.arr 1 (Gp t.nodes.length [.int .i64 0])) rfl (λ_=>rfl) (MS 8 vk vk) (λ_ _ _ h=>F8 _ _ _ _ h) rfl rfl rfl vk vk (IE _ _ rfl) sM ?_;simp only[go_sem,Gn,Gl];refine YH rfl rfl trivial rfl sM ?_;simp only[go_sem];refine JaT 6 (λid=>.slc id 0 t.nodes.length (some t.nodes.length)) (.arr 1 (Gp t.nodes.length [.int .i64 0])) rfl (λ_=>rfl) (MS 8 vk vk) (λ_ _ _ h=>F8 _ _ _ _ h) rfl rfl rfl vk vk (IE _ _ rfl) sM ?_;simp only[go_sem,Gn,Gl];refine YH rfl rfl trivial rfl sM ?_;simp only[go_sem];refine JaT 1 (λid=>.slc id 0 t.nodes.length (some t.nodes.length)) (.arr 1 (Gp t.nodes.length [.nils])) rfl (λ_=>rfl) (MS 24 vk vk) (λ_ _ _ h=>F8 _ _ _ _ h) rfl rfl rfl vk vk (IE _ _ rfl) sM ?_;simp only[go_sem,Gn,Gl];refine YH rfl rfl trivial rfl sM ?_;simp only[go_sem];refine JaT 2 (λid=>.slc id 0 t.nodes.length (some t.nodes.length)) (.arr 1 (Gp t.nodes.length [.bool false])) rfl (λ_=>rfl) (MS 1 vk vk) (λ_ _ _ h=>F8 _ _ _ _ h) rfl rfl rfl vk vk (IE _ _ rfl) sM ?_;simp only[go_sem,Gn,Gl];refine JaT 3 (λid=>.map id) (.map []) rfl (λ_=>rfl) trivial (λ_ _ _ h=>Du _ _ _ h) rfl rfl rfl vk vk rfl sM ?_;simp only[go_sem,Gn,Gl];refine JaT 4 (λid=>.map id) (.map []) rfl (λ_=>rfl) trivial (λ_ _ _ h=>Du _ _ _ h) rfl rfl rfl vk vk rfl sM ?_;simp only[go_sem,Gn,Gl];have AQ:∀(H:Lv) (i:Nat),(∃ob,H[i]? = some ob/\ob.alive=true)->okId H 0 i:=λH i ⟨ob,h1,h2⟩=>⟨(GK.1 h1).1,λhd=>by rw[hd]at h1;cases h1;cases h2⟩
 refine YH rfl rfl trivial rfl (by intro i hi;simp only[Hg,Hd,or_false]at hi;rcases hi with rfl|rfl|rfl|rfl|rfl|rfl <;> exact AQ _ _ ⟨_,rfl,rfl⟩) ?_;simp only[go_sem];refine JaT 0 (λid=>.ptr id 0 0) (.arr 11 [[.rslc 5 (ndz t.nodes) none,.rslc 1 (iz t.items) none,.rslc 1 (iz of) none,.slc 5 0 t.nodes.length (some t.nodes.length),.slc 6 0 t.nodes.length (some t.nodes.length),.slc 1 0 t.nodes.length (some t.nodes.length),.slc 2 0 t.nodes.length (some t.nodes.length),.map 3,.map 4,.int .i64 0,.bool false]]) rfl (λ_=>rfl) trivial (λ_ _ _ h=>RQ _ _ _ h) rfl rfl rfl vk vk rfl (by intro i hi;simp only[Hg,Hd,or_false]at hi;rcases hi with rfl|rfl|rfl|rfl|rfl|rfl <;> exact AQ _ _ ⟨_,rfl,rfl⟩) ?_;simp only[go_sem,Gn];refine JaT 7 (λid=>.ptr id 0 0) (.arr 1 [[.nilp]]) rfl (λ_=>rfl) trivial (λ_ _ _ h=>RQ _ _ _ h) rfl rfl rfl vk vk rfl sM ?_;simp only[go_sem,Gn,Gl];refine vz_set 7 (.arr 1 [[.ptr 0 0 0]]) rfl (λH2 h=>?_) (c:=.and (.le 1 1) (.le 1 1)) (v:=.un) ?_ rfl rfl rfl (by intro i hi;rw[Hz]at hi;subst hi;exact AQ _ _ ⟨_,rfl,rfl⟩) sM ?_
 ·have h2:H2[7]? = some (CObj.arr 1 [[CV.nilp]]):=h;simp only[exec,go_sem,h2]
 ·exact⟨Gm _,Gm _⟩
 simp only[vdz,go_sem,JK,frz,ren,JG,Gn,Gl,GI,Gj,Gw,if_true,if_false];refine vr_wkE (i:=1) (z:=1) (els':=gz (Gp t.nodes.length [])) rfl (by simp[gz]) (λj a b h1 h2=>?_) ?_
 ·rw[GD]at h1;simp only[gz,List.map_replicate,GD]at h2
  split at h1
  ·rename_i hj;rw[if_pos hj]at h2
   cases h1;cases h2
   exact⟨wk.nils,trivial⟩
  ·cases h1
 simp only[go_sem,Gn,Gl];refine JaC (H':=nfH t of (upZ t 0) (fiZ t o 0) []) (by rw[upZ_zero g,fiZ_zero];simp[nfH,bqz,iz]) ?_;simp only[go_sem,Ja];refine Js (I:=λj:Nat=>j<=t.nodes.length) (inv:=λj=>mkT 71 [(6,.ptr 7 0 0),(30,.rslc 5 (ndz t.nodes) none),(31,.int .i64 (t.nodes.length:Int)),(32,.int .i64 (j:Int))]) (hp:=λj=>nfH t of (upZ t j) (fiZ t o j) []) (μ:=λj=>t.nodes.length-j) 0 [0,1,2,3,4,5,6,7] om rfl ?_ nfH_ren ?_
 ·simp only[J2,Gc,Gd,ren,Jl];refine Jt ?_;simp[Km,Kw]
 ·intro j hj;by_cases Ab:j<t.nodes.length
  ·have d2:=dtT j t.nodes.length;have hg:=JX Ab;simp only[go_sem,nfH,d2,Ja,hg,Nd.cv]
   repeat refine anO ?_
   have fr:KC 8 1 [[.int .i64 (j:Int)]] (nfH t of (upZ t j) (fiZ t o j) [.arr 1 [[.int .i64 (j:Int)]],.arr 5 [(nd t j).cv]])=nfH t of (upZ t j) (fiZ t o j) [.dead,.arr 5 [(nd t j).cv]]:=nfH_frz (id:=0);have fr2:KC 9 5 [(nd t j).cv] (nfH t of (upZ t j) (fiZ t o j) [.dead,.arr 5 [(nd t j).cv]])=nfH t of (upZ t j) (fiZ t o j) [.dead,.dead]:=nfH_frz (id:=1);simp only[nfH,Nd.cv]at fr fr2;refine Je (id:=8) (z:=1) (els:=[[.int .i64 (j:Int)]]) rfl rfl ?_;rw[fr];simp only[go_sem,Jv,frz,Gc,Gd,GI,Gj,Gw,if_true,if_false];refine Je (id:=9) (z:=5) (els:=[(nd t j).cv]) rfl rfl ?_;simp only[Nd.cv];rw[fr2];simp only[go_sem,Jv,frz,Gc,Gd,GI,Gj,Gw,if_true,if_false];refine JH [1,0,0,1,0,0,1,2] Jm vM ?_;have EM:(iz (fiZ t o j)).length=t.nodes.length:=by rw[Jf,Jbl]
   have EB:(iz (fiZ t o j)).getD j []=[.int .i64 ((fiZ t o j).getD j 0)]:=JF (by rw[Jbl];exact Ab);simp only[go_sem,EM,EB,iz_set]
   repeat refine anO ?_
   refine JU (backward (nd t j).kids) ?_;simp only[go_sem];have Bj:=(JbM ht Ab).kidn;refine JaC (H':=nfH t of (XB (j:Int) (upZ t j) ((nd t j).kids.reverse.take 0)) ((fiZ t o j).set j (fiS o j (nd t j).kids 0)) [.dead,.dead]) rfl ?_;simp only[go_sem];refine vr_rfuncJ (xs:=bks (nd t j).kids) (Γ:=Unit) (λs _=>True) (λs _=>nfH t of (XB (j:Int) (upZ t j) ((nd t j).kids.reverse.take s)) ((fiZ t o j).set j (fiS o j (nd t j).kids s)) [.dead,.dead]) () trivial rfl rfl rfl rfl c87_ok nm (backward1 _ om) (by simp[bks]) rfl ?_ ?_
   ·intro s _ c _ hc;have Dv:s<(nd t j).kids.length:=by have:=(GK.1 hc).1;rwa [Jfx]at this
    rw[bks_get Dv]at hc
    cases hc
    have Ei:s<(nd t j).kids.reverse.length:=by rw[List.length_reverse];exact Dv
    have Al:(nd t j).kids.reverse.take (s+1)=(nd t j).kids.reverse.take s++[(nd t j).kids.reverse.getD s 0]:=by rw[List.take_succ_eq_append_getElem Ei,Gh,Gu Ei];rfl
    have Ay:(nd t j).kids.reverse.getD s 0∈(nd t j).kids:=by rw[Gh,Gu Ei,Gt,<-List.mem_reverse];exact GQ Ei
    have j4:=g.kid Ab Ay;have En:fiS o j (nd t j).kids (s+1)=fs o ((nd t j).kids.reverse.getD s 0):=by unfold fiS;rw[iN7,Nat.add_sub_cancel]
    generalize (nd t j).kids.reverse.getD s 0=k at *;obtain⟨c,rfl⟩:∃c:Nat,k=c:=⟨k.toNat,om⟩;have fO:(iz (XB (j:Int) (upZ t j) ((nd t j).kids.reverse.take s))).length=t.nodes.length:=by rw[Jf,JbA,Jc6]
    have AO:(iz ((fiZ t o j).set j (fiS o j (nd t j).kids s))).length=t.nodes.length:=by rw[Jf,GV,Jbl]
    have O7:∀x:Nat,x<t.nodes.length->(iz ((fiZ t o j).set j (fiS o j (nd t j).kids s))).getD x []=[.int .i64 (if x=j then fiS o j (nd t j).kids s else(fiZ t o j).getD x 0)]:=λx hx=>by
     rw[JF (by rw[GV,Jbl];exact hx),Gh,List.getElem?_set];by_cases e:j=x
     ·subst e;simp[Jbl,hx]
     ·rw[if_neg e,if_neg (λh=>e h.symm),<-Gh]
    have D9:=O7 c om;have Bp:=O7 j Ab;rw[iN7,fiZ_get om om]at D9;rw[if_pos rfl]at Bp;have fP:(iz (XB (j:Int) (upZ t j) ((nd t j).kids.reverse.take s))).getD c []=[.int .i64 ((XB (j:Int) (upZ t j) ((nd t j).kids.reverse.take s)).getD c 0)]:=JF (by rw[JbA,Jc6];omega);simp only[go_sem,nfH];refine JH [1,0,0,1,0,1,0,0,1,0,0,1,0,0,1,0,1,1,1,2,1,2] Jm vM ?_;simp only[go_sem,fO,AO,D9,Bp,fP,iz_set]
    repeat refine anO ?_
    rw[Al,Jb4,En,List.set_set];exact⟨(),rfl⟩
   ·intro _ _;rw[Jfx,GH sM,<-upZ_succ g Ab,fiZ_succ g Ab];simp only[go_sem];refine⟨Jg,j+1,[0,1,2,3,4,5,6,7],om,om,rfl,nfH_ren,?_⟩;simp only[ren,Jl];refine Jt ?_;simp[Km,Kw]
  ·have d2:=dfF j t.nodes.length;obtain rfl:j=t.nodes.length:=om;simp only[go_sem,nfH,d2];exact nfH_end rfl
end
def typV (t:Tr)(o:Lx):CV:=if (XY t o).2≠0 then .tup [.agg [.nils],.int .i64 ((XY t o).1:Int),.int .i64 (XY t o).2] else match (JN t o).bad with
 |some i=>.tup [.agg [.nils],.int .i64 (i:Int),.int .i64 11]
 |none=>.tup [.agg [.rslc 1 (gz (JN t o).got) none],.int .i64 0,.int .i64 0]
def cpG (got:List TL)(n j:Nat):List TL:=(Gr n).map λx=>if x<j then Jr got x else []
theorem cpG_len{j:Nat}:(cpG got n j).length=n:=by simp[cpG]
theorem cpG_set{j:Nat}:(cpG got n j).set j (Jr got j)=cpG got n (j+1):=by
 refine GU (by simp[cpG]) λx h1 h2=>?_
 rw[HZ];simp only[cpG,GR,GL];by_cases e:j=x
 ·subst e;simp
 ·rw[if_neg e];by_cases h:x<j
  ·rw[if_pos h,iP7]
  ·rw[if_neg h,iN7]
theorem cpG_all(h:got.length=n):cpG got n n=got:=by
 refine GU (by simp[cpG,h]) λx h1 h2=>?_
 simp only[cpG,GR,GL];rw[if_pos (by simpa [cpG]using h1)];unfold Jr;rw[Gh,Gu h2];rfl
theorem nf_in{S:FS}{x:CV}(hx:x.closed=true):KE [1,2,3,4,5,0] (YA [] 1 0 (hpF K S []) [.arr 1 [[x]]])=hpF K S [.arr 1 [[x]]]:=by
 have h1:=JbJ (τ:=tau [] 1) (z:=1) (KP S.got);have h2:=JbJ (τ:=tau [] 1) (z:=1) (Qu S.dn);have h3:∀l:List (Nat×Bool),moO (tau [] 1) (.map (kz l))=.map (kz l):=λl=>by show CObj.map ((kz l).map λp=>(mo _ p.1,mo _ p.2))=_;unfold kz;rw[List.map_map];rfl
 have e:YA [] 1 0 (hpF K S []) [.arr 1 [[x]]]=[.arr 1 [[x]],moO (tau [] 1) (.arr 11 [fRow K S.bad]),.arr 1 (gz S.got),.arr 1 (bqz S.dn),.map (kz S.fd),.map (kz S.fg)]:=by rw[<-h1,<-h2,<-h3 S.fd,<-h3 S.fg];rfl
 rw[e];show [Xn _ (moO (tau [] 1) (.arr 11 [fRow K S.bad])),Xn _ (.arr 1 (gz S.got)),Xn _ (.arr 1 (bqz S.dn)),Xn _ (.map (kz S.fd)),Xn _ (.map (kz S.fg)),Xn _ (.arr 1 [[x]])]=_;have h4:∀l:List (Nat×Bool),Xn [1,2,3,4,5,0] (.map (kz l))=.map (kz l):=λl=>by rw[Jho,ren_kz]
 rw[h4,h4];simp only[Xn];rw[Jc (KP _),Jc (Qu _)];have h5:JG [1,2,3,4,5,0] [x]=[x]:=by simp only[JG,YD x hx]
 simp only[Gc,Gd,h5];rfl
theorem in_ren{S:FS}:KE [0,1,2,3,4,5,6] (hpF K S [.arr 1 [[.slc 6 0 n (some n)]],.arr 1 (gz got)])=hpF K S [.arr 1 [[.slc 6 0 n (some n)]],.arr 1 (gz got)]:=by refine Qo ?_;show [Xn _ (.arr 1 [[.slc 6 0 n (some n)]]),Xn _ (.arr 1 (gz got))]=_;simp only[Xn];rw[Jc (KP _)];rfl
section
variable(g:GoodT t o)(ht:t.Fit)
include g ht
omit ht in
theorem in_pre {S':FS}{j:Nat}(hj:j<t.nodes.length)(hd:S'.bad=none->∀k,k<j->S'.dn.getD (0+k) false=true):JfO t o S' j:=λhb=>by
 have BD:=hd hb;refine⟨λc hc=>?_,λv hv Ch OA _=>?_⟩
 ·have Az:=(J3 g hj hc).2;have:=BD c om;rw[Gi]at this;exact this
 ·have:=BD v om;rw[Gi]at this;exact this
theorem Yt:Fn Gb 9 [t.cv] (typV t o):=by
 have Ag:=g.many;have hR:=nResolve g ht;refine Jgv ?_ rfl (by unfold typV;split;rfl;split <;> rfl);refine vfS c9_ok λN=>?_
 simp only[c9,go_sem,Tr.cv,Tr.row];refine JU hR ?_;by_cases hE:(XY t o).2=0
 ·rw[if_pos hE];simp only[go_sem];refine Je (id:=0) (z:=2) (els:=[t.row]) rfl rfl ?_;simp only[go_sem,Tr.row];refine Je (id:=2) (z:=1) (els:=[[.rslc 1 (iz (ofL t o)) none]]) rfl rfl ?_;simp only[go_sem];refine vr_ren [1] rfl ?_;simp only[go_sem];refine JaC (H':=[.arr 1 [[.nils]]]) rfl ?_;simp only[go_sem,JK,frz,ren,JG,GI,Gj,Gw,if_true,if_false,Jl];have hI:=Jec g hE;have Eg:∀j,(Kr 0 (j+1)).foldl (doF t o (mnF t o) (t.nodes.length+1)) (FS.start t)=doF t o (mnF t o) (t.nodes.length+1) ((Kr 0 j).foldl (doF t o (mnF t o) (t.nodes.length+1)) (FS.start t)) j:=λj=>by rw[YK,Ha,Gi];rfl
  have Aj:(Kr 0 t.nodes.length).foldl (doF t o (mnF t o) (t.nodes.length+1)) (FS.start t)=JN t o:=by
   unfold JN Kr
   congr 1
   exact G8 (λx _=>Gi x) |>.trans (Hl _)
  have Mm:Ln (FS.start t).got:=λj=>by
   unfold FS.start Jr;simp only[Gh,GD]
   split <;> simp
  have Bb:=λj=>Jb3 ht (o:=o) (S:=FS.start t) Mm (t.nodes.length+1) (Kr 0 j)
  have I6:uf t (FS.start t)<=t.nodes.length:=by unfold uf;have:=List.length_filter_le (λs=>!J6 (FS.start t).fg s) (Gr t.nodes.length);rw[List.length_range]at this;exact this
  refine vr_locE [] (.inl rfl) (newFinder g ht (ofL t o)) rfl rfl rfl (v2:=.ptr 1 0 0) rfl rfl ?_;simp only[go_sem,Ja,Gg,Gf,Gi];refine Js (I:=λj:Nat=>j<=t.nodes.length) (inv:=λj=>mkT 67 [(1,.rptr [.rslc 5 (ndz t.nodes) none,.rslc 1 (iz t.items) none]),(2,.ptr 5 0 0),(6,.ptr 0 0 0),(25,.int .i64 (t.nodes.length:Int)),(26,.int .i64 (j:Int))]) (hp:=λj=>hpF (fK t o) ((Kr 0 j).foldl (doF t o (mnF t o) (t.nodes.length+1)) (FS.start t)) [.arr 1 [[.nils]]]) (μ:=λj=>t.nodes.length-j) 0 [1,2,3,4,5,0] om rfl ?_ (nf_in rfl) ?_
  ·simp only[J2,Gc,Gd,ren,Jl];refine Jt ?_;simp[Km,Kw]
  ·intro j hj;obtain⟨q1,q2,q3,q4⟩:=hI j hj;have Im:=Bb j;by_cases Ab:j<t.nodes.length
   ·have d2:=dtT j t.nodes.length;have hW:=lawDo g ht hE (t.nodes.length+1) _ j q1 q2 Im Ab (in_pre g Ab q4) (by rw[uf_eq q3];omega);rw[<-Eg]at hW;simp only[go_sem,d2];refine KGn hW ?_;simp only[go_sem];refine⟨Jg,j+1,[0,1,2,3,4,5],om,om,rfl,Qo rfl,?_⟩;simp only[ren,Jl];refine Jt ?_;simp[Km,Kw]
   ·have d2:=dfF j t.nodes.length;obtain rfl:j=t.nodes.length:=om;have Cj:typV t o=match (JN t o).bad with
     |some i=>.tup [.agg [.nils],.int .i64 (i:Int),.int .i64 11]
     |none=>.tup [.agg [.rslc 1 (gz (JN t o).got) none],.int .i64 0,.int .i64 0]:=by unfold typV;rw[if_neg (λh=>h hE)]
    rw[Aj]at q1 Im|-;have AO:=q1.gl;have jg:∀x,Qg (Jr (JN t o).got x)=true:=q1.fine;generalize JN t o=SI at *;obtain⟨got,dn,fd,fg,bad⟩:=SI
    dsimp only at AO Im Cj jg
    cases bad with
    |some i=>
     rw[Cj];simp only[go_sem,d2,hpF,fRow,fK,Gs,Gt];refine JH [0,0,0,0,4,2005,0,0] Jm vM ?_;simp only[go_sem,yexecN (show 1000<=2005 by decide)];refine vy_set 5 (.arr 1 [[.nils]]) (.inl rfl) (c:=.and (.le 1 1) (.le 1 1)) (v:=.un) (λH2 h=>?_) ⟨Gm _,Gm _⟩ sM ?_
     ·have h2:H2[5]? = some (CObj.arr 1 [[CV.nils]]):=h;simp only[exec,go_sem,h2]
     simp only[go_sem,Gn,Gl];exact Fnl.drop rfl (wk.refl _)
    |none=>
     rw[Cj];simp only[go_sem,d2,hpF,fRow,fK,Gx,Gz,Ja];have aH:(gz got).length=t.nodes.length:=by rw[QB,AO]
     have Az:∀j,(gz (cpG got t.nodes.length j)).length=t.nodes.length:=λj=>by rw[QB,cpG_len]
     refine⟨⟨om,om,om,om⟩,?_⟩;refine vr_wkE (i:=6) (z:=1) (els':=gz (cpG got t.nodes.length 0)) rfl (by rw[Az];simp) (λj a b h1 h2=>?_) ?_
     ·rw[GD]at h1;have e:gz (cpG got t.nodes.length 0)=Gp t.nodes.length [txV []]:=by simp[gz,cpG,List.map_const']
      rw[e,GD]at h2
      split at h1
      ·rename_i hj;rw[if_pos hj]at h2
       cases h1;cases h2
       exact⟨wk.nils,trivial⟩
      ·cases h1
     simp only[go_sem,Gn,Gl];refine Js (I:=λj:Nat=>j<=t.nodes.length) (inv:=λj=>mkT 67 [(2,.ptr 5 0 0),(6,.ptr 0 0 0),(49,.int .i64 (t.nodes.length:Int)),(50,.int .i64 (j:Int))]) (hp:=λj=>hpF (fK t o) ⟨got,dn,fd,fg,none⟩ [.arr 1 [[.slc 6 0 t.nodes.length (some t.nodes.length)]],.arr 1 (gz (cpG got t.nodes.length j))]) (μ:=λj=>t.nodes.length-j) 0 [0,1,2,3,4,5,6] om rfl ?_ (in_ren (K:=fK t o) (S:=⟨got,dn,fd,fg,none⟩)) ?_
     ·simp only[J2,Gc,Gd,ren,Jl];refine Jt ?_;simp[Km,Kw]
     ·intro j hj;by_cases Ab:j<t.nodes.length
      ·have d3:=dtT j t.nodes.length;have Bp:=KV (l:=got) (i:=j) om;have iU:=KV (l:=cpG got t.nodes.length j) (i:=j) (by rw[cpG_len];exact Ab);have hC:=cloneTx (l:=Jr got j) (by have:=Im j;omega);have BJ:(gz (cpG got t.nodes.length j)).set j [.rslc 1 (txz (Jr got j)) none]=gz (cpG got t.nodes.length (j+1)):=by rw[<-cpG_set,<-gz_set];rfl
       simp only[go_sem,d3,hpF,fRow,fK];refine JH [0,1,0,0,0,0,1,0,1,1,0,1,2] Jm vM ?_;simp only[go_sem,aH,Bp]
       repeat refine anO ?_
       refine Jdx (.inl rfl) hC ?_;simp only[go_sem,txV,Az,iU,Gg,Gf,BJ]
       repeat refine anO ?_
       refine⟨Jg,j+1,[0,1,2,3,4,5,6],om,om,rfl,in_ren (K:=fK t o) (S:=⟨got,dn,fd,fg,none⟩),?_⟩;simp only[ren,Jl];refine Jt ?_;simp[Km,Kw]
      ·have d3:=dfF j t.nodes.length;obtain rfl:j=t.nodes.length:=om;rw[cpG_all AO];simp only[go_sem,d3,hpF,fRow,fK];have hz:frz 6 1 (gz got) (.tup [.agg [.slc 6 0 t.nodes.length (some t.nodes.length)],.int .i64 0,.int .i64 0])=.tup [.agg [.rslc 1 (gz got) none],.int .i64 0,.int .i64 0]:=by simp only[frz,JK,if_true,Gi,Gj];rw[iP7,GH om]
       refine .frz 6 1 (gz got) rfl (KP _) ?_;rw[hz];exact Fnl.drop rfl (wk.refl _)
 ·rw[if_neg hE];have e:typV t o=.tup [.agg [.nils],.int .i64 ((XY t o).1:Int),.int .i64 (XY t o).2]:=by unfold typV;rw[if_pos hE]
  have d1:((XY t o).2 != 0)=true:=by simpa using hE
  rw[e];simp only[go_sem,d1];exact Fnl.drop rfl (wk.refl _)
end
theorem lawVast4 (t:Tr):Fn Gb 6 [t.cv] (.bool (JdA t)):=by
 refine Jb c6_ok rfl rfl λN=>?_
 have Ae:(iz t.items).length=t.items.length:=Jf
 cases hH:JfR t with
 |true=>
  have hv:JdA t=true:=by unfold JdA;rw[hH];rfl
  rw[hv];unfold JfR at hH;have e1:((160:Int)<(t.nodes.length:Int))=(160<t.nodes.length):=propext om;have e2:((t.nodes.length:Int)<=700)=(t.nodes.length<=700):=propext om;have e3:((1400:Int)<(t.nodes.length:Int))=(1400<t.nodes.length):=propext om;have e4:((40:Int)<(t.items.length:Int))=(40<t.items.length):=propext om;by_cases g1:160<t.nodes.length <;> by_cases g2:t.nodes.length<=700 <;> by_cases g3:1400<t.nodes.length <;> by_cases g4:40<t.items.length <;> first|(exfalso;omega)|(exfalso;simp[g1,g2,g3,g4]at hH;done)|(simp only[c6,go_sem,Tr.cv,Tr.row,Ja,Ae,e1,e2,e3,e4,g1,g2,g3,g4])
 |false=>
  unfold JfR at hH;simp only[Bool.or_eq_false_iff,La,decide_eq_false_iff_not]at hH;obtain⟨⟨h1,h2⟩,h3⟩:=hH;have e3:((1400:Int)<(t.nodes.length:Int))=False:=JS;have e4:((40:Int)<(t.items.length:Int))=False:=JS;have hv:JdA t=t.nodes.any Jc5:=by
   unfold JdA JfR;have:(decide (160<t.nodes.length) && decide (t.nodes.length<=700))=false:=by simp only[La,decide_eq_false_iff_not];exact h1
   rw[this,decide_eq_false h2,decide_eq_false h3];rfl
  rw[hv];by_cases g1:160<t.nodes.length
  case' pos=>have e1:((160:Int)<(t.nodes.length:Int))=True:=J4;have e2:((t.nodes.length:Int)<=700)=False:=JS;simp only[c6,go_sem,Tr.cv,Tr.row,Ja,Ae,e1,e2,e3,e4]
  case' neg=>have e1:((160:Int)<(t.nodes.length:Int))=False:=JS;simp only[c6,go_sem,Tr.cv,Tr.row,Ja,Ae,e1,e3,e4]
  all_goals (
   refine Je (id:=0) (z:=2) (els:=[t.row]) rfl rfl ?_;simp only[go_sem,JK,KC,frz,Kn,Tr.row];refine JL (I:=λi:Nat=>i<=t.nodes.length/\t.nodes.any Jc5=(t.nodes.drop i).any Jc5) (inv:=λi=>gp [(1,.rptr t.row),(1,.int .i64 (i:Int))] 47) (hp:=λ_=>[.dead]) (μ:=λi=>t.nodes.length-i) 0 ⟨om,rfl⟩ ?_ rfl ?_
   ·simp[forget,gp,Tr.row]
   ·rintro i ⟨hi,Aa⟩;by_cases Ab:i<t.nodes.length
    ·have d1:=dtT i t.nodes.length;have hg:=QE Ab;rw[Ht Ab,List.any_cons,<-rowg Ab]at Aa;generalize t.nodes.getD i default=x at hg Aa;have Br:(iz x.kids).length=x.kids.length:=Jf;by_cases g5:30<x.kids.length
     ·have e5:((30:Int)<(x.kids.length:Int))=True:=J4;rw[show Jc5 x=true by simp[Jc5,g5],G5]at Aa;simp only[go_sem,Tr.row,Ja,d1,hg,Nd.cv,Br,e5,Aa];omega
     ·have e5:((30:Int)<(x.kids.length:Int))=False:=JS;by_cases g6:60<x.text.length
      ·have e6:((60:Int)<(x.text.length:Int))=True:=J4;rw[show Jc5 x=true by simp[Jc5,g6],G5]at Aa;simp only[go_sem,Tr.row,Ja,d1,hg,Nd.cv,Br,e5,e6,Aa];omega
      ·have e6:((60:Int)<(x.text.length:Int))=False:=JS;rw[show Jc5 x=false by simp[Jc5,g5,g6],Hq]at Aa;simp only[go_sem,Tr.row,Ja,d1,hg,Nd.cv,Br,e5,e6];refine⟨om,om,Jg,i+1,⟨om,Aa⟩,om,?_⟩;simp[forget]
    ·have d1:=dfF i t.nodes.length;rw[Hw om]at Aa;simp only[go_sem,Tr.row,Ja,d1,Aa];simp
   )
theorem law4Tree {l:LA}(h:Ja3 l=some t):Fn Gb 25 [S l] t.cv:=by
 refine Jb c25_ok rfl rfl λN=>?_
 simp only[c25,go_sem];refine JU (refTreeK h).1 ?_;simp only[go_sem,Tr.cv,Tr.row,splice]
theorem Jcw (a b:TL)(ha:a.length<=100000):Fn Gb 39 [txV a,txV b] (.bool (a == b)):=by
 refine fcS c39_ok λN=>?_
 have Am:(txz a).length=a.length:=KL;have Bo:(txz b).length=b.length:=KL;by_cases hl:a.length=b.length
 ·have d0:((a.length:Int) != (b.length:Int))=false:=by simp[hl]
  simp only[c39,go_sem,txV,Am,Bo,d0];refine Js (I:=λj:Nat=>j<=a.length/\a.take j=b.take j) (inv:=λj=>mkT 26 [(0,txV a),(1,txV b),(5,.int .i64 (j:Int))]) (hp:=λ_=>[]) (μ:=λj=>a.length-j) 0 [] ⟨om,rfl⟩ rfl ?_ rfl ?_
  ·simp only[J2,Gc,Gd,ren];refine Jt ?_;simp[Km,Kw,txV]
  ·rintro j ⟨hj,hp⟩;by_cases Ab:j<a.length
   ·have d1:=dtT j a.length;have ga:=X3 (l:=a) (i:=j) Ab;have gb:=X3 (l:=b) (i:=j) om;have ta:=Jg5 (l:=a) (i:=j) Ab;have tb:=Jg5 (l:=b) (i:=j) om;simp only[go_sem,txV,Am,d1];refine JQ Jm vM ?_;simp only[go_sem,Am,Bo,ga,gb,JdB]
    repeat refine anO ?_
    cases he:(a.getD j .int == b.getD j .int) with
    |true=>
     simp only[go_sem,Ho];refine⟨Jg,j+1,[],⟨om,?_⟩,om,rfl,rfl,?_⟩
     ·rw[ta,tb,hp,beq_iff_eq.1 he]
     ·simp only[ren];refine Jt ?_;simp[Km,Kw]
    |false=>
     have Ai:(a == b)=false:=by rw[beq_eq_false_iff_ne]at he|-;exact λe=>he (by rw[e])
     simp only[go_sem,GY,Ai]
   ·have d1:=dfF j a.length;have he:(a == b)=true:=by rw[beq_iff_eq,<-GH (show a.length<=j by omega),hp,GH om]
    simp only[go_sem,txV,Am,d1,he]
 ·have d0:((a.length:Int) != (b.length:Int))=true:=by simp;omega
  have he:(a == b)=false:=beq_eq_false_iff_ne.2 λe=>hl (by rw[e])
  simp only[c39,go_sem,txV,Am,Bo,d0,he]
theorem Jea (a b:TL)(ha:a.length<=100000):Fn Gb 18 [txV a,txV b] (.bool (a == b)):=by
 refine Jb c18_ok rfl rfl λN=>?_
 simp only[c18,go_sem,txV];refine JU (Jcw a b ha) ?_;simp only[go_sem]
theorem typInferE (t:Tr)(ht:t.Fit)(h:chk t≠0):Fn Gb 9 [t.cv] (.tup [.agg [.nils],.int .i64 0,.int .i64 (chk t)]):=by
 have hR:=nResolveE t ht h;have d1:(chk t != 0)=true:=by simpa using h
 refine fcS c9_ok λN=>?_
 simp only[c9,go_sem,Tr.cv,Tr.row];refine JU hR ?_;simp only[go_sem,d1]
section
variable(g:GoodT t o)(ht:t.Fit)
include g ht
omit ht in
theorem Je5 (hE:(XY t o).2=0):(JN t o).got.length=t.nodes.length:=by
 have h:=(Jec g hE t.nodes.length (Gm _)).1.gl;have Aj:(Kr 0 t.nodes.length).foldl (doF t o (mnF t o) (t.nodes.length+1)) (FS.start t)=JN t o:=by
  unfold JN Kr
  congr 1
  exact G8 (λx _=>Gi x) |>.trans (Hl _)
 rw[<-Aj];exact h
omit g in
theorem infer_ln:Ln (JN t o).got:=by
 have Aj:(Kr 0 t.nodes.length).foldl (doF t o (mnF t o) (t.nodes.length+1)) (FS.start t)=JN t o:=by
  unfold JN Kr
  congr 1
  exact G8 (λx _=>Gi x) |>.trans (Hl _)
 have Mm:Ln (FS.start t).got:=λj=>by
  unfold FS.start Jr;simp only[Gh,GD]
  split <;> simp
 have:=Jb3 ht (o:=o) (S:=FS.start t) Mm (t.nodes.length+1) (Kr 0 t.nodes.length);rw[Aj]at this;exact this
end
theorem calls_wk{args args':Lu}{R:CV->Lv->Prop}(h:CallsC P E f args' H R)(hw:wks args args'):CallsC P E f args H R:=λm w vs hs hv=>h m w vs hs (JaA hw hv)
section
variable(g:GoodT t o)(ht:t.Fit)
include g ht
theorem typSign (hE:(XY t o).2=0)(hb:(JN t o).bad=none){d:Nat}(hi:i<t.items.length)(hd:t.items.getD i 0=(d:Int)):Fn Gb 22 [t.cv,.int .i64 (i:Int)] (.tup [txV (Q3 t d),txV (XH t d),.int .i64 0]):=by
 have Ag:=g.many;have Fb:=g.items;have hI:=Yt g ht;have eT:typV t o=.tup [.agg [.rslc 1 (gz (JN t o).got) none],.int .i64 0,.int .i64 0]:=by unfold typV;rw[if_neg (λh=>h hE),hb]
 rw[eT]at hI;have Ay:(d:Int)∈t.items:=by rw[<-hd,Gh,Gu hi];exact GQ hi
 have AU:d<t.nodes.length:=by have:=g.itr Ay;omega
 have hk:(nd t d).k=65:=g.defs _ Ay;have Ae:(iz t.items).length=t.items.length:=Jf;have Ar:(iz t.items).getD i []=[.int .i64 (d:Int)]:=by rw[JF hi,hd]
 have d0:((i:Int)<0)=False:=JS;have d1:((t.items.length:Int)<=(i:Int))=False:=JS;refine YT c22_ok rfl (by simp[CV.closed,Jk,txV]) (by simp only[Gg,Gf];decide) λN=>?_
 simp only[c22,go_sem,Tr.cv,Tr.row];refine JU hI ?_;simp only[go_sem,Ae,d0,d1];refine Je (id:=0) (z:=2) (els:=[t.row]) rfl rfl ?_;simp only[go_sem,Tr.row,Jv,frz,JK,Gc,Gd,GI,Gj,if_true];refine vr_ren [] rfl ?_;simp only[go_sem,J2,ren,JG,Gc,Gd];refine JaC (H':=[]) rfl ?_;simp only[go_sem];refine Kt (.inl rfl) (calls_wk (newFinder g ht []) ⟨wk.refl _,Jdw ⟨wk.nils,trivial⟩,trivial⟩) λv K ⟨h1,h2⟩=>?_
 rw[h1,h2];have hS:=fmSign (K:=⟨t,[],upZ t t.nodes.length,fiZ t o t.nodes.length⟩) (Z:=FS.start t) g ht (d:=d) AU hk;simp only[go_sem,Ae,Ar]
 repeat refine anO ?_
 refine KG hS (.inl rfl) rfl rfl rfl (by simp[CV.closed,Jk,txV]) ?_;simp only[go_sem]
end
def tx0:LA:=[100,101,102,32,102,40,110,58,32,105,110,116,41,32,45,62,32,105,110,116,44,32,98,111,111,108,32,123,32,120,44,32,121,32,61,32,105,102,32,110,32,60,32,48,32,123,32,103,105,118,101,32,48,44,32,116,114,117,101,32,125,32,101,108,115,101,32,123,32,103,105,118,101,32,110,44,32,102,97,108,115,101,32,125,59,32,103,105,118,101,32,120,44,32,121,32,125]
def tt0:Tr:=(Ja3 tx0).getD ⟨[],[]⟩
def to0:Lx:=(JB (JO tt0.nodes) []).getD []
def tx1:LA:=[100,101,102,32,102,40,41,32,45,62,32,115,116,114,101,97,109,32,105,110,116,32,123,32,115,32,61,32,49,32,58,58,32,115,59,32,103,105,118,101,32,115,32,125]
def tt1:Tr:=(Ja3 tx1).getD ⟨[],[]⟩
def to1:Lx:=(JB (JO tt1.nodes) []).getD []
def tx2:LA:=[100,101,102,32,102,40,41,32,45,62,32,115,116,114,101,97,109,32,105,110,116,32,123,32,115,58,32,115,116,114,101,97,109,32,105,110,116,32,61,32,49,32,58,58,32,115,59,32,103,105,118,101,32,115,32,125]
def tt2:Tr:=(Ja3 tx2).getD ⟨[],[]⟩
def to2:Lx:=(JB (JO tt2.nodes) []).getD []
def tx3:LA:=[100,101,102,32,102,40,41,32,45,62,32,105,110,116,32,123,32,103,105,118,101,32,116,114,117,101,32,125]
def tt3:Tr:=(Ja3 tx3).getD ⟨[],[]⟩
def to3:Lx:=(JB (JO tt3.nodes) []).getD []
def tx4:LA:=[100,101,102,32,102,40,41,32,45,62,32,105,110,116,32,123,32,97,32,61,32,97,114,114,97,121,40,50,44,32,50,41,32,123,32,91,48,93,32,61,32,49,59,32,91,49,93,32,61,32,116,114,117,101,32,125,59,32,103,105,118,101,32,97,91,48,93,32,125]
def tt4:Tr:=(Ja3 tx4).getD ⟨[],[]⟩
def to4:Lx:=(JB (JO tt4.nodes) []).getD []
theorem tf0:((Ja3 tx0).isSome && chk tt0 == 0 && (JB (JO tt0.nodes) []).isSome && (XY tt0 to0).2 == 0)=true:=vM
theorem tb0:(JN tt0 to0).bad=none:=vM
theorem tf1:((Ja3 tx1).isSome && chk tt1 == 0 && (JB (JO tt1.nodes) []).isSome && (XY tt1 to1).2 == 0)=true:=vM
theorem tb1:(JN tt1 to1).bad=some 4:=vM
theorem tf2:((Ja3 tx2).isSome && chk tt2 == 0 && (JB (JO tt2.nodes) []).isSome && (XY tt2 to2).2 == 0)=true:=vM
theorem tb2:(JN tt2 to2).bad=none:=vM
theorem tf3:((Ja3 tx3).isSome && chk tt3 == 0 && (JB (JO tt3.nodes) []).isSome && (XY tt3 to3).2 == 0)=true:=vM
theorem tb3:(JN tt3 to3).bad=some 3:=vM
theorem tf4:((Ja3 tx4).isSome && chk tt4 == 0 && (JB (JO tt4.nodes) []).isSome && (XY tt4 to4).2 == 0)=true:=vM
theorem tb4:(JN tt4 to4).bad=some 9:=vM
theorem tg0:(Jr (JN tt0 to0).got 15 == [.int,.bool] && Jr (JN tt0 to0).got 4 == [.int] && Jr (JN tt0 to0).got 5 == [.bool] && decide (15<tt0.nodes.length) && decide (0<tt0.items.length) && Q3 tt0 (tt0.items.getD 0 0).toNat == [.int] && XH tt0 (tt0.items.getD 0 0).toNat == [.int,.bool])=true:=vM
theorem kTyp {x:LA}(ht:t=(Ja3 x).getD ⟨[],[]⟩)(ho:o=(JB (JO t.nodes) []).getD [])(h:((Ja3 x).isSome && chk t == 0 && (JB (JO t.nodes) []).isSome && (XY t o).2 == 0)=true) :
  Fn Gb 25 [S x] t.cv/\t.Fit/\GoodT t o/\(XY t o).2=0:=by
 simp only[Hm,beq_iff_eq]at h;obtain⟨⟨⟨h1,h2⟩,h3⟩,h4⟩:=h;have hk:Ja3 x=some t:=by
  cases hx:Ja3 x with
  |none=>rw[hx]at h1;cases h1
  |some y=>rw[ht,hx];rfl
 have Fh:=okT_fit (refTreeK hk).2;have hg:GoodT t o:=by obtain⟨o',g⟩:=(Jei t).1 h2;have hh:=g.ord.h;rw[hh]at ho;rw[ho];exact g
 exact⟨law4Tree hk,Fh,hg,h4⟩
def spT:TyX:=.arr (.str .int)
theorem typSplitK:Fn Gb 26 [S [91,115,116,114,101,97,109,32,105,110,116,93]] (.tup [S [91,93],S [115,116,114,101,97,109,32,105,110,116],.int .i64 0]):=by
 have hP:Fn Gb 49 [S [91,115,116,114,101,97,109,32,105,110,116,93]] (.int .i64 3):=Jg1 spT vk;have hI:Fn Gb 50 [S [91,115,116,114,101,97,109,32,105,110,116,93]] (.tup [S [91,93],S [115,116,114,101,97,109,32,105,110,116],.bool true]):=JdY (some spT) vk;refine fcS c26_ok λN=>?_
 simp only[c26,go_sem];refine JU hP ?_;simp only[go_sem,show ((3:Int) == 0)=false from rfl,show ((20:Int)<3)=False from eq_false vk];refine JU hI ?_;simp only[go_sem]
theorem typDeepK:Fn Gb 27 [S [91,115,116,114,101,97,109,32,105,110,116,93]] (.tup [.int .i64 3,.int .i64 0]):=by
 have hP:Fn Gb 49 [S [91,115,116,114,101,97,109,32,105,110,116,93]] (.int .i64 3):=Jg1 spT vk;refine fcS c27_ok λN=>?_
 simp only[c27,go_sem];refine JU hP ?_;simp only[go_sem,show ((3:Int) == 0)=false from rfl,show ((20:Int)<3)=False from eq_false vk]
theorem Jfg:Fn Gb 7 [] (.bool true):=by
 obtain⟨a0,f0,g0,e0⟩:=kTyp (x:=tx0) (t:=tt0) (o:=to0) rfl rfl tf0;obtain⟨a1,f1,g1,e1⟩:=kTyp (x:=tx1) (t:=tt1) (o:=to1) rfl rfl tf1;obtain⟨a2,f2,g2,e2⟩:=kTyp (x:=tx2) (t:=tt2) (o:=to2) rfl rfl tf2;obtain⟨a3,f3,g3,e3⟩:=kTyp (x:=tx3) (t:=tt3) (o:=to3) rfl rfl tf3;obtain⟨a4,f4,g4,e4⟩:=kTyp (x:=tx4) (t:=tt4) (o:=to4) rfl rfl tf4;have Ao:∀{t:Tr} {o:Lx},(XY t o).2=0->(JN t o).bad=none->typV t o=.tup [.agg [.rslc 1 (gz (JN t o).got) none],.int .i64 0,.int .i64 0]:=λhE hb=>by unfold typV;rw[if_neg (λh=>h hE),hb]
 have Cc:∀{t:Tr} {o:Lx} {i:Nat},(XY t o).2=0->(JN t o).bad=some i->typV t o=.tup [.agg [.nils],.int .i64 (i:Int),.int .i64 11]:=λhE hb=>by unfold typV;rw[if_neg (λh=>h hE),hb]
 have r0:=Yt g0 f0;have r1:=Yt g1 f1;have r2:=Yt g2 f2;have r3:=Yt g3 f3;have r4:=Yt g4 f4;rw[Ao e0 tb0]at r0;rw[Cc e1 tb1]at r1;rw[Ao e2 tb2]at r2;rw[Cc e3 tb3]at r3;rw[Cc e4 tb4]at r4;have hN:=tg0;simp only[Hm,beq_iff_eq,decide_eq_true_eq]at hN;obtain⟨⟨⟨⟨⟨⟨n1,n2⟩,n3⟩,n4⟩,n5⟩,n6⟩,n7⟩:=hN;have hS:=typSign g0 f0 e0 tb0 (i:=0) (d:=(tt0.items.getD 0 0).toNat) n5 (by
  have Ay:tt0.items.getD 0 0∈tt0.items:=by rw[Gh,Gu n5];exact GQ n5
  have:=g0.itr Ay;omega)
 rw[n6,n7]at hS;have AO:=Je5 g0 e0;have FD:(gz (JN tt0 to0).got).length=tt0.nodes.length:=by rw[QB,AO]
 have Sa:=KV (l:=(JN tt0 to0).got) (i:=15) om;have dF:=KV (l:=(JN tt0 to0).got) (i:=4) om;have dE:=KV (l:=(JN tt0 to0).got) (i:=5) om;rw[n1]at Sa;rw[n2]at dF;rw[n3]at dE;refine YT c7_ok rfl rfl (by simp only[Gf];decide) λN=>?_
 simp only[c7,go_sem];refine JU a0 ?_;simp only[go_sem,Tr.cv,Tr.row,splice];refine JU r0 ?_;simp only[go_sem,splice];refine JU hS ?_;simp only[go_sem];refine JU a1 ?_;simp only[go_sem,Tr.cv,Tr.row];refine JU r1 ?_;simp only[go_sem,splice];refine JU a2 ?_;simp only[go_sem,Tr.cv,Tr.row];refine JU r2 ?_;simp only[go_sem,splice];refine JU a3 ?_;simp only[go_sem,Tr.cv,Tr.row];refine JU r3 ?_;simp only[go_sem,splice];refine JU a4 ?_;simp only[go_sem,Tr.cv,Tr.row];refine JU r4 ?_;simp only[go_sem,splice];refine JU typSplitK ?_;simp only[go_sem];refine JU typDeepK ?_;simp only[go_sem,FD,Ja,Sa];refine anO ?_;have s1:Fn Gb 18 [txV [.int,.bool],txV [.int,.bool]] (.bool true):=Jea [.int,.bool] [.int,.bool] vk;have s2:Fn Gb 18 [txV [.int],txV [.int]] (.bool true):=Jea [.int] [.int] vk;have s3:Fn Gb 18 [txV [.bool],txV [.bool]] (.bool true):=Jea [.bool] [.bool] vk;refine Je (id:=6) (z:=1) (els:=[[S [105,110,116]],[S [98,111,111,108]]]) rfl rfl ?_;simp only[go_sem,Jv,JK,frz,KC,Kl,Gc,Gd,Gw,if_true,if_false,Gi,Gj,GG,Gy,Gg,Gf,Gm,Hr];refine JU s1 ?_;simp only[go_sem,FD,dF];refine anO ?_;refine Je (id:=7) (z:=1) (els:=[[S [105,110,116]]]) rfl rfl ?_;simp only[go_sem,Jv,JK,frz,KC,Kl,J8,Gc,Gd,Gw,if_true,if_false,Gi,Gj,GG,Gy,Gg,Gf,Gm];refine Ka (.inr ⟨116,true,rfl,rfl⟩) s2 ?_;simp only[go_sem,FD,dE];refine anO ?_;refine Je (id:=8) (z:=1) (els:=[[S [98,111,111,108]]]) rfl rfl ?_;simp only[go_sem,Jv,JK,frz,KC,Kl,J8,Gc,Gd,Gw,if_true,if_false,Gi,Gj,GG,Gy,Gg,Gf,Gm];refine Ka (.inr ⟨124,true,rfl,rfl⟩) s3 ?_;simp only[go_sem];refine Je (id:=9) (z:=1) (els:=[[S [105,110,116]]]) rfl rfl ?_;simp only[go_sem,Jv,JK,frz,KC,Kl,J8,Gc,Gd,Gw,if_true,if_false,Gi,Gj,GG,Gy,Gg,Gf,Gm];refine Ka (.inr ⟨132,true,rfl,rfl⟩) s2 ?_;simp only[go_sem];refine Je (id:=10) (z:=1) (els:=[[S [105,110,116]],[S [98,111,111,108]]]) rfl rfl ?_;simp only[go_sem,Jv,JK,frz,KC,Kl,J8,Gc,Gd,Gw,if_true,if_false,Gi,Gj,GG,Gy,Gg,Gf,Gm,Hr];refine Ka (.inr ⟨137,true,rfl,rfl⟩) s1 ?_;simp only[go_sem,show (((4:Nat):Int) == 4)=true from rfl,show (((3:Nat):Int) == 3)=true from rfl,show (((9:Nat):Int) == 9)=true from rfl,show ((3:Int) == 3)=true from rfl]
end Go.Cm
end
end
