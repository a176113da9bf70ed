/-
  A part of the proof. Conditions: none.
-/
import Derived.Test.YtdnnimemociklaaGreatDoorWP3
set_option linter.unusedSimpArgs false
set_option linter.unusedVariables false
open List renaming getD_eq_getElem?_getD->Gc,getElem?_eq_getElem->Gd,drop_eq_getElem_cons->Gi,getElem?_eq_some_iff->Gn,drop_eq_nil_of_le->Gp,getElem_mem->Gl,take_length->Gq,map_cons->Gm,length_take->Gs,take_succ_eq_append_getElem->Gz,map_nil->Gv,length_pos_iff->GA,getElem?_take->GD,length_drop->GG,all_eq_true->GH,length_nil->GI,count_cons->GJ,drop_zero->GK,map_take->GL,map_drop->GM,all_cons->GN,all_map->GQ,length->GR
open Bool renaming eq_iff_iff->Gh,eq_false_or_eq_true->Gr,and_eq_true->Gj,or_eq_false_iff->Gt,true_or->Gu,or_false->Gw,not_eq_true'->GU
open Nat renaming le_of_lt->Gf,le_refl->Gg,zero_add->Gx
open Go.Proofs.Tryz renaming prog->Gb
open Int renaming cast_ofNat_Int->Ga,toNat_natCast->Gy
noncomputable section
section
set_option maxRecDepth 100000
set_option maxHeartbeats 40000000
open Go.Proofs
namespace Go.Cm
variable {l:Lv}{a i m n z:Nat}{q:UInt8->Bool}{P:Program}{x:Nd}{b:UInt8}
def Jii:Bool->Lv->Nat
 |_,[]=>0
 |false,c::l=>if isBk c=true then Jii false l+1 else if c=126 then Jii true l+1 else 0
 |true,c::l=>if c=10 then Jii false l+1 else Jii true l+1
def Jap (l:Lv)(a:Nat):Nat:=a+Jii false (l.drop a)
theorem gapE_ge (l:Lv)(a:Nat):a<=Jap l a:=by unfold Jap;omega
theorem Jij(h:l.length<=a):Jap l a=a:=by unfold Jap;rw[Gp h];simp[Jii]
def badB (c:UInt8):Bool:=!(c == 10) && (decide (c.toNat<32) || decide (126<c.toNat))
def badE (l:Lv)(i:Nat):Nat×Int:=match l with
 |[]=>(0,0)
 |c::r=>if badB c=true then(i,4) else badE r (i+1)
def Yw (l:Lv):Nat×Int:=if 2500<l.length then(0,5) else badE l 0
def rdF (l:Lv):Nat->Nat->List (Nat×Lv×Nat)->List (Nat×Lv×Nat)×Nat×Int
 |0,_,acc=>(acc,0,0)
 |n+1,a,acc=>
  if Jap l a<l.length then
   (if (tkL l (Jap l a)).2.2=true then(if acc.length=900 then([],Jap l a,5) else rdF l n (Jap l a+(tkL l (Jap l a)).2.1.length) (acc++[((tkL l (Jap l a)).1,(tkL l (Jap l a)).2.1,Jap l a)])) else([],Jap l a,4))
  else(acc,0,0)
def Jbt (l:Lv):List (Nat×Lv×Nat)×Nat×Int:=if (Yw l).2≠0 then([],(Yw l).1,(Yw l).2) else rdF l (l.length+1) 0 []
def kindR (l:Lv):Nat:=match Jbt l with
 |([t],_,e)=>if e=0/\t.2.1=l then t.1 else 0
 |_=>0
theorem rdF_pre:∀(n a:Nat) (acc r:List (Nat×Lv×Nat)) (p:Nat),rdF l n a acc=(r,p,0)->∃s,r=acc++s
 |0,a,acc,r,p,h=>by simp only[rdF,Prod.mk.injEq]at h;exact⟨[],by rw[<-h.1];simp⟩
 |n+1,a,acc,r,p,h=>by
  simp only[rdF]at h
  split at h
  ·split at h
   ·split at h
    ·simp at h
    ·obtain⟨s,hs⟩:=rdF_pre n _ _ r p h;exact⟨_,by rw[hs,List.append_assoc]⟩
   ·simp at h
  ·simp only[Prod.mk.injEq]at h;exact⟨[],by rw[<-h.1];simp⟩
theorem badB_alnum {c:UInt8}(h:Qp c=true):badB c=false:=by
 simp only[Qp,isLt,XG,Bool.or_eq_true,Gj,decide_eq_true_eq]at h;have h1:¬c.toNat<32:=om
 have h2:¬126<c.toNat:=om
 simp[badB,h1,h2]
theorem badE_none:∀(l:Lv) (i:Nat),(∀c∈l,badB c=false)->badE l i=(0,0)
 |[],i,_=>rfl
 |c::l,i,h=>by simp only[badE];rw[if_neg (by rw[h c sM];simp)];exact badE_none l (i+1) λx hx=>h x (by simp[hx])
theorem tk_name(h:(tkL l a).1=2):isLt (l.getD a 0)=true/\tkL l a=(2,cut l a (Xr Qp l a),decide ((cut l a (Xr Qp l a)).length<=12))/\kws.contains (cut l a (Xr Qp l a))=false:=by
 unfold tkL at h|-;by_cases h1:isLt (l.getD a 0)=true
 ·rw[if_pos h1]at h|-;by_cases h2:kws.contains (cut l a (Xr Qp l a))=true
  ·rw[if_pos h2]at h;simp at h
  ·rw[if_neg h2];exact⟨h1,rfl,by simpa using h2⟩
 ·rw[if_neg h1]at h
  split at h <;> simp at h
theorem kindR_name (l:Lv):(kindR l == 2)=Jel l:=by
 rw[Gh,beq_iff_eq]
 constructor
 ·intro h;unfold kindR at h
  split at h
  ·rename_i t p e he
   split at h
   ·rename_i hc;obtain⟨jD,ht⟩:=hc;subst jD;unfold Jbt at he
    split at he
    ·simp only[Prod.mk.injEq]at he;simp at he
    ·simp only[rdF]at he
     split at he
     ·rename_i Ab
      split at he
      ·rename_i Aq
       split at he
       ·simp at he
       ·obtain⟨s,hs⟩:=rdF_pre _ _ _ _ _ he;simp only[List.nil_append,List.cons_append,List.cons.injEq]at hs;obtain⟨rfl,-⟩:=hs
        dsimp only at ht h
        obtain⟨k1,k2,k3⟩:=tk_name h;rw[k2]at ht Aq
        dsimp only at ht Aq
        have hE:=Jak (q:=Qp) (Gf Ab);have Cn:Jap l 0<=Xr Qp l (Jap l 0):=by unfold Xr;omega
        have Ar:=JbK Cn hE;rw[ht]at Ar k3 Aq;have h0:Jap l 0=0:=om
        rw[h0]at ht k1;have Ao:=JcT.1 ht;have Ag:l≠[]:=by rintro rfl;simp at Ab
        unfold Jel;rw[k1,Ao,k3,Aq];simp[Ag]
      ·simp at he
     ·simp at he
   ·simp at h
  ·simp at h
 ·intro h;unfold Jel at h;simp only[Gj,GU,beq_eq_false_iff_ne,decide_eq_true_eq]at h;obtain⟨⟨⟨⟨h1,h2⟩,h3⟩,h4⟩,h5⟩:=h;have hb:Yw l=(0,0):=by unfold Yw;rw[iN7];exact badE_none l 0 λc hc=>badB_alnum (GH.1 h2 c hc)
  have Du:0<l.length:=GA.2 h5;have hg:Jap l 0=0:=by
   unfold Jap
   cases l with
   |nil=>rfl
   |cons c r=>have hg:=lt_gp (c:=c) (by simpa using h1);simp only[isGp,Gt,beq_eq_false_iff_ne]at hg;simp only[GK,Jii,hg.1,Bool.false_eq_true,if_false,if_neg hg.2]
  have CE:cut l 0 (Xr Qp l 0)=l:=JcT.2 h2;have hT:tkL l 0=(2,l,true):=by unfold tkL;rw[if_pos h1,CE,if_neg (by rw[h3];simp),decide_eq_true h4]
  have EF:Jap l l.length=l.length:=Jij (Gg _);have hr:Jbt l=([(2,l,0)],0,0):=by
   unfold Jbt;rw[hb,if_neg sM];obtain⟨n,hn⟩:∃n,l.length=n+1:=⟨l.length-1,om⟩;have e1:rdF l (l.length+1) 0 []=rdF l l.length (0+l.length) ([]++[(2,l,0)]):=by rw[rdF,hg,if_pos Du,hT,if_pos rfl,if_neg sM]
   have e2:rdF l (n+1) (0+l.length) ([]++[(2,l,0)])=([(2,l,0)],0,0):=by rw[rdF,Gx,EF,iN7];rfl
   rw[e1,<-e2,<-hn]
  unfold kindR;rw[hr];simp
theorem KG (c:UInt8):Fn Gb 158 [.int .u8 c.toNat] (.bool (isLt c)):=by
 refine Jc c158_ok rfl rfl λN=>?_
 have h1:=dle 97 c;have h2:=dge 122 c;simp only[Ga]at h1 h2;simp +contextual only[c158,go_sem,h1,h2,isLt]
theorem QJ (c:UInt8):Fn Gb 157 [.int .u8 c.toNat] (.bool (XG c)):=by
 refine Jc c157_ok rfl rfl λN=>?_
 have h1:=dle 48 c;have h2:=dge 57 c;simp only[Ga]at h1 h2;simp +contextual only[c157,go_sem,h1,h2,XG]
theorem refHas (l:LQ)(s:Lv)(hl:l.length<=100000):Fn Gb 161 [.rslc 1 (sz l) none,S s] (.bool (l.contains s)):=by
 refine Jc c161_ok rfl rfl λN=>?_
 simp only[c161,go_sem];refine JO (I:=λi:Nat=>i<=l.length/\l.contains s=(l.drop i).contains s) (inv:=λi=>gp [(0,.rslc 1 (sz l) none),(0,S s),(3,.int .i64 (i:Int))] 12) (hp:=λ_=>[]) (μ:=λi=>l.length-i) 0 ⟨om,rfl⟩ ?_ rfl ?_
 ·simp[forget,gp]
 ·rintro i ⟨hi,Aa⟩;by_cases Ab:i<l.length
  ·have d1:=dtT i l.length;simp only[go_sem,Jcl,d1];rw[sz_get Ab];refine anO ?_;rw[Gi Ab,List.contains_cons]at Aa;rw[show l.getD i []=l[i] by rw[Gc,Gd Ab];rfl];generalize l[i]=x at Aa|-;have IQ:(x == s)=(s == x):=by rw[Gh,beq_iff_eq,beq_iff_eq];exact eq_comm
   cases hx:(x == s) with
   |true=>rw[<-IQ,hx,Gu]at Aa;simp only[go_sem,hx,Aa]
   |false=>rw[<-IQ,hx,Bool.false_or]at Aa;simp only[go_sem,hx];refine⟨Ji,i+1,⟨om,Aa⟩,om,?_⟩;simp[forget]
  ·have d1:=dfF i l.length;rw[Gp om]at Aa;simp only[go_sem,Jcl,d1,Aa]
   try rfl
theorem refLexCheck (l:Lv)(hl:l.length<=1000000):Fn Gb 116 [S l] (.tup [.int .i64 ((Yw l).1:Nat),.int .i64 (Yw l).2]):=by
 refine Jc c116_ok rfl rfl λN=>?_
 by_cases Di:2500<l.length
 ·have d0:((2500:Int)<(l.length:Int))=True:=KQ;have hc:Yw l=(0,5):=by unfold Yw;rw[if_pos Di]
  simp only[c116,go_sem,d0,hc]
  try rfl
 ·have d0:((2500:Int)<(l.length:Int))=False:=Kq;have hc:Yw l=badE l 0:=by unfold Yw;rw[if_neg Di]
  simp only[c116,go_sem,d0,hc];refine JO (I:=λi:Nat=>i<=l.length/\badE l 0=badE (l.drop i) i) (inv:=λi=>gp [(0,S l),(3,.int .i64 (i:Int))] 26) (hp:=λ_=>[]) (μ:=λi=>l.length-i) 0 ⟨om,rfl⟩ ?_ rfl ?_
  ·simp[forget,gp]
  ·rintro i ⟨hi,Aa⟩;by_cases Ab:i<l.length
   ·have d1:=dtT i l.length;rw[Gi Ab,badE]at Aa;have hg:l.getD i 0=l[i]:=by rw[Gc,Gd Ab];rfl
    rw[<-hg]at Aa;simp only[go_sem,d1];generalize l.getD i 0=c at Aa|-;have Ag:=deq 10 vk c;simp only[Ga]at Ag;refine anO ?_;by_cases D9:c=10
    ·have e1:((c.toNat:Int) != 10)=false:=by rw[bne,Ag];simp[D9]
     rw[if_neg (by simp[badB,D9])]at Aa;simp only[go_sem,e1];refine⟨Ji,i+1,⟨om,Aa⟩,om,?_⟩;simp[forget]
    ·have e1:((c.toNat:Int) != 10)=true:=by rw[bne,Ag];simp[D9]
     by_cases PT:c.toNat<32
     ·have e2:((c.toNat:Int)<32)=True:=KQ;rw[if_pos (by simp[badB,D9,PT])]at Aa;simp only[go_sem,e1,e2,Aa];omega
     ·have e2:((c.toNat:Int)<32)=False:=Kq;by_cases EK:126<c.toNat
      ·have e3:((126:Int)<(c.toNat:Int))=True:=KQ;rw[if_pos (by simp[badB,D9,EK])]at Aa;simp only[go_sem,e1,e2,e3,Aa];omega
      ·have e3:((126:Int)<(c.toNat:Int))=False:=Kq;rw[if_neg (by simp[badB,PT,EK])]at Aa;simp only[go_sem,e1,e2,e3];refine⟨om,om,Ji,i+1,⟨om,Aa⟩,om,?_⟩;simp[forget]
   ·have d1:=dfF i l.length;rw[Gp om]at Aa;simp only[go_sem,d1,Aa,badE]
    try rfl
theorem refGap (l:Lv)(a:Nat)(ha:a<=l.length)(hl:l.length<=1000000):Fn Gb 117 [S l,.int .i64 (a:Int)] (.int .i64 (Jap l a:Nat)):=by
 refine Jc c117_ok rfl rfl λN=>?_
 simp only[c117,go_sem];refine JO (I:=λi:Nat=>i<=l.length/\Jap l a=Jap l i) (inv:=λi=>gp [(0,S l),(0,.int .i64 (i:Int))] 39) (hp:=λ_=>[]) (μ:=λi=>l.length-i) a ⟨ha,rfl⟩ ?_ rfl ?_
 ·simp[forget,gp]
 ·rintro i ⟨hi,Aa⟩;by_cases Ab:i<l.length
  ·have d1:=dtT i l.length;have hg:l.getD i 0=l[i]:=by rw[Gc,Gd Ab];rfl
   have Az:Jap l i=i+Jii false (l.getD i 0::l.drop (i+1)):=by unfold Jap;rw[Gi Ab,hg]
   simp only[go_sem,d1];obtain⟨c,hc⟩:∃c,c=l.getD i 0:=⟨_,rfl⟩;rw[<-hc]at Az|-;have q1:=deq 32 vk c;have q2:=deq 10 vk c;have q3:=deq 126 vk c;simp only[Ga]at q1 q2 q3;refine anO ?_;by_cases PT:c=32
   ·have e1:((c.toNat:Int) == 32)=true:=by rw[q1];simp[PT]
    have hs:Jap l i=Jap l (i+1):=by rw[Az,Jii,if_pos (by simp[isBk,PT])];unfold Jap;omega
    simp only[go_sem,e1];refine⟨Ji,i+1,⟨om,by rw[Aa,hs]⟩,om,?_⟩;simp[forget]
   ·have e1:((c.toNat:Int) == 32)=false:=by rw[q1];simp[PT]
    by_cases D9:c=10
    ·have e2:((c.toNat:Int) == 10)=true:=by rw[q2];simp[D9]
     have hs:Jap l i=Jap l (i+1):=by rw[Az,Jii,if_pos (by simp[isBk,D9])];unfold Jap;omega
     simp only[go_sem,e1,e2,<-hc];refine⟨om,Ji,i+1,⟨om,by rw[Aa,hs]⟩,om,?_⟩;simp[forget]
    ·have e2:((c.toNat:Int) == 10)=false:=by rw[q2];simp[D9]
     by_cases EK:c=126
     ·have e3:((c.toNat:Int) == 126)=true:=by rw[q3];simp[EK]
      have hs:Jap l i=i+Jii true (l.drop i):=by rw[Az,Gi Ab,<-hg,<-hc,Jii,if_neg (by simp[isBk,EK]),if_pos EK,Jii,if_neg D9]
      simp only[go_sem,e1,e2,e3,<-hc];refine⟨om,om,?_⟩;refine JO (I:=λj:Nat=>i<=j/\j<=l.length/\Jap l i=j+Jii true (l.drop j)) (inv:=λj=>gp [(0,S l),(0,.int .i64 (j:Int))] 39) (hp:=λ_=>[]) (μ:=λj=>l.length-j) i ⟨om,om,hs⟩ ?_ rfl ?_
      ·simp[forget,gp]
      ·rintro j ⟨Cw,hj,Fg⟩;by_cases Ba:j<l.length
       ·have d2:=dtT j l.length;have BG:l.getD j 0=l[j]:=by rw[Gc,Gd Ba];rfl
        rw[Gi Ba,<-BG]at Fg;simp only[go_sem,d2];have FL:j=i->l.getD j 0≠10:=by rintro rfl;rw[<-hc];exact D9
        obtain⟨x,IL⟩:∃x,x=l.getD j 0:=⟨_,rfl⟩;rw[<-IL]at Fg FL|-;have q4:=deq 10 vk x;simp only[Ga]at q4;refine anO ?_;by_cases hx:x=10
        ·have e4:((x.toNat:Int) != 10)=false:=by rw[bne,q4];simp[hx]
         rw[Jii,if_pos hx]at Fg;have Ag:j≠i:=λh=>FL h hx
         have F9:Jap l i=Jap l j:=by rw[Fg];unfold Jap;rw[Gi Ba,<-BG,<-IL,Jii,if_pos (by simp[isBk,hx])]
         simp only[go_sem,e4];refine⟨j,⟨om,by rw[Aa,F9]⟩,om,?_⟩;simp[forget]
        ·have e4:((x.toNat:Int) != 10)=true:=by rw[bne,q4];simp[hx]
         rw[Jii,if_neg hx]at Fg;simp only[go_sem,e4];refine⟨Ji,j+1,⟨om,om,om⟩,om,?_⟩;simp[forget]
       ·have d2:=dfF j l.length;have BR:j=l.length:=om
        simp only[go_sem,d2];refine⟨j,⟨om,?_⟩,om,?_⟩
        ·rw[Aa,Fg,Jij om,Gp om];simp[Jii]
        ·simp[forget]
     ·have e3:((c.toNat:Int) == 126)=false:=by rw[q3];simp[EK]
      have hs:Jap l i=i:=by rw[Az,Jii,if_neg (by simp[isBk,PT,D9]),if_neg EK];rfl
      simp only[go_sem,e1,e2,e3,<-hc];refine⟨om,om,?_⟩;rw[Aa,hs]
  ·have d1:=dfF i l.length;simp only[go_sem,d1];rw[Aa,Jij om]
theorem decA_take(h:i<l.length):JcE 0 (l.take (i+1))=JcE 0 (l.take i)*10+((l.getD i 0).toNat-48):=by rw[Gz h,Jiz,JbJ];rw[show l.getD i 0=l[i] by rw[Gc,Gd h];rfl];rfl
theorem decA_pre(i:Nat):JcE 0 (l.take i)<=Jdj l:=by
 have:Jdj l=JcE (JcE 0 (l.take i)) (l.drop i):=by rw[<-Jiz,List.take_append_drop];rfl
 rw[this];exact Jiy _ _
def numV (l:Lv):Int:=if Jcy l=true then(Jdj l:Int) else -1
theorem numV_ok (l:Lv):decide (0<=numV l)=Jcy l:=by
 unfold numV
 split
 ·rename_i h;rw[h];simp
 ·rename_i h;simp at h;rw[h];rfl
theorem refNumber (l:Lv)(hd:l.all XG=true)(hl:l.length<=1000000):Fn Gb 160 [S l] (.int .i64 (numV l)):=by
 refine Jc c160_ok rfl rfl λN=>?_
 simp only[c160,go_sem];refine JO (I:=λi:Nat=>i<=l.length/\JcE 0 (l.take i)<=1000000000) (inv:=λi=>gp [(0,S l),(2,.int .i64 (JcE 0 (l.take i):Nat)),(0,.int .i64 (i:Int))] 25) (hp:=λ_=>[]) (μ:=λi=>l.length-i) 0 ⟨om,by simp[JcE]⟩ ?_ rfl ?_
 ·simp[forget,gp,JcE]
 ·rintro i ⟨hi,Aa⟩;by_cases Ab:i<l.length
  ·have d1:=dtT i l.length;have eY:XG (l.getD i 0)=true:=by rw[Gc,Gd Ab];exact GH.1 hd _ (Gl Ab)
   have Al:=decA_take Ab;have Bb:=decA_pre (l:=l) (i+1);simp only[XG,Gj,decide_eq_true_eq]at eY;simp only[go_sem,d1];generalize l.getD i 0=c at eY Al|-;generalize JcE 0 (l.take i)=v at Aa Al|-;rw[Al]at Bb;refine⟨Ji,om,⟨by show (0:Int)<=_;omega,by show _<=(255:Int);omega⟩,Ji,Ji,?_⟩;by_cases Di:1000000000<v*10+(c.toNat-48)
   ·have d2:((1000000000:Int)<10*(v:Int)+((c.toNat:Int)-48))=True:=KQ;have hn:numV l = -1:=by unfold numV;rw[if_neg];unfold Jcy;rw[decide_eq_false om];simp
    simp only[go_sem,d2,hn]
   ·have d2:((1000000000:Int)<10*(v:Int)+((c.toNat:Int)-48))=False:=Kq;simp only[go_sem,d2];refine⟨Ji,i+1,⟨om,om⟩,om,?_⟩;have e:((v*10+(c.toNat-48):Nat):Int)=10*(v:Int)+((c.toNat:Int)-48):=om
    rw[Al,e];simp[forget]
  ·have d1:=dfF i l.length;have BS:i=l.length:=om
   subst BS;rw[Gq]at Aa;have hv:JcE 0 l=Jdj l:=rfl;by_cases h1:1<l.length
   ·have d2:((1:Int)<(l.length:Int))=True:=KQ;simp only[go_sem,d1,d2,Gq];have hq:=deq 48 vk (l.getD 0 0);simp only[Ga]at hq;have hh:l.head? = some (l.getD 0 0):=by cases l with
     |nil=>simp at h1
     |cons a r=>rfl
    by_cases Rk:l.getD 0 0=48
    ·have e1:(((l.getD 0 0).toNat:Int) == 48)=true:=by rw[hq,Rk];rfl
     have hn:numV l = -1:=by
      unfold numV;rw[if_neg];unfold Jcy;rw[hh,Rk];have:¬(l.length=1\/some (48:UInt8)≠some 48):=by simp;omega
      rw[decide_eq_false this];simp
     refine anO ?_;simp only[go_sem,e1,hn]
    ·have e1:(((l.getD 0 0).toNat:Int) == 48)=false:=by rw[hq];exact beq_eq_false_iff_ne.2 Rk
     have hn:numV l=Jdj l:=by unfold numV;rw[if_pos];unfold Jcy;rw[hh];have:(l.length=1\/some (l.getD 0 0)≠some (48:UInt8)):=.inr (by simpa using Rk);rw[decide_eq_true this,decide_eq_true om];rfl
     refine anO ?_;simp only[go_sem,e1,hn,hv]
   ·have d2:((1:Int)<(l.length:Int))=False:=Kq;have hn:numV l=Jdj l:=by
     unfold numV;rw[if_pos];unfold Jcy;have:(l.length=1\/l.head?≠some (48:UInt8)):=by
      cases l with
      |nil=>right;simp
      |cons a r=>left;simp at h1;simp[h1]
     rw[decide_eq_true this,decide_eq_true om];rfl
    simp only[go_sem,d1,d2,Gq,hn,hv]
theorem cut_take (l:Lv)(a n:Nat):cut l a (a+n)=(l.drop a).take n:=by unfold cut;rw[List.drop_take,Nat.add_sub_cancel_left]
theorem refSign (l:Lv)(a:Nat)(ha:a<l.length)(hl:l.length<=1000000):Fn Gb 159 [S l,.int .i64 (a:Int)] (.tup [.agg (lxz 4 (sgnL (l.drop a)) a),.int .i64 ((a+(sgnL (l.drop a)).length:Nat):Int),.bool (!(sgnL (l.drop a) == []))]):=by
 refine Jc c159_ok rfl rfl λN=>?_
 simp only[c159,go_sem];refine Kk apiSigns ?_;simp only[go_sem];have CL:sgs.length=26:=rfl;have Be:=sgnF_len (r:=l.drop a) sgs [] sM sgs_len;have EF:(sgnL (l.drop a)).length<=2:=Be;refine JO (σ:=Nat×Lv) (I:=λs=>s.1<=sgs.length/\sgnL (l.drop a)=sgnF (l.drop a) (sgs.drop s.1) s.2) (inv:=λs=>gp [(0,S l),(0,.int .i64 (a:Int)),(2,.ptr 0 0 0),(2,S s.2),(0,.rslc 1 (sz sgs) none),(0,.int .i64 (s.1:Int))] 51) (hp:=λs=>[.arr 3 [[.int .u8 0,S [],.int .i64 0]]]) (μ:=λs=>sgs.length-s.1) (0,[]) ⟨om,rfl⟩ ?_ rfl ?_
 ·simp[forget,gp]
 ·rintro⟨i,b⟩ ⟨hi,Aa⟩;simp only at hi Aa;by_cases Ab:i<sgs.length
  ·have d1:=dtT i sgs.length;simp only[go_sem,Jcl,d1];have DR:=sz_get Ab;have RF:=sgs_len _ (Gl Ab);rw[Gi Ab,sgnF]at Aa;rw[show sgs.getD i []=sgs[i] by rw[Gc,Gd Ab];rfl]at DR;generalize sgs[i]=s at Aa DR RF|-;rw[DR];refine anO ?_;simp only[go_sem];refine J3 Jr vk ?_;by_cases hb:b.length<s.length
   ·have d2:=dtT b.length s.length;by_cases AO:a+s.length<=l.length
    ·have d3:((a:Int)+(s.length:Int)<=(l.length:Int))=True:=KQ;have dQ:((a:Int)+(s.length:Int)).toNat=a+s.length:=om
     have CE:List.drop a (List.take (a+s.length) l)=(l.drop a).take s.length:=cut_take l a s.length;by_cases hp:(l.drop a).take s.length=s
     ·have e1:((l.drop a).take s.length == s)=true:=beq_iff_eq.2 hp;rw[if_pos ⟨hp,hb⟩]at Aa;simp only[go_sem,Jcl,d2,d3,DR,dQ,CE,e1];refine⟨Ji,Ji,om,om,om,Ji,(i+1,s),⟨by simp only;omega,Aa⟩,by simp only;omega,?_⟩;simp[forget]
     ·have e1:((l.drop a).take s.length == s)=false:=beq_eq_false_iff_ne.2 hp;rw[if_neg (λh=>hp h.1)]at Aa;simp only[go_sem,Jcl,d2,d3,DR,dQ,CE,e1];refine⟨Ji,Ji,om,om,Ji,(i+1,b),⟨by simp only;omega,Aa⟩,by simp only;omega,?_⟩;simp[forget]
    ·have d3:((a:Int)+(s.length:Int)<=(l.length:Int))=False:=Kq;have hp:(l.drop a).take s.length≠s:=by intro e;have:=congrArg GR e;rw[Gs,GG]at this;omega
     rw[if_neg (λh=>hp h.1)]at Aa;simp only[go_sem,d2,d3];refine⟨Ji,Ji,(i+1,b),⟨by simp only;omega,Aa⟩,by simp only;omega,?_⟩;simp[forget]
   ·have d2:=dfF b.length s.length;rw[if_neg (λh=>hb h.2)]at Aa;simp only[go_sem,d2];refine⟨Ji,(i+1,b),⟨by simp only;omega,Aa⟩,by simp only;omega,?_⟩;simp[forget]
  ·have d1:=dfF i sgs.length;have:i=sgs.length:=om
   subst this;rw[List.drop_length,sgnF]at Aa;rw[Aa]at EF|-;simp only[go_sem,Jcl,d1];refine⟨Ji,?_⟩;simp only[lxz];rfl
def qAt (c:UInt8):UInt8->Bool:=if isLt c=true then Qp else XG
theorem JhM:∀(n a i:Nat),n=i-a->a<=i->i<Xr q l a->i<l.length->q (l.getD i 0)=true
 |0,a,i,hn,h1,h2,h3=>by
  have:a=i:=om
  subst this
  cases hq:q (l.getD a 0) with
  |true=>rfl
  |false=>rw[Je6 h3 hq]at h2;omega
 |n+1,a,i,hn,h1,h2,h3=>by
  cases hq:q (l.getD a 0) with
  |true=>rw[Jeu om hq]at h2;exact JhM n (a+1) i om om h2 h3
  |false=>rw[Je6 om hq]at h2;omega
theorem Jev:∀(n a:Nat),n=l.length-a->Xr q l a<l.length->q (l.getD (Xr q l a) 0)=false
 |0,a,hn,h=>by
  have:a<=Xr q l a:=by unfold Xr;omega
  omega
 |n+1,a,hn,h=>by
  have:a<=Xr q l a:=by unfold Xr;omega
  cases hq:q (l.getD a 0) with
  |true=>rw[Jeu om hq]at h|-;exact Jev n (a+1) om h
  |false=>rw[Je6 om hq];exact hq
theorem lt_dg {c:UInt8}(h:isLt c=true):XG c=false:=by
 simp only[isLt,Gj,decide_eq_true_eq]at h;have:¬c.toNat<=57:=om
 simp[XG,this]
section
variable{E:Env}{H:Lt}{T:Ls}
theorem hs_st {d:Option Nat}{a v:IArg}{id off:Nat}{els:LM}{cs:Ls}(ha:Ke T a=.ptr id i off)(hv:(Ke T v).cells=some cs)(hH:H[id]? = some (.arr z els))(hn:cs.length=n/\Xq cs=true)(hc:i+1<=els.length/\off+n<=(els.getD i []).length) :
  HS P E ⟨d,.store n a v,none⟩ T H .un (H.set id (.arr z (els.set i (splice (els.getD i []) off cs)))) (.on [id+1],.on [id+1]):=by
 refine⟨λx hx=>?_,λT2 H2 Dk hx=>?_⟩
 ·cases x with
  |zero=>simp[hat]
  |succ x=>
   have Ag:¬id=x:=λe=>hx (by simp[Foot.has,e])
   simp[hat,Ag]
 ·have fV:H2[id]? = some (.arr z els):=by have:=hx (id+1) (by simp[Foot.has]);simpa [hat,hH]using this
  refine⟨H2.set id (.arr z (els.set i (splice (els.getD i []) off cs))),λx hx=>?_,λx hx=>?_,λ_ _ _ _ _ Aq=>Jfm (.inl rfl) (c:=.and (.le (i+1) els.length) (.le (off+n) (els.getD i []).length)) (v:=.un) ?_ hc Aq⟩
  ·simp only[Foot.has,List.mem_cons,List.not_mem_nil,or_false]at hx;subst hx;have h1:=(Gn.1 hH).1;have h2:=(Gn.1 fV).1;simp[hat,h1,h2]
  ·cases x with
   |zero=>simp[hat]
   |succ x=>
    have Ag:¬id=x:=λe=>hx (by simp[Foot.has,e])
    simp[hat,Ag]
  ·rw[<-QM (Jl Dk).2];simp only[exec,ha,hv,fV];rw[if_pos hn]
end
theorem refAtS (l:Lv)(a:Nat)(ha:a<l.length)(hl:l.length<=1000000)(h1:isLt (l.getD a 0)=false)(h2:XG (l.getD a 0)=false):Fn Gb 118 [S l,.int .i64 (a:Int)] (.tup [.agg (lxz (tkL l a).1 (tkL l a).2.1 a),.int .i64 ((a+(tkL l a).2.1.length:Nat):Int),.bool (tkL l a).2.2]):=by
 refine Jc c118_ok rfl rfl λN=>?_
 simp only[c118,go_sem];obtain⟨c0,DD⟩:∃c,c=l.getD a 0:=⟨_,rfl⟩;obtain⟨q,hq⟩:∃q,q=qAt c0:=⟨_,rfl⟩;have Eb:q=XG:=by rw[hq,qAt,DD];first|rw[if_pos h1]|rw[if_neg (by rw[h1];simp)]
 obtain⟨E,hE⟩:∃E,E=Xr q l a:=⟨_,rfl⟩;have ZJ:E<=l.length:=by rw[hE];exact Jak (Gf ha)
 have ZO:a<=E:=by rw[hE];unfold Xr;omega
 have AO:∀i,a<=i->i<E->q (l.getD i 0)=true:=λi h1 h2=>JhM _ a i rfl h1 (by rw[<-hE];exact h2) om
 have A9:E<l.length->q (l.getD E 0)=false:=λh=>by rw[hE]at h|-;exact Jev _ a rfl h
 have dz:E=a:=by rw[hE,Eb];exact Je6 ha h2
 have hT:tkL l a=(4,sgnL (l.drop a),!(sgnL (l.drop a) == [])):=by unfold tkL;rw[if_neg (by rw[h1];simp),if_neg (by rw[h2];simp)]
 rw[hT];have D5:((E:Int) == (a:Int))=true:=by rw[dz];simp
 refine JO (I:=λi:Nat=>a<=i/\i<=E) (inv:=λi=>gp [(0,S l),(0,.int .i64 (a:Int)),(2,.ptr 0 0 0),(2,.int .i64 (i:Int))] 69) (hp:=λ_=>[.arr 3 [[.int .u8 0,S [],.int .i64 0]]]) (μ:=λi=>l.length-i) a ⟨om,om⟩ ?_ rfl ?_
 ·simp[forget,gp]
 ·rintro i ⟨Mv,hi⟩;by_cases Bj:i<E
  ·have Ab:i<l.length:=om
   have d1:=dtT i l.length;have Dc:=AO i Mv Bj;simp only[go_sem,d1];refine anO ?_;refine Kt (gok rfl) (QJ _) ?_
   cases IC:XG (l.getD i 0) with
   |true=>simp only[go_sem];refine⟨Ji,i+1,⟨om,om⟩,om,?_⟩;simp[forget]
   |false=>
    rw[hq,qAt]at Dc;by_cases Cy:isLt c0=true
    ·rw[if_pos Cy]at Dc;simp only[Qp,IC,Gw]at Dc;simp only[go_sem];refine anO ?_;refine Kt (gok rfl) (KG _) ?_;simp only[go_sem,Dc];refine anO ?_;rw[<-DD];refine Kt (gok rfl) (KG _) ?_;simp only[go_sem,Cy];refine⟨Ji,i+1,⟨om,om⟩,om,?_⟩;simp[forget]
    ·rw[if_neg Cy,IC]at Dc;cases Dc
  ·have BS:i=E:=om
   subst BS;rcases (show l.length<=i\/(i<l.length/\XG (l.getD i 0)=false/\isLt (l.getD i 0)=false)\/(i<l.length/\XG (l.getD i 0)=false/\isLt (l.getD i 0)=true/\isLt c0=false) from by
    by_cases h1:i<l.length
    ·have h2:=A9 h1;rw[hq,qAt]at h2;by_cases Cy:isLt c0=true
     ·rw[if_pos Cy]at h2;simp only[Qp,Gt]at h2;exact .inr (.inl ⟨h1,h2.2,h2.1⟩)
     ·rw[if_neg Cy]at h2
      cases h3:isLt (l.getD i 0) with
      |true=>exact .inr (.inr ⟨h1,h2,rfl,by simpa using Cy⟩)
      |false=>exact .inr (.inl ⟨h1,h2,rfl⟩)
    ·exact .inl om) with hw|⟨Rq,EM,IM⟩|⟨Rq,EM,IM,Rp⟩
   case' inl=>have d1:=dfF i l.length;simp only[go_sem,d1,D5]
   case' inr.inl=>have d1:=dtT i l.length;simp only[go_sem,d1];refine anO ?_;refine Kt (gok rfl) (QJ _) ?_;simp only[go_sem,EM];refine anO ?_;refine Kt (gok rfl) (KG _) ?_;simp only[go_sem,IM,D5]
   case' inr.inr=>have d1:=dtT i l.length;simp only[go_sem,d1];refine anO ?_;refine Kt (gok rfl) (QJ _) ?_;simp only[go_sem,EM];refine anO ?_;refine Kt (gok rfl) (KG _) ?_;simp only[go_sem,IM];refine anO ?_;rw[<-DD];refine Kt (gok rfl) (KG _) ?_;simp only[go_sem,Rp,D5]
   all_goals (
    refine anO ?_;refine Kk (refSign l a ha hl) ?_;simp only[go_sem,lxz,splice]
   )
theorem refAtL (l:Lv)(a:Nat)(ha:a<l.length)(hl:l.length<=1000000)(h1:isLt (l.getD a 0)=true):Fn Gb 118 [S l,.int .i64 (a:Int)] (.tup [.agg (lxz (tkL l a).1 (tkL l a).2.1 a),.int .i64 ((a+(tkL l a).2.1.length:Nat):Int),.bool (tkL l a).2.2]):=by
 refine Jc c118_ok rfl rfl λN=>?_
 simp only[c118,go_sem];obtain⟨c0,DD⟩:∃c,c=l.getD a 0:=⟨_,rfl⟩;obtain⟨q,hq⟩:∃q,q=qAt c0:=⟨_,rfl⟩;have Eb:q=Qp:=by rw[hq,qAt,DD];first|rw[if_pos h1]|rw[if_neg (by rw[h1];simp)]
 obtain⟨E,hE⟩:∃E,E=Xr q l a:=⟨_,rfl⟩;have ZJ:E<=l.length:=by rw[hE];exact Jak (Gf ha)
 have ZO:a<=E:=by rw[hE];unfold Xr;omega
 have AO:∀i,a<=i->i<E->q (l.getD i 0)=true:=λi h1 h2=>JhM _ a i rfl h1 (by rw[<-hE];exact h2) om
 have A9:E<l.length->q (l.getD E 0)=false:=λh=>by rw[hE]at h|-;exact Jev _ a rfl h
 have h2:=lt_dg h1;have dz:a<E:=by rw[hE,Eb];exact Jct ha (by simp only[Qp,h1,Gu])
 have hT:tkL l a=if kws.contains (cut l a E)=true then(1,cut l a E,true) else(2,cut l a E,decide ((cut l a E).length<=12)):=by unfold tkL;rw[if_pos h1,hE,Eb]
 have Ar:=JbK ZO ZJ;have CE:(l.take E).drop a=cut l a E:=rfl;rw[hT];have D5:((E:Int) == (a:Int))=false:=by rw[beq_eq_false_iff_ne];omega
 refine JO (I:=λi:Nat=>a<=i/\i<=E) (inv:=λi=>gp [(0,S l),(0,.int .i64 (a:Int)),(2,.ptr 0 0 0),(2,.int .i64 (i:Int))] 69) (hp:=λ_=>[.arr 3 [[.int .u8 0,S [],.int .i64 0]]]) (μ:=λi=>l.length-i) a ⟨om,om⟩ ?_ rfl ?_
 ·simp[forget,gp]
 ·rintro i ⟨Mv,hi⟩;by_cases Bj:i<E
  ·have Ab:i<l.length:=om
   have d1:=dtT i l.length;have Dc:=AO i Mv Bj;simp only[go_sem,d1];refine anO ?_;refine Kt (gok rfl) (QJ _) ?_
   cases IC:XG (l.getD i 0) with
   |true=>simp only[go_sem];refine⟨Ji,i+1,⟨om,om⟩,om,?_⟩;simp[forget]
   |false=>
    rw[hq,qAt]at Dc;by_cases Cy:isLt c0=true
    ·rw[if_pos Cy]at Dc;simp only[Qp,IC,Gw]at Dc;simp only[go_sem];refine anO ?_;refine Kt (gok rfl) (KG _) ?_;simp only[go_sem,Dc];refine anO ?_;rw[<-DD];refine Kt (gok rfl) (KG _) ?_;simp only[go_sem,Cy];refine⟨Ji,i+1,⟨om,om⟩,om,?_⟩;simp[forget]
    ·rw[if_neg Cy,IC]at Dc;cases Dc
  ·have BS:i=E:=om
   subst BS;rcases (show l.length<=i\/(i<l.length/\XG (l.getD i 0)=false/\isLt (l.getD i 0)=false)\/(i<l.length/\XG (l.getD i 0)=false/\isLt (l.getD i 0)=true/\isLt c0=false) from by
    by_cases h1:i<l.length
    ·have h2:=A9 h1;rw[hq,qAt]at h2;by_cases Cy:isLt c0=true
     ·rw[if_pos Cy]at h2;simp only[Qp,Gt]at h2;exact .inr (.inl ⟨h1,h2.2,h2.1⟩)
     ·rw[if_neg Cy]at h2
      cases h3:isLt (l.getD i 0) with
      |true=>exact .inr (.inr ⟨h1,h2,rfl,by simpa using Cy⟩)
      |false=>exact .inr (.inl ⟨h1,h2,rfl⟩)
    ·exact .inl om) with hw|⟨Rq,EM,IM⟩|⟨Rq,EM,IM,Rp⟩
   case' inl=>have d1:=dfF i l.length;simp only[go_sem,d1,D5,CE]
   case' inr.inl=>have d1:=dtT i l.length;simp only[go_sem,d1];refine anO ?_;refine Kt (gok rfl) (QJ _) ?_;simp only[go_sem,EM];refine anO ?_;refine Kt (gok rfl) (KG _) ?_;simp only[go_sem,IM,D5,CE]
   case' inr.inr=>have d1:=dtT i l.length;simp only[go_sem,d1];refine anO ?_;refine Kt (gok rfl) (QJ _) ?_;simp only[go_sem,EM];refine anO ?_;refine Kt (gok rfl) (KG _) ?_;simp only[go_sem,IM];refine anO ?_;rw[<-DD];refine Kt (gok rfl) (KG _) ?_;simp only[go_sem,Rp,D5,CE]
   all_goals (
    refine⟨om,om,?_⟩;refine Kk (QJ _) ?_;simp only[go_sem,h2];generalize hx:cut l a i=x at Ar|-;have jk:=refHas kws x vk;refine JbR [Foot.no,Foot.no,(.on [2],.on []),Foot.no,Foot.no] Jr vM ?_;refine⟨_,_,hs_f (.inl rfl) Jf7,_,_,Jan rfl rfl trivial,_,_,hs_ld (id:=1) (i:=0) (off:=1) rfl rfl ⟨Gg 1,(by decide:2<=3)⟩,_,_,hs_f (.inl rfl) jk,_,_,Jan rfl rfl trivial,?_⟩;simp only[vdf,go_sem,splice]
    cases hk:kws.contains x with
    |true=>simp only[go_sem];rw[show a+x.length=i by omega];rfl
    |false=>have e12:decide ((x.length:Int)<=12)=decide (x.length<=12):=decide_eq_decide.2 om;simp only[go_sem];refine JbR [(.on [2],.on []),Foot.no,Foot.no,(.on [2],.on []),Foot.no,Foot.no,(.on [1],.on [1]),Foot.no,Foot.no] Jr vM ?_;refine⟨_,_,hs_ld (id:=1) (i:=0) (off:=0) rfl rfl ⟨Gg 1,Gg 3⟩,_,_,Jan rfl rfl trivial,_,_,Jan rfl rfl trivial,_,_,hs_ld (id:=1) (i:=0) (off:=1) rfl rfl ⟨Gg 1,(by decide:2<=3)⟩,_,_,Jan rfl rfl trivial,_,_,Jan rfl rfl trivial,_,_,hs_st (id:=0) (i:=0) (off:=0) rfl rfl rfl ⟨rfl,rfl⟩ ⟨Gg 1,Gg 3⟩,_,_,Jan rfl rfl trivial,_,_,Jan rfl rfl trivial,?_⟩;simp only[vdf,go_sem,splice,e12];rw[show a+x.length=i by omega];rfl
   )
theorem refAtD (l:Lv)(a:Nat)(ha:a<l.length)(hl:l.length<=1000000)(h1:isLt (l.getD a 0)=false)(h2:XG (l.getD a 0)=true):Fn Gb 118 [S l,.int .i64 (a:Int)] (.tup [.agg (lxz (tkL l a).1 (tkL l a).2.1 a),.int .i64 ((a+(tkL l a).2.1.length:Nat):Int),.bool (tkL l a).2.2]):=by
 refine Jc c118_ok rfl rfl λN=>?_
 simp only[c118,go_sem];obtain⟨c0,DD⟩:∃c,c=l.getD a 0:=⟨_,rfl⟩;obtain⟨q,hq⟩:∃q,q=qAt c0:=⟨_,rfl⟩;have Eb:q=XG:=by rw[hq,qAt,DD];first|rw[if_pos h1]|rw[if_neg (by rw[h1];simp)]
 obtain⟨E,hE⟩:∃E,E=Xr q l a:=⟨_,rfl⟩;have ZJ:E<=l.length:=by rw[hE];exact Jak (Gf ha)
 have ZO:a<=E:=by rw[hE];unfold Xr;omega
 have AO:∀i,a<=i->i<E->q (l.getD i 0)=true:=λi h1 h2=>JhM _ a i rfl h1 (by rw[<-hE];exact h2) om
 have A9:E<l.length->q (l.getD E 0)=false:=λh=>by rw[hE]at h|-;exact Jev _ a rfl h
 have dz:a<E:=by rw[hE,Eb];exact Jct ha h2
 have hT:tkL l a=(3,cut l a E,Jcy (cut l a E)):=by unfold tkL;rw[if_neg (by rw[h1];simp),if_pos h2,hE,Eb]
 have Ar:=JbK ZO ZJ;have CE:(l.take E).drop a=cut l a E:=rfl;have Ak:=run_all (q:=XG) (Gf ha);rw[show Xr XG l a=E by rw[hE,Eb]]at Ak;rw[hT];have D5:((E:Int) == (a:Int))=false:=by rw[beq_eq_false_iff_ne];omega
 refine JO (I:=λi:Nat=>a<=i/\i<=E) (inv:=λi=>gp [(0,S l),(0,.int .i64 (a:Int)),(2,.ptr 0 0 0),(2,.int .i64 (i:Int))] 69) (hp:=λ_=>[.arr 3 [[.int .u8 0,S [],.int .i64 0]]]) (μ:=λi=>l.length-i) a ⟨om,om⟩ ?_ rfl ?_
 ·simp[forget,gp]
 ·rintro i ⟨Mv,hi⟩;by_cases Bj:i<E
  ·have Ab:i<l.length:=om
   have d1:=dtT i l.length;have Dc:=AO i Mv Bj;simp only[go_sem,d1];refine anO ?_;refine Kt (gok rfl) (QJ _) ?_
   cases IC:XG (l.getD i 0) with
   |true=>simp only[go_sem];refine⟨Ji,i+1,⟨om,om⟩,om,?_⟩;simp[forget]
   |false=>
    rw[hq,qAt]at Dc;by_cases Cy:isLt c0=true
    ·rw[if_pos Cy]at Dc;simp only[Qp,IC,Gw]at Dc;simp only[go_sem];refine anO ?_;refine Kt (gok rfl) (KG _) ?_;simp only[go_sem,Dc];refine anO ?_;rw[<-DD];refine Kt (gok rfl) (KG _) ?_;simp only[go_sem,Cy];refine⟨Ji,i+1,⟨om,om⟩,om,?_⟩;simp[forget]
    ·rw[if_neg Cy,IC]at Dc;cases Dc
  ·have BS:i=E:=om
   subst BS;rcases (show l.length<=i\/(i<l.length/\XG (l.getD i 0)=false/\isLt (l.getD i 0)=false)\/(i<l.length/\XG (l.getD i 0)=false/\isLt (l.getD i 0)=true/\isLt c0=false) from by
    by_cases h1:i<l.length
    ·have h2:=A9 h1;rw[hq,qAt]at h2;by_cases Cy:isLt c0=true
     ·rw[if_pos Cy]at h2;simp only[Qp,Gt]at h2;exact .inr (.inl ⟨h1,h2.2,h2.1⟩)
     ·rw[if_neg Cy]at h2
      cases h3:isLt (l.getD i 0) with
      |true=>exact .inr (.inr ⟨h1,h2,rfl,by simpa using Cy⟩)
      |false=>exact .inr (.inl ⟨h1,h2,rfl⟩)
    ·exact .inl om) with hw|⟨Rq,EM,IM⟩|⟨Rq,EM,IM,Rp⟩
   case' inl=>have d1:=dfF i l.length;simp only[go_sem,d1,D5,CE]
   case' inr.inl=>have d1:=dtT i l.length;simp only[go_sem,d1];refine anO ?_;refine Kt (gok rfl) (QJ _) ?_;simp only[go_sem,EM];refine anO ?_;refine Kt (gok rfl) (KG _) ?_;simp only[go_sem,IM,D5,CE]
   case' inr.inr=>have d1:=dtT i l.length;simp only[go_sem,d1];refine anO ?_;refine Kt (gok rfl) (QJ _) ?_;simp only[go_sem,EM];refine anO ?_;refine Kt (gok rfl) (KG _) ?_;simp only[go_sem,IM];refine anO ?_;rw[<-DD];refine Kt (gok rfl) (KG _) ?_;simp only[go_sem,Rp,D5,CE]
   all_goals (
    refine⟨om,om,?_⟩;refine Kk (QJ _) ?_;simp only[go_sem,h2];generalize hx:cut l a i=x at Ar Ak|-;have Pd:=refNumber x Ak om;have je:=numV_ok x;refine JbR [(.on [2],.on []),Foot.no,Foot.no,(.on [2],.on []),Foot.no,Foot.no,(.on [1],.on [1]),Foot.no,Foot.no] Jr vM ?_;refine⟨_,_,hs_ld (id:=1) (i:=0) (off:=0) rfl rfl ⟨Gg 1,Gg 3⟩,_,_,Jan rfl rfl trivial,_,_,Jan rfl rfl trivial,_,_,hs_ld (id:=1) (i:=0) (off:=1) rfl rfl ⟨Gg 1,(by decide:2<=3)⟩,_,_,hs_f (.inl rfl) Pd,_,_,Jan rfl rfl trivial,_,_,hs_st (id:=0) (i:=0) (off:=0) rfl rfl rfl ⟨rfl,rfl⟩ ⟨Gg 1,Gg 3⟩,_,_,Jan rfl rfl trivial,_,_,Jan rfl rfl trivial,?_⟩;simp only[vdf,go_sem,splice,je];rw[show a+x.length=i by omega];rfl
   )
theorem refAt (l:Lv)(a:Nat)(ha:a<l.length)(hl:l.length<=1000000):Fn Gb 118 [S l,.int .i64 (a:Int)] (.tup [.agg (lxz (tkL l a).1 (tkL l a).2.1 a),.int .i64 ((a+(tkL l a).2.1.length:Nat):Int),.bool (tkL l a).2.2]):=by
 cases h1:isLt (l.getD a 0) with
 |true=>exact refAtL l a ha hl h1
 |false=>cases h2:XG (l.getD a 0) with
  |true=>exact refAtD l a ha hl h1 h2
  |false=>exact refAtS l a ha hl h1 h2
def lxr (l:List (Nat×Lv×Nat)):LM:=l.map λt=>lxz t.1 t.2.1 t.2.2
theorem Xg {l:List (Nat×Lv×Nat)}:(lxr l).length=l.length:=by simp[lxr]
theorem JdI:∀(l:List (Nat×Lv×Nat)),Jq (lxr l)=true
 |[]=>rfl
 |x::l=>by simp[lxr,lxz,Jq,Jp,CV.closed];exact JdI l
theorem lxr_app {l:List (Nat×Lv×Nat)}{t:Nat×Lv×Nat}:lxr (l++[t])=lxr l++[lxz t.1 t.2.1 t.2.2]:=by simp[lxr]
theorem tk_len(ha:a<l.length)(h:(tkL l a).2.2=true):0<(tkL l a).2.1.length:=by
 unfold tkL at h|-;by_cases h1:isLt (l.getD a 0)=true
 ·have h2:=Jct (q:=Qp) ha (by simp only[Qp,h1,Gu]);have h3:=JbK (Gf h2) (Jak (q:=Qp) (Gf ha));rw[if_pos h1]at h|-
  split <;> (simp only;omega)
 ·rw[if_neg h1]at h|-;by_cases h2:XG (l.getD a 0)=true
  ·have h4:=Jct (q:=XG) ha h2;have h3:=JbK (Gf h4) (Jak (q:=XG) (Gf ha));rw[if_pos h2]at h|-;simp only;omega
  ·rw[if_neg h2]at h|-;simp only[GU,beq_eq_false_iff_ne]at h|-;exact GA.2 h
theorem sgn_in {r:Lv}:∀(L:LQ) (b:Lv),b.length<=r.length->(sgnF r L b).length<=r.length
 |[],b,h=>h
 |s::L,b,h=>by
  simp only[sgnF];refine sgn_in L _ ?_
  split
  ·rename_i hc;have:=congrArg GR hc.1;rw[Gs]at this;omega
  ·exact h
theorem tk_end(ha:a<l.length):a+(tkL l a).2.1.length<=l.length:=by
 unfold tkL;by_cases h1:isLt (l.getD a 0)=true
 ·have h2:=Jct (q:=Qp) ha (by simp only[Qp,h1,Gu]);have h4:=Jak (q:=Qp) (Gf ha);have h3:=JbK (Gf h2) h4;rw[if_pos h1]
  split <;> (simp only;omega)
 ·rw[if_neg h1];by_cases h2:XG (l.getD a 0)=true
  ·have h5:=Jct (q:=XG) ha h2;have h4:=Jak (q:=XG) (Gf ha);have h3:=JbK (Gf h5) h4;rw[if_pos h2];simp only;omega
  ·rw[if_neg h2];have:=sgn_in (r:=l.drop a) sgs [] sM;rw[GG]at this;show a+(sgnF (l.drop a) sgs []).length<=l.length;omega
theorem YN {l l':Ls}(h:wks l l'):wk (.tup l) (.tup l'):=by rintro own imm v ⟨vs,rfl,hr⟩;exact⟨vs,rfl,JaL h hr⟩
theorem Ja4 {l l':Ls}(h:wks l l'):wk (.agg l) (.agg l'):=by rintro own imm v ⟨vs,rfl,hr⟩;exact⟨vs,rfl,JaL h hr⟩
theorem YW {f:Nat}{args:Ls}{v0:CV}(h:CallsC P Env.none f args [] λv H'=>wk v v0\/∃id z els,H'[id]? = some (.arr z els)/\Jq els=true/\wk (frz id z els v) v0)(ha:Jp args=true)(hv:v0.closed=true):Fn P f args v0:=by
 refine Jin ?_ ha hv;intro m w vs hs BK;refine(h m w vs hs BK).mono ?_;rintro e w' ⟨r,m',v,H',h1,h2,h3,h4,g⟩;rcases g with g|⟨id,z,els,g1,hc,g⟩
 ·exact⟨r,m',v0,H',h1,h2,h3,g _ _ _ h4,rfl⟩
 ·obtain⟨imm',AC,he,hf⟩:=Sim.freeze (n0:=([]:Lt).length) h3 g1 hc;exact⟨r,_,_,_,h1,h2.trans he,AC,g _ _ _ (hf _ _ h4),rfl⟩
theorem Jew{els:LM}{id:Nat}{cap:Option Nat}{x y:CV}(hx:x.closed=true)(hy:y.closed=true)(hn:n=els.length):wk (frz id z els (.tup [.slc id 0 n cap,x,y])) (.tup [.rslc z els none,x,y]):=by subst hn;simp only[frz,JV,if_true,Gx,Gg,GK,Gq,QU x hx,QU y hy];exact YN ⟨wk.rslc,wk.refl _,wk.refl _,trivial⟩
theorem refRead (l:Lv)(hl:l.length<=1000000):Fn Gb 75 [S l] (.tup [.rslc 3 (lxr (Jbt l).1) none,.int .i64 ((Jbt l).2.1:Nat),.int .i64 (Jbt l).2.2]):=by
 refine YW ?_ rfl rfl;refine J8 c75_ok λN=>?_
 simp only[c75,go_sem];refine Kk (refLexCheck l hl) ?_;simp only[go_sem]
 cases he:((Yw l).2 != 0) with
 |true=>
  have ES:(Yw l).2≠0:=by simpa using he
  have hr:Jbt l=([],(Yw l).1,(Yw l).2):=by unfold Jbt;rw[if_pos ES]
  rw[hr];simp only[go_sem];exact .inr ⟨0,3,[],rfl,rfl,Jew rfl rfl rfl⟩
 |false=>
  have ES:(Yw l).2=0:=by simpa using he
  have hr:Jbt l=rdF l (l.length+1) 0 []:=by unfold Jbt;rw[if_neg (by simp[ES])]
  rw[hr];obtain⟨R,hR⟩:∃R,R=rdF l (l.length+1) 0 []:=⟨_,rfl⟩;rw[<-hR];simp only[go_sem];refine Kk (refGap l 0 (Nat.zero_le _) hl) ?_;simp only[go_sem];refine Js (σ:=Nat×Nat×List (Nat×Lv×Nat)) (I:=λs=>s.2.1<=l.length/\l.length+1<=s.1+s.2.1/\s.2.2.length<=900/\R=rdF l s.1 s.2.1 s.2.2)
   (inv:=λs=>gp [(0,S l),(6,.slc 0 0 (lxr s.2.2).length (JaJ (lxr s.2.2))),(0,.int .i64 (Jap l s.2.1:Nat))] 45) (hp:=λs=>[.arr 3 (lxr s.2.2)]) (μ:=λs=>s.1) (l.length+1,0,[]) [0] ⟨sM,sM,sM,hR⟩ rfl ?_ rfl ?_
  ·simp[forget,JB,ren,Jm,gp,lxr,JaJ]
  ·rintro⟨n,b,acc⟩ ⟨h1,h2,h3,Aa⟩
   dsimp only at h1 h2 h3 Aa|-
   have Cn:=gapE_ge l b;by_cases Ab:Jap l b<l.length
   ·have d1:(((Jap l b:Nat):Int)<(l.length:Int))=True:=KQ;obtain⟨n,rfl⟩:∃n',n=n' + 1:=⟨n-1,om⟩;rw[rdF,if_pos Ab]at Aa;have hT:=refAt l (Jap l b) Ab hl;have CK:=tk_len Ab;have UJ:=tk_end Ab;generalize Jap l b=at_ at *
    simp only[go_sem,d1];refine Kk hT ?_;clear hT;generalize tkL l at_=T at Aa CK UJ|-
    obtain⟨k,x,ok⟩:=T
    dsimp only at Aa CK UJ|-
    cases ok with
    |false=>rw[if_neg sM]at Aa;rw[Aa];simp only[go_sem,lxz,splice];exact .inr ⟨2,3,[],rfl,rfl,Jew rfl rfl rfl⟩
    |true=>
     rw[if_pos rfl]at Aa;by_cases h9:acc.length=900
     ·have d2:(((lxr acc).length:Int) == 900)=true:=by rw[beq_iff_eq,Xg];omega
      rw[if_pos h9]at Aa;rw[Aa];simp only[go_sem,lxz,splice,d2];exact .inr ⟨2,3,[],rfl,rfl,Jew rfl rfl rfl⟩
     ·have d2:(((lxr acc).length:Int) == 900)=false:=by rw[beq_eq_false_iff_ne,Xg];omega
      rw[if_neg h9]at Aa;simp only[go_sem,lxz,splice,d2,Jw];refine⟨⟨by rw[Xg];omega,by rw[Xg];omega⟩,?_⟩;have hG:=refGap l (at_+x.length) UJ hl;refine Kk hG ?_;simp only[go_sem];have Du:=CK rfl;have jO:JaJ (lxr (acc++[(k,x,at_)]))=none:=by rw[lxr_app,YH]
      have Ao:(lxr acc).length+1=(lxr (acc++[(k,x,at_)])).length:=by simp[Xg]
      refine⟨(n,at_+x.length,acc++[(k,x,at_)]),[3],⟨UJ,by simp only;omega,by simp;omega,Aa⟩,by simp only;omega,rfl,?_,?_⟩
      ·simp only[Ko,Gm,Gv,go_sem,Jj];have hc:=Ja (ρ:=[3]) (JdI (acc++[(k,x,at_)]));rw[lxr_app]at hc|-;simp only[lxz]at hc|-;rw[hc]
      ·simp only[jO,Ao];simp[forget,JB,ren,Jm]
   ·have d1:(((Jap l b:Nat):Int)<(l.length:Int))=False:=Kq;have PL:R=(acc,0,0):=by
     rw[Aa]
     cases n with
     |zero=>rfl
     |succ n=>rw[rdF,if_neg Ab]
    rw[PL];simp only[go_sem,d1];exact .inr ⟨0,3,lxr acc,rfl,JdI _,Jew rfl rfl rfl⟩
theorem refKind (l:Lv)(hl:l.length<=1000000):Fn Gb 150 [S l] (.int .u8 (kindR l)):=by
 refine Jc c150_ok rfl rfl λN=>?_
 simp only[c150,go_sem];refine Kk (refRead l hl) ?_;simp only[go_sem];unfold kindR;obtain⟨ts,p,e⟩:=Jbt l;simp only
 cases he:(e != 0) with
 |true=>
  have ES:e≠0:=by simpa using he
  simp only[go_sem]
  split
  ·rename_i h;cases h;rw[if_neg (λh=>ES h.1)];rfl
  ·rfl
 |false=>
  have ES:e=0:=by simpa using he
  subst ES
  match ts with
  |[]=>simp only[go_sem,Xg,GI]
  |t::u::r=>
   have hn:(((r.length+1+1:Nat):Int) != 1)=true:=by rw[bne_iff_ne];omega
   simp only[go_sem,Xg,hn]
  |[t]=>
   obtain⟨k,x,a⟩:=t;by_cases hx:x=l
   ·have e1:(x == l)=true:=by simp[hx]
    simp only[go_sem,lxr,lxz,Gm,Gv,e1,show (((1:Nat):Int) != 1)=false from rfl];simp[hx]
   ·have e1:(x == l)=false:=by simp[hx]
    simp only[go_sem,lxr,lxz,Gm,Gv,e1,show (((1:Nat):Int) != 1)=false from rfl];simp[hx]
theorem Jcd (n a b:Int):Fn Gb 93 [.int .i64 n,.int .i64 a,.int .i64 b] (.bool (inI a b n)):=by
 refine Jc c93_ok rfl rfl λN=>?_
 simp +contextual only[c93,go_sem,inI]
def inN (a b k:Nat):Bool:=decide (a<=k) && decide (k<=b)
theorem natle (a k:Nat):decide ((a:Int)<=(k:Int))=decide (a<=k):=decide_eq_decide.2 om
theorem Jej (a k:Nat):((k:Int) == (a:Int))=(k == a):=by rw[Gh];simp;omega
theorem refIsExpr (k:Nat):Fn Gb 62 [.int .u8 k] (.bool (inN 1 29 k)):=by
 refine Jc c62_ok rfl rfl λN=>?_
 have h1:=natle 1 k;have h2:=natle k 29;simp only[Ga]at h1 h2;simp +contextual only[c62,go_sem,inN];refine⟨λh=>?_,λh=>?_⟩
 ·congr 1;rw[Gh];simp;omega
 ·congr 1;rw[Gh];simp;omega
theorem refIsType (k:Nat):Fn Gb 208 [.int .u8 k] (.bool (inN 60 63 k)):=by
 refine Jc c208_ok rfl rfl λN=>?_
 simp +contextual only[c208,go_sem,inN];refine⟨λh=>?_,λh=>?_⟩
 ·congr 1;rw[Gh];simp;omega
 ·congr 1;rw[Gh];simp;omega
theorem refIsPart (k:Nat):Fn Gb 209 [.int .u8 k] (.bool (k == 46 || k == 47)):=by
 refine Jc c209_ok rfl rfl λN=>?_
 simp +contextual only[c209,go_sem];refine⟨λh=>?_,λh=>?_⟩
 ·congr 1;rw[Gh];simp at h|-;omega
 ·congr 1;rw[Gh];simp at h|-;omega
def isR (k c:Nat):Bool:=if c=200 then inN 1 29 k else if c=201 then inN 60 63 k else if c=202 then(k == 46 || k == 47) else k == c
theorem refIs (t:Tr)(n:Int)(c:Nat)(h0:0<=n)(h1:n<t.nodes.length):Fn Gb 185 [t.cv,.int .i64 n,.int .u8 c] (.bool (isR (Jo t.nodes n) c)):=by
 have Ab:n.toNat<t.nodes.length:=om
 have hk:Jo t.nodes n=(t.nodes.getD n.toNat default).k:=rfl;refine Jc c185_ok rfl rfl λN=>?_
 simp +contextual only[c185,go_sem,Tr.cv,Tr.row,Jb];rw[QE Ab];refine anO ?_;simp +contextual only[go_sem,Nd.cv];rw[<-hk];generalize Jo t.nodes n=k;have q0:=Jej 200 c;have q1:=Jej 201 c;have q2:=Jej 202 c;simp only[Ga]at q0 q1 q2;unfold isR;by_cases e0:c=200
 ·subst e0;simp +contextual only[go_sem,Ga];refine Kk (refIsExpr k) ?_;simp +contextual only[go_sem]
 ·have q0':((c:Int) == 200)=false:=by rw[q0];simpa using e0
  rw[if_neg e0];by_cases e1:c=201
  ·subst e1;simp +contextual only[go_sem,Ga];refine Kk (refIsType k) ?_;simp +contextual only[go_sem]
  ·have q1':((c:Int) == 201)=false:=by rw[q1];simpa using e1
   rw[if_neg e1];by_cases e2:c=202
   ·subst e2;simp +contextual only[go_sem,Ga];refine Kk (refIsPart k) ?_;simp +contextual only[go_sem]
   ·have q2':((c:Int) == 202)=false:=by rw[q2];simpa using e2
    rw[if_neg e2];have q3:=Jej c k;simp +contextual only[go_sem,q0',q1',q2',q3]
def kinds (l:LC)(x:Nd):Lx:=x.kids.map (Jo l)
theorem kinds_get {l:LC}{j:Nat}(h:j<x.kids.length):(kinds l x)[j]? = some (Jo l (x.kids.getD j 0)):=by simp[kinds,Gc,Gd h]
def kidsR (ks:Lx)(a b:Int)(c:Nat):Bool:=decide (0<=a) && decide (a<=b) && decide (b<=ks.length) && ((ks.take b.toNat).drop a.toNat).all λk=>isR k c
theorem refKids (t:Tr)(x:Nd)(hx:x.Fit)(hm:t.nodes.length<=1400)(hk:∀k∈x.kids,0<=k/\k<t.nodes.length)(a b:Int)(c:Nat) :
  Fn Gb 149 [t.cv,.agg x.cv,.int .i64 a,.int .i64 b,.int .u8 c] (.bool (kidsR (kinds t.nodes x) a b c)):=by
 have Aw:(kinds t.nodes x).length=x.kids.length:=by simp[kinds]
 have BL:=hx.kidn;refine Jc c149_ok rfl rfl λN=>?_
 by_cases hA:a<0\/b<a\/(x.kids.length:Int)<b
 ·have hr:kidsR (kinds t.nodes x) a b c=false:=by unfold kidsR;rw[Aw];rw[Bool.eq_false_iff];intro h;simp only[Gj,decide_eq_true_eq]at h;omega
  rw[hr];by_cases h1:a<0
  ·have d1:(a<0)=True:=eq_true h1;simp +contextual only[c149,go_sem,Tr.cv,Tr.row,Nd.cv,d1]
  ·have d1:(a<0)=False:=eq_false h1;by_cases h2:b<a
   ·have d2:(b<a)=True:=eq_true h2;simp +contextual only[c149,go_sem,Tr.cv,Tr.row,Nd.cv,d1,d2]
   ·have d2:(b<a)=False:=eq_false h2;have d3:((x.kids.length:Int)<b)=True:=KQ;simp +contextual only[c149,go_sem,Tr.cv,Tr.row,Nd.cv,d1,d2,Jf,d3]
 ·have d1:(a<0)=False:=Kq;have d2:(b<a)=False:=Kq;have d3:((x.kids.length:Int)<b)=False:=Kq;have hr:kidsR (kinds t.nodes x) a b c=((kinds t.nodes x).take b.toNat |>.drop a.toNat).all λk=>isR k c:=by unfold kidsR;rw[Aw,decide_eq_true (show 0<=a by omega),decide_eq_true (show a<=b by omega),decide_eq_true (show b<=(x.kids.length:Int) by omega)];rfl
  rw[hr];simp +contextual only[c149,go_sem,Tr.cv,Tr.row,Nd.cv,Jf,d1,d2,d3];refine Je (id:=0) (z:=2) (els:=[t.row]) rfl rfl ?_;simp only[go_sem,JV,Kv,frz,Qj];refine Je (id:=1) (z:=5) (els:=[x.cv]) rfl rfl ?_;simp only[go_sem,JV,Kv,frz,Qj];generalize hL:(kinds t.nodes x).take b.toNat=L;have PN:L.length=b.toNat:=by rw[<-hL];simp[Aw];omega
  refine JO (I:=λi:Nat=>a.toNat<=i/\i<=b.toNat/\(L.drop a.toNat).all (λk=>isR k c)=(L.drop i).all λk=>isR k c) (inv:=λi=>gp [(3,.int .i64 b),(0,.int .u8 c),(0,.rptr t.row),(0,.rptr x.cv),(4,.int .i64 i)] 29) (hp:=λ_=>[.dead,.dead]) (μ:=λi=>b.toNat-i) a.toNat ⟨om,om,rfl⟩ ?_ rfl ?_
  ·have:((a.toNat:Nat):Int)=a:=om
   simp[forget,gp,this]
  ·rintro i ⟨h1,h2,Aa⟩;by_cases Ab:i<b.toNat
   ·have d4:((i:Int)<b)=True:=KQ;have UW:i<x.kids.length:=om
    have Ap:x.kids.getD i 0∈x.kids:=by rw[Gc,Gd UW];exact Gl UW
    have hb:=hk _ Ap;have Uv:L[i]? = some (Jo t.nodes (x.kids.getD i 0)):=by rw[<-hL,GD,if_pos Ab,kinds_get UW]
    have Uu:=(Gn.1 Uv).1;rw[Gi Uu,(Gn.1 Uv).2,GN]at Aa;simp +contextual only[go_sem,d4];refine J3 Jr vk ?_;simp only[go_sem,Tr.row,Nd.cv,Jf];rw[JL UW];refine anO ?_;simp only[go_sem];refine Kl (.inl rfl) (refIs t _ c hb.1 hb.2) ?_;simp only[go_sem]
    cases hq:isR (Jo t.nodes (x.kids.getD i 0)) c with
    |false=>rw[hq]at Aa;simp +contextual only[go_sem];rw[Aa];rfl
    |true=>rw[hq]at Aa;simp +contextual only[go_sem];refine⟨Ji,i+1,⟨om,om,by simpa using Aa⟩,om,?_⟩;simp[forget]
   ·have d4:((i:Int)<b)=False:=Kq;simp +contextual only[go_sem,d4];rw[Aa,Gp om];rfl
theorem refLimits (t:Tr):Fn Gb 77 [t.cv] (.bool (decide (¬(700<t.nodes.length\/20<t.items.length)))):=by
 refine Jc c77_ok rfl rfl λN=>?_
 simp +contextual only[c77,go_sem,Tr.cv,Tr.row,Jf,Jb];refine⟨λh=>?_,λh=>?_⟩
 ·congr 1
  exact decide_eq_decide.2 om
 ·congr 1
  symm
  rw[decide_eq_false_iff_not];omega
theorem refMany (t:Tr)(x:Nd)(hx:x.Fit)(hk:∀k∈x.kids,0<=k/\k<t.nodes.length)(c:Nat) :
  Fn Gb 126 [t.cv,.agg x.cv,.int .u8 c] (.int .i64 ((kinds t.nodes x).count c:Nat)):=by
 have Aw:(kinds t.nodes x).length=x.kids.length:=by simp[kinds]
 have BL:=hx.kidn;refine Jc c126_ok rfl rfl λN=>?_
 simp +contextual only[c126,go_sem,Tr.cv,Tr.row,Nd.cv];refine Je (id:=0) (z:=2) (els:=[t.row]) rfl rfl ?_;simp only[go_sem,JV,Kv,frz,Qj];refine Je (id:=1) (z:=5) (els:=[x.cv]) rfl rfl ?_;simp only[go_sem,JV,Kv,frz,Qj];generalize hL:kinds t.nodes x=L at Aw;refine JO (I:=λi:Nat=>i<=L.length) (inv:=λi=>gp [(2,.int .u8 c),(0,.rptr t.row),(0,.rptr x.cv),(2,.int .i64 ((L.take i).count c:Nat)),(0,.int .i64 i)] 22) (hp:=λ_=>[.dead,.dead]) (μ:=λi=>L.length-i) 0 om ?_ rfl ?_
 ·simp[forget,gp]
 ·intro i hi;have hc:=List.count_le_length (a:=c) (l:=L.take i);rw[Gs]at hc;by_cases Ab:i<x.kids.length
  ·have d4:=dtT i x.kids.length;have Ap:x.kids.getD i 0∈x.kids:=by rw[Gc,Gd Ab];exact Gl Ab
   have hb:=hk _ Ap;have Uv:L[i]? = some (Jo t.nodes (x.kids.getD i 0)):=by rw[<-hL,kinds_get Ab]
   have Uu:=(Gn.1 Uv).1;have Er:(L.take (i+1)).count c=(L.take i).count c+if Jo t.nodes (x.kids.getD i 0) == c then 1 else 0:=by rw[List.take_add_one,Uv,List.count_append];simp[List.count_singleton]
   simp +contextual only[go_sem,Nd.cv,Jf,d4];refine J3 Jr vk ?_;simp only[go_sem,Tr.row,Jf];rw[JL Ab];refine anO ?_;simp only[go_sem,Jb];rw[QE om];refine anO ?_;simp only[go_sem,Nd.cv];rw[show ((t.nodes.getD (x.kids.getD i 0).toNat default).k:Int)=(Jo t.nodes (x.kids.getD i 0):Int) from rfl,Jej]
   cases hq:(Jo t.nodes (x.kids.getD i 0) == c) with
   |false=>rw[hq]at Er;simp +contextual only[go_sem];refine⟨Ji,i+1,om,om,?_⟩;rw[Er];simp[forget]
   |true=>rw[hq]at Er;simp +contextual only[go_sem];refine⟨Ji,Ji,i+1,om,om,?_⟩;rw[Er];simp[forget]
  ·have d4:=dfF i x.kids.length;have:i=L.length:=om
   subst this;simp +contextual only[go_sem,Nd.cv,Jf,d4,Gq]
theorem JhX (t:Tr){o:Lu}(ho:JA ((Ju t.nodes).take m) []=some o)(hm:m<=t.nodes.length)(n:Nat)(hn:n<m) :
  Fn Gb 38 [t.cv,.int .i64 (n:Int)] (.int .i64 (fs o n)):=by
 refine Jc c38_ok rfl rfl λN=>?_
 simp +contextual only[c38,go_sem,Tr.cv,Tr.row];refine Je (id:=0) (z:=2) (els:=[t.row]) rfl rfl ?_;simp only[go_sem,JV,Kv,frz,Qj];refine JO (I:=λi:Nat=>i<m/\fs o n=fs o i) (inv:=λi=>gp [(1,.int .i64 (i:Int)),(0,.rptr t.row)] 19) (hp:=λ_=>[.dead]) (μ:=λi=>i) n ⟨hn,rfl⟩ ?_ rfl ?_
 ·simp[forget,gp]
 ·rintro i ⟨hi,Aa⟩;have Ab:i<t.nodes.length:=om
  have hK:((Ju t.nodes).take m)[i]? = some (t.nodes.getD i default).kids:=by rw[GD,if_pos hi,JK Ab]
  have hg:=QE Ab;generalize t.nodes.getD i default=x at hK hg;simp +contextual only[go_sem,Tr.row,Jb,hg,Nd.cv,Jf];refine anO ?_
  cases hk:x.kids with
  |nil=>rw[hk]at hK;have:=firstsF_leaf ho hK;simp +contextual only[go_sem];rw[Aa];unfold fs;rw[Gy,this]
  |cons k ks=>
   rw[hk]at hK;obtain⟨h1,h2⟩:=firstsF_kid ho hK;have h3:=Xo ho hK k sM;have d4:((0:Int)<((ks.length+1:Nat):Int))=True:=KQ;simp +contextual only[go_sem,d4,iz,Gm];have BL:((k.toNat:Nat):Int)=k:=om
   refine⟨om,k.toNat,⟨om,?_⟩,om,?_⟩
   ·rw[Aa];unfold fs;rw[Gy,Gy,h1]
   ·rw[BL];simp[forget]
theorem JgI (t:Tr){o:Lu}(ho:JA ((Ju t.nodes).take m) []=some o)(hm:m<=t.nodes.length)(BZ:t.nodes.length<=1400)(l:Lu)(hl:l.length<=1000)(e:Nat)(he:e<=m) :
  Fn Gb 94 [t.cv,.rslc 1 (iz l) none,.int .i64 (e:Int)] (.tup [.int .i64 (Jgj (fs o) l.reverse e).1,.bool (Jgj (fs o) l.reverse e).2]):=by
 have Aq:=QL _ _ _ Q8.nil ho;have Bf:=QR _ _ _ ho;simp only[GI,Gx,Gs,Ju,List.length_map]at Bf;refine Jc c94_ok rfl rfl λN=>?_
 simp +contextual only[c94,go_sem,Tr.cv,Tr.row,Jf];refine⟨Ji,?_⟩;refine Je (id:=0) (z:=2) (els:=[t.row]) rfl rfl ?_;simp only[go_sem,JV,Kv,frz,Qj];refine JO (σ:=Nat×Nat) (I:=λs=>s.1<=l.length/\s.2<=m/\Jgj (fs o) l.reverse e=Jgj (fs o) (l.take s.1).reverse s.2) (inv:=λs=>gp [(1,.rslc 1 (iz l) none),(0,.int .i64 (s.2:Int)),(0,.rptr t.row),(4,.int .i64 ((s.1:Int)-1))] 29) (hp:=λ_=>[.dead]) (μ:=λs=>s.1) (l.length,e) ⟨sM,he,sM⟩ ?_ rfl ?_
 ·simp[forget,gp]
 ·rintro⟨j,q⟩ ⟨hj,hq,Aa⟩
  dsimp only at hj hq Aa
  cases j with
  |zero=>simp only[List.take_zero,List.reverse_nil,Jgj]at Aa;have d1:((0:Int)<=((0:Nat):Int)-1)=False:=Kq;simp +contextual only[go_sem,Aa]
  |succ j=>
   have Ba:j<l.length:=om
   have FJ:(l.take (j+1)).reverse=l.getD j 0::(l.take j).reverse:=by rw[Gz Ba,List.reverse_append,Gc,Gd Ba];rfl
   rw[FJ,Jgj]at Aa;have PX:(((j+1:Nat):Int)-1).toNat=j:=om
   have d1:((0:Int)<=((j+1:Nat):Int)-1)=True:=KQ;have AA:=JL Ba;generalize l.getD j 0=k at Aa AA;by_cases hc:k≠(q:Int)-1\/k<0
   ·rw[if_pos hc]at Aa;by_cases CR:k=(q:Int)-1
    ·have e1:(k != (q:Int)-1)=false:=by simp[CR]
     have e2:(k<0)=True:=KQ;simp +contextual only[go_sem,d1,Jf,PX,AA,e1,e2,Aa];exact⟨om,Ji,om⟩
    ·have e1:(k != (q:Int)-1)=true:=by simp[CR]
     simp +contextual only[go_sem,d1,Jf,PX,AA,e1,Aa];exact⟨om,Ji⟩
   ·rw[if_neg hc]at Aa;have CR:k=(q:Int)-1:=om
    have e1:(k != (q:Int)-1)=false:=by simp[CR]
    have e2:(k<0)=False:=Kq;have Aw:k.toNat<m:=om
    have Ca:((k.toNat:Nat):Int)=k:=om
    have hf:=Jik Aq (i:=k) om (by rw[Bf];omega);have Br:((fs o k).toNat:Int)=fs o k:=om
    simp +contextual only[go_sem,d1,Jf,PX,AA,e1,e2];refine⟨om,Ji,om,?_⟩;refine J3 Jr vk ?_;simp only[go_sem,Tr.row,Jf,PX,AA];refine anO ?_;have hF:=JhX t ho hm k.toNat Aw;rw[Ca]at hF;refine Kl (.inl rfl) hF ?_;simp +contextual only[go_sem];refine⟨Ji,(j,(fs o k).toNat),⟨by simp only;omega,by simp only;omega,?_⟩,by simp only;omega,?_⟩
    ·rw[Aa];simp only[Br]
    ·simp only[Br];simp[forget]
theorem let_all:∀k:Fin 256,(Jdo k.val=83↔k.val=41)/\(Jdo k.val=78↔k.val=44):=vM
theorem JfU {l:LC}(hn:∀y∈l,y.k<256)(hk:∀k∈x.kids,0<=k/\k<l.length){c:Nat}(h:∀k:Nat,k<256->(Jdo k=b↔k=c)):(kinds l x).count c=QD b (lets l x):=by
 unfold kinds lets QD;have:∀ks:Lu,(∀k∈ks,0<=k/\k<l.length)->(ks.map (Jo l)).count c=(ks.map λk=>Jdo (Jo l k)).count b:=by
  intro ks
  induction ks with
  |nil=>intro _;rfl
  |cons k ks ih=>
   intro Bo;have hr:=Bo k sM;have Ab:k.toNat<l.length:=om
   have Bv:Jo l k<256:=by unfold Jo;rw[Gc,Gd Ab];exact hn _ (Gl Ab)
   have he:=h _ Bv;rw[Gm,Gm,GJ,GJ,ih (λq hq=>Bo q (by simp[hq]))]
   congr 1
   by_cases e:Jo l k=c
   ·rw[if_pos (by simp[e]),if_pos (by simp[he.2 e])]
   ·rw[if_neg (by simp[e]),if_neg (by simp;exact λh2=>e (he.1 h2))]
 exact this x.kids hk
theorem refSized (t:Tr)(i:Nat)(hi:i<t.nodes.length)(hm:t.nodes.length<=1400)(hx:(t.nodes.getD i default).Fit)(hn:∀y∈t.nodes,y.k<256)(hk:∀k∈(t.nodes.getD i default).kids,0<=k/\k<t.nodes.length) :
  Fn Gb 79 [t.cv,.int .i64 (i:Int)] (.bool (Qu (t.nodes.getD i default).k (t.nodes.getD i default).n (lets t.nodes (t.nodes.getD i default)))):=by
 have hg:=QE hi;generalize IL:t.nodes.getD i default=x at hx hk hg|-;have BL:=hx.kidn;have CQ:=KP (l:=t.nodes) (x:=x);have CR:=JfU hn hk (c:=41) (b:=83) (λk h=>(let_all ⟨k,h⟩).1);have BU:=JfU hn hk (c:=44) (b:=78) (λk h=>(let_all ⟨k,h⟩).2);have Ut:=refMany t x hx hk 41;have Us:=refMany t x hx hk 44;rw[CR]at Ut;rw[BU]at Us;simp only[Ga]at Ut Us;have aP:=hx.n;obtain⟨k,text,n,kids,pl⟩:=x;generalize lets t.nodes ⟨k,text,n,kids,pl⟩=hv at CQ Ut Us|-;simp only[Nd.cv]at hg Ut Us BL CQ aP|-;rcases (show (k=65\/k=26\/k=40\/k=45\/k=41\/k=28\/k=29\/k=48\/k=47)\/(k≠65/\k≠26/\k≠40/\k≠45/\k≠41/\k≠28/\k≠29/\k≠48/\k≠47) by omega) with (rfl|rfl|rfl|rfl|rfl|rfl|rfl|rfl|rfl)|rest
 ·refine Jc c79_ok rfl rfl λN=>?_
  simp (config:={maxSteps:=2000000}) only[c79,go_sem,Tr.cv,Tr.row,Jb,Jf,hg,Ga];refine⟨⟨om,om⟩,?_⟩;refine Kk (Jcd n 0 5) ?_
  cases hb:inI 0 5 n with
  |false=>simp (config:={maxSteps:=2000000}) only[go_sem];simp[Qu,hb]
  |true=>have Cb:=hb;simp only[inI,Gj,decide_eq_true_eq]at Cb;simp (config:={maxSteps:=2000000}) only[go_sem];refine⟨Ji,Ji,?_⟩;refine Kt (gok rfl) (Jcd _ 1 4) ?_;simp (config:={maxSteps:=2000000}) only[go_sem];simp[Qu,hb,CQ]
 ·refine Jc c79_ok rfl rfl λN=>?_
  simp (config:={maxSteps:=2000000}) only[c79,go_sem,Tr.cv,Tr.row,Jb,Jf,hg,Ga];refine⟨⟨om,om⟩,?_⟩
  congr 1
  simp only[Qu];rw[Gh];simp;omega
 ·refine Jc c79_ok rfl rfl λN=>?_
  simp (config:={maxSteps:=2000000}) only[c79,go_sem,Tr.cv,Tr.row,Jb,Jf,hg,Ga];refine⟨⟨om,om⟩,?_⟩;refine Kk (Jcd n 0 12) ?_
  cases hb:inI 0 12 n with
  |false=>simp (config:={maxSteps:=2000000}) only[go_sem];simp[Qu,hb]
  |true=>have Cb:=hb;simp only[inI,Gj,decide_eq_true_eq]at Cb;simp (config:={maxSteps:=2000000}) only[go_sem];refine⟨Ji,?_⟩;refine Kt (gok rfl) (Jcd _ 1 4) ?_;simp (config:={maxSteps:=2000000}) only[go_sem];simp[Qu,hb,CQ]
 ·refine Jc c79_ok rfl rfl λN=>?_
  simp (config:={maxSteps:=2000000}) only[c79,go_sem,Tr.cv,Tr.row,Jb,Jf,hg,Ga];refine⟨⟨om,om⟩,?_⟩;refine Kk (Jcd _ 1 4) ?_;simp (config:={maxSteps:=2000000}) only[go_sem];simp[Qu,CQ]
 ·refine Jc c79_ok rfl rfl λN=>?_
  simp (config:={maxSteps:=2000000}) only[c79,go_sem,Tr.cv,Tr.row,Jb,Jf,hg,Ga];refine⟨⟨om,om⟩,?_⟩;refine Kk (Jcd n 1 4) ?_;simp (config:={maxSteps:=2000000}) only[go_sem];simp[Qu]
 ·refine Jc c79_ok rfl rfl λN=>?_
  simp (config:={maxSteps:=2000000}) only[c79,go_sem,Tr.cv,Tr.row,Jb,Jf,hg,Ga];refine⟨⟨om,om⟩,?_⟩;refine Kk (Jcd n 1 5) ?_
  cases hb:inI 1 5 n with
  |false=>simp (config:={maxSteps:=2000000}) only[go_sem];simp[Qu,hb]
  |true=>
   simp (config:={maxSteps:=2000000}) only[go_sem];refine Kt (gok rfl) Ut ?_;by_cases Z4:(QD 83 hv:Int)<=12
   ·have d1:((QD 83 hv:Int)<=12)=True:=eq_true Z4;simp (config:={maxSteps:=2000000}) only[go_sem,d1];refine Kt (gok rfl) Us ?_;simp (config:={maxSteps:=2000000}) only[go_sem];simp[Qu,hb,d1]
   ·have d1:((QD 83 hv:Int)<=12)=False:=eq_false Z4;simp (config:={maxSteps:=2000000}) only[go_sem,d1];simp[Qu,hb,d1]
 ·refine Jc c79_ok rfl rfl λN=>?_
  simp (config:={maxSteps:=2000000}) only[c79,go_sem,Tr.cv,Tr.row,Jb,Jf,hg,Ga];refine⟨⟨om,om⟩,?_⟩;refine Kk (Jcd n 0 100) ?_
  cases hb:inI 0 100 n with
  |false=>simp (config:={maxSteps:=2000000}) only[go_sem];simp[Qu,hb]
  |true=>simp (config:={maxSteps:=2000000}) only[go_sem];refine⟨Ji,?_⟩;refine Kt (gok rfl) (Jcd _ 1 8) ?_;simp (config:={maxSteps:=2000000}) only[go_sem];simp[Qu,hb,CQ]
 ·refine Jc c79_ok rfl rfl λN=>?_
  simp (config:={maxSteps:=2000000}) only[c79,go_sem,Tr.cv,Tr.row,Jb,Jf,hg,Ga];refine⟨⟨om,om⟩,?_⟩;refine Kk (Jcd n 0 100) ?_;simp (config:={maxSteps:=2000000}) only[go_sem];simp[Qu]
 ·refine Jc c79_ok rfl rfl λN=>?_
  simp (config:={maxSteps:=2000000}) only[c79,go_sem,Tr.cv,Tr.row,Jb,Jf,hg,Ga];refine⟨⟨om,om⟩,?_⟩;refine Kk (Jcd n 1 9) ?_;simp (config:={maxSteps:=2000000}) only[go_sem];simp[Qu]
 ·obtain⟨r1,r2,r3,r4,r5,r6,r7,r8,r9⟩:=rest;have hE:Qu k n hv=true:=by simp only[Qu];rw[iN7,iN7,iN7,iN7,iN7,iN7,iN7,iN7,iN7]
  rw[hE];have e65:=kb (m:=65) (k:=k) om;simp only[Ga]at e65;have e26:=kb (m:=26) (k:=k) om;simp only[Ga]at e26;have e40:=kb (m:=40) (k:=k) om;simp only[Ga]at e40;have e45:=kb (m:=45) (k:=k) om;simp only[Ga]at e45;have e41:=kb (m:=41) (k:=k) om;simp only[Ga]at e41;have e28:=kb (m:=28) (k:=k) om;simp only[Ga]at e28;have e29:=kb (m:=29) (k:=k) om;simp only[Ga]at e29;have e48:=kb (m:=48) (k:=k) om;simp only[Ga]at e48;have e47:=kb (m:=47) (k:=k) om;simp only[Ga]at e47;refine Jc c79_ok rfl rfl λN=>?_
  simp (config:={maxSteps:=2000000}) only[c79,go_sem,Tr.cv,Tr.row,Jb,Jf,hg,e65,e26,e40,e45,e41,e28,e29,e48,e47];exact⟨om,om⟩
theorem all_same {α:Type}{l:List α}{p q:α->Bool}(h:∀x∈l,p x=q x):l.all p=l.all q:=by
 induction l with
 |nil=>rfl
 |cons a l ih=>simp only[GN];rw[h a sM,ih (λx hx=>h x (by simp[hx]))]
theorem kids_conv {l:LC}(hn:∀y∈l,y.k<256)(hk:∀k∈x.kids,0<=k/\k<l.length){c:Nat}(h:∀k:Nat,k<256->isR k c=(Jdo k == b))(p q:Int):kidsR (kinds l x) p q c=Ka (lets l x) p q b:=by
 unfold kidsR Ka kinds lets;have e:(((x.kids.map (Jo l)).take q.toNat).drop p.toNat).all (λk=>isR k c)=(((x.kids.map λk=>Jdo (Jo l k)).take q.toNat).drop p.toNat).all (· == b):=by
  rw[<-GL,<-GM,<-GL,<-GM,GQ,GQ];refine all_same λk Am=>?_
  have hr:=hk k (List.mem_of_mem_take (List.mem_of_mem_drop Am));have Ab:k.toNat<l.length:=om
  refine h _ ?_;unfold Jo;rw[Gc,Gd Ab];exact hn _ (Gl Ab)
 rw[e];simp
theorem cls_all:∀k:Fin 256,∀p∈([(200,101),(201,116),(202,99),(40,66),(41,83),(42,98),(43,73),(44,78),(45,71),(48,79),(64,80)]:List (Nat×UInt8)),isR k.val p.1=(Jdo k.val == p.2):=vM
theorem refKin1 (t:Tr)(x:Nd)(hx:x.Fit)(hm:t.nodes.length<=1400)(hn:∀y∈t.nodes,y.k<256)(hk:∀k∈x.kids,0<=k/\k<t.nodes.length)(MX:x.k=41->x.n<9223372036854775807)(BF:x.k≠28) :
  Fn Gb 95 [t.cv,.agg x.cv] (.bool (Qs x.k x.n (lets t.nodes x))):=by
 have BL:=hx.kidn;have CQ:=KP (l:=t.nodes) (x:=x);have hK:∀(c:Nat) (b:UInt8),(c,b)∈([(200,101),(201,116),(202,99),(40,66),(41,83),(42,98),(43,73),(44,78),(45,71),(48,79),(64,80)]:List (Nat×UInt8))->∀p q:Int,Fn Gb 149 [t.cv,.agg x.cv,.int .i64 p,.int .i64 q,.int .u8 c] (.bool (Ka (lets t.nodes x) p q b)):=by intro c b FX p q;have:=refKids t x hx hm hk p q c;rw[kids_conv hn hk (λk h=>cls_all ⟨k,h⟩ (c,b) FX)]at this;exact this
 have aP : -9223372036854775808<=x.n:=hx.n.1;have K200:=hK 200 101 vk;have K201:=hK 201 116 vk;have K202:=hK 202 99 vk;have K40:=hK 40 66 vk;have K41:=hK 41 83 vk;have K42:=hK 42 98 vk;have K43:=hK 43 73 vk;have K44:=hK 44 78 vk;have K45:=hK 45 71 vk;have K48:=hK 48 79 vk;have K64:=hK 64 80 vk;simp only[Ga]at K200 K201 K202 K40 K41 K42 K43 K44 K45 K48 K64;obtain⟨k,text,n,kids,pl⟩:=x;generalize lets t.nodes ⟨k,text,n,kids,pl⟩=hv at CQ K200 K201 K202 K40 K41 K42 K43 K44 K45 K48 K64|-;simp only[Nd.cv,Tr.cv,Tr.row]at BL CQ aP MX BF K200 K201 K202 K40 K41 K42 K43 K44 K45 K48 K64|-;clear hK;obtain⟨m,Es⟩:∃m:Int,m=(kids.length:Int):=⟨_,rfl⟩;by_cases hC:k=1\/k=2\/k=3\/k=19\/k=20\/k=21\/k=22\/k=23\/k=24\/k=25\/k=26\/k=27\/k=29\/k=40\/k=41\/k=42\/k=43\/k=44\/k=45\/k=46\/k=47\/k=48\/k=60\/k=61\/k=62\/k=63\/k=64\/k=65
 rotate_left
 ·simp only[not_or]at hC;have hE:Qs k n hv=(decide (4<=k) && decide (k<=18) && (m == 2) && Ka hv 0 2 101):=by
   simp only[Qs]
   repeat rw[iN7]
   rw[CQ,<-Es]
  rw[hE];have f4:((4:Int)<=(k:Int))=(4<=k):=propext om;have f18:((k:Int)<=18)=(k<=18):=propext om;refine Jc c95_ok rfl rfl λN=>?_
  by_cases h4:4<=k <;> by_cases UG:k<=18 <;> cases h0:m == 2 <;> (repeat first
   |refine Kt (gok rfl) (K200 0 2) ?_
   |simp (maxSteps:=2000000) -implicitDefEqProofs only[c95,go_sem,Jf,<-Es,f4,f18,h4,UG,h0,kbo,hC,BF,not_false_eq_true]) <;> simp
 rcases hC with rfl|rfl|rfl|rfl|rfl|rfl|rfl|rfl|rfl|rfl|rfl|rfl|rfl|rfl|rfl|rfl|rfl|rfl|rfl|rfl|rfl|rfl|rfl|rfl|rfl|rfl|rfl|rfl <;> (
  try have MX:=MX rfl
  simp only[Qs,CQ,<-Es];refine Jc c95_ok rfl rfl λN=>?_
  repeat first
   |refine⟨Ji,?_⟩
   |refine vr_fgB (by first|exact .inl rfl|exact gok rfl) (by first|exact K200 _ _|exact K201 _ _|exact K202 _ _|exact K40 _ _|exact K41 _ _|exact K42 _ _|exact K48 _ _|exact K64 _ _) (λB hb=>?_);try simp only[hb];clear hb;cases B
   |simp (maxSteps:=2000000) -implicitDefEqProofs only[c95,go_sem,Jf,Ga,<-Es]
   |rcases Gr (m == 0) with h0|h0 <;> rw[h0]
   |rcases Gr (m == 1) with h0|h0 <;> rw[h0]
   |rcases Gr (m == 2) with h0|h0 <;> rw[h0]
   |rcases Gr (m == 3) with h0|h0 <;> rw[h0]
   |rcases Gr (m == n+1) with h0|h0 <;> rw[h0]
   |by_cases h0:0<m <;> simp only[h0]
   |by_cases h0:m<=1 <;> simp only[h0]
  all_goals first|simp|simp_all)
end Go.Cm
end
end
