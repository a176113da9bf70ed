/-
  A part of the proof. Conditions: none.
-/
import Derived.Test.YtejfnfphmkjffaaGreatDoorUP3
set_option linter.unusedSimpArgs false
set_option linter.unusedVariables false
open List renaming getD_eq_getElem?_getD->Gc,getElem?_eq_getElem->Gd,drop_eq_getElem_cons->Gi,getElem?_eq_some_iff->Gn,drop_eq_nil_of_le->Gp,getElem_mem->Gl,take_length->Gq,map_cons->Gm,length_take->Gs,take_succ_eq_append_getElem->Gz,map_nil->Gv,length_pos_iff->GA,getElem?_take->GD,length_drop->GG,all_eq_true->GH,length_nil->GI,count_cons->GJ,drop_zero->GK,map_take->GL,map_drop->GM,all_cons->GN,all_map->GQ,length->GR
open Bool renaming eq_iff_iff->Gh,eq_false_or_eq_true->Gr,and_eq_true->Gj,or_eq_false_iff->Gt,true_or->Gu,or_false->Gw,not_eq_true'->GU
open Nat renaming le_of_lt->Gf,le_refl->Gg,zero_add->Gx
open Go.Proofs.Tryz renaming prog->Gb
open Int renaming cast_ofNat_Int->Ga,toNat_natCast->Gy
noncomputable section
section
set_option maxRecDepth 100000
set_option maxHeartbeats 40000000
open Go.Proofs
namespace Go.Cm
def JgN:Bool->List UInt8->Nat
 |_,[]=>0
 |false,c::l=>if isBk c=true then JgN false l+1 else if c=126 then JgN true l+1 else 0
 |true,c::l=>if c=10 then JgN false l+1 else JgN true l+1
def YM (l:List UInt8)(a:Nat):Nat:=a+JgN false (l.drop a)
theorem gapE_ge (l:List UInt8)(a:Nat):a<=YM l a:=by unfold YM;omega
theorem JgO {l:List UInt8}{a:Nat}(h:l.length<=a):YM l a=a:=by
 unfold YM;rw[Gp h];simp[JgN]
def badB (c:UInt8):Bool:=!(c == 10) && (decide (c.toNat<32) || decide (126<c.toNat))
def badE (l:List UInt8)(i:Nat):Nat×Int:=match l with
 |[]=>(0,0)
 |c::r=>if badB c=true then(i,4) else badE r (i+1)
def X7 (l:List UInt8):Nat×Int:=if 2500<l.length then(0,5) else badE l 0
def rdF (l:List UInt8):Nat->Nat->List (Nat×List UInt8×Nat)->List (Nat×List UInt8×Nat)×Nat×Int
 |0,_,acc=>(acc,0,0)
 |n+1,a,acc=>
  if YM l a<l.length then
   (if (tkL l (YM l a)).2.2=true then(if acc.length=900 then([],YM l a,5) else rdF l n (YM l a+(tkL l (YM l a)).2.1.length) (acc++[((tkL l (YM l a)).1,(tkL l (YM l a)).2.1,YM l a)])) else([],YM l a,4))
  else(acc,0,0)
def JaK (l:List UInt8):List (Nat×List UInt8×Nat)×Nat×Int:=if (X7 l).2≠0 then([],(X7 l).1,(X7 l).2) else rdF l (l.length+1) 0 []
def kindR (l:List UInt8):Nat:=match JaK l with
 |([t],_,e)=>if e=0/\t.2.1=l then t.1 else 0
 |_=>0
theorem rdF_pre {l:List UInt8}:∀(n a:Nat) (acc r:List (Nat×List UInt8×Nat)) (p:Nat),rdF l n a acc=(r,p,0)->∃s,r=acc++s
 |0,a,acc,r,p,h=>by
  simp only[rdF,Prod.mk.injEq]at h;exact⟨[],by rw[<-h.1];simp⟩
 |n+1,a,acc,r,p,h=>by
  simp only[rdF]at h
  split at h
  ·split at h
   ·split at h
    ·simp at h
    ·obtain⟨s,hs⟩:=rdF_pre n _ _ r p h;exact⟨_,by rw[hs,List.append_assoc]⟩
   ·simp at h
  ·simp only[Prod.mk.injEq]at h;exact⟨[],by rw[<-h.1];simp⟩
theorem badB_alnum {c:UInt8}(h:KZ c=true):badB c=false:=by
 simp only[KZ,isLt,Xg,Bool.or_eq_true,Gj,decide_eq_true_eq]at h;have h1:¬c.toNat<32:=by omega
 have h2:¬126<c.toNat:=by omega
 simp[badB,h1,h2]
theorem badE_none:∀(l:List UInt8) (i:Nat),(∀c∈l,badB c=false)->badE l i=(0,0)
 |[],i,_=>rfl
 |c::l,i,h=>by
  simp only[badE];rw[if_neg (by rw[h c (by simp)];simp)];exact badE_none l (i+1) λx hx=>h x (by simp[hx])
theorem tk_name {l:List UInt8}{a:Nat}(h:(tkL l a).1=2):isLt (l.getD a 0)=true/\tkL l a=(2,cut l a (Q0 KZ l a),decide ((cut l a (Q0 KZ l a)).length<=12))/\kws.contains (cut l a (Q0 KZ l a))=false:=by
 unfold tkL at h|-;by_cases h1:isLt (l.getD a 0)=true
 ·rw[if_pos h1]at h|-;by_cases h2:kws.contains (cut l a (Q0 KZ l a))=true
  ·rw[if_pos h2]at h;simp at h
  ·rw[if_neg h2];exact⟨h1,rfl,by simpa using h2⟩
 ·rw[if_neg h1]at h
  split at h <;> simp at h
theorem kindR_name (l:List UInt8):(kindR l == 2)=Jdt l:=by
 rw[Gh,beq_iff_eq]
 constructor
 ·intro h;unfold kindR at h
  split at h
  ·rename_i t p e he
   split at h
   ·rename_i hc;obtain⟨gD,ht⟩:=hc;subst gD;unfold JaK at he
    split at he
    ·simp only[Prod.mk.injEq]at he;simp at he
    ·simp only[rdF]at he
     split at he
     ·rename_i Ab
      split at he
      ·rename_i Ap
       split at he
       ·simp at he
       ·obtain⟨s,hs⟩:=rdF_pre _ _ _ _ _ he;simp only[List.nil_append,List.cons_append,List.cons.injEq]at hs;obtain⟨rfl,-⟩:=hs
        dsimp only at ht h
        obtain⟨k1,k2,k3⟩:=tk_name h;rw[k2]at ht Ap
        dsimp only at ht Ap
        have hE:=YH (q:=KZ) (Gf Ab);have Ci:YM l 0<=Q0 KZ l (YM l 0):=by unfold Q0;omega
        have Aq:=JaZ Ci hE;rw[ht]at Aq k3 Ap;have h0:YM l 0=0:=by omega
        rw[h0]at ht k1;have Am:=Jb3.1 ht;have Ah:l≠[]:=by rintro rfl;simp at Ab
        unfold Jdt;rw[k1,Am,k3,Ap];simp[Ah]
      ·simp at he
     ·simp at he
   ·simp at h
  ·simp at h
 ·intro h;unfold Jdt at h;simp only[Gj,GU,beq_eq_false_iff_ne,decide_eq_true_eq]at h;obtain⟨⟨⟨⟨h1,h2⟩,h3⟩,h4⟩,h5⟩:=h;have hb:X7 l=(0,0):=by
   unfold X7;rw[iN7];exact badE_none l 0 λc hc=>badB_alnum (GH.1 h2 c hc)
  have Iq:0<l.length:=GA.2 h5;have hg:YM l 0=0:=by
   unfold YM
   cases l with
   |nil=>rfl
   |cons c r=>
    have hg:=lt_gp (c:=c) (by simpa using h1);simp only[isGp,Gt,beq_eq_false_iff_ne]at hg;simp only[GK,JgN,hg.1,Bool.false_eq_true,if_false,if_neg hg.2]
  have Cw:cut l 0 (Q0 KZ l 0)=l:=Jb3.2 h2;have hT:tkL l 0=(2,l,true):=by
   unfold tkL;rw[if_pos h1,Cw,if_neg (by rw[h3];simp),decide_eq_true h4]
  have Ei:YM l l.length=l.length:=JgO (Gg _);have hr:JaK l=([(2,l,0)],0,0):=by
   unfold JaK;rw[hb,if_neg (by simp)];obtain⟨n,hn⟩:∃n,l.length=n+1:=⟨l.length-1,by omega⟩;have e1:rdF l (l.length+1) 0 []=rdF l l.length (0+l.length) ([]++[(2,l,0)]):=by
    rw[rdF,hg,if_pos Iq,hT,if_pos rfl,if_neg (by simp)]
   have e2:rdF l (n+1) (0+l.length) ([]++[(2,l,0)])=([(2,l,0)],0,0):=by
    rw[rdF,Gx,Ei,iN7];rfl
   rw[e1,<-e2,<-hn]
  unfold kindR;rw[hr];simp
theorem Kr (c:UInt8):Fn Gb 101 [.int .u8 c.toNat] (.bool (isLt c)):=by
 refine Jc c101_ok rfl rfl λN=>?_
 have h1:=dle 97 c;have h2:=dge 122 c;simp only[Ga]at h1 h2;simp +contextual only[c101,go_sem,h1,h2,isLt]
theorem Qn (c:UInt8):Fn Gb 100 [.int .u8 c.toNat] (.bool (Xg c)):=by
 refine Jc c100_ok rfl rfl λN=>?_
 have h1:=dle 48 c;have h2:=dge 57 c;simp only[Ga]at h1 h2;simp +contextual only[c100,go_sem,h1,h2,Xg]
theorem refHas (l:List (List UInt8))(s:List UInt8)(hl:l.length<=100000):Fn Gb 104 [.rslc 1 (sz l) none,S s] (.bool (l.contains s)):=by
 refine Jc c104_ok rfl rfl λN=>?_
 simp -implicitDefEqProofs only[c104,go_sem];refine JI (I:=λi:Nat=>i<=l.length/\l.contains s=(l.drop i).contains s) (inv:=λi=>gp [(0,.rslc 1 (sz l) none),(0,S s),(3,.int .i64 (i:Int))] 12) (hp:=λ_=>[]) (μ:=λi=>l.length-i) 0 ⟨by omega,rfl⟩ ?_ rfl ?_
 ·simp[forget,gp]
 ·rintro i ⟨hi,Aa⟩;by_cases Ab:i<l.length
  ·have d1:((i:Int)<(l.length:Int))=True:=Jq;simp -implicitDefEqProofs only[go_sem,Jbw,d1];rw[sz_get Ab];refine anO ?_;rw[Gi Ab,List.contains_cons]at Aa;rw[show l.getD i []=l[i] by rw[Gc,Gd Ab];rfl];generalize l[i]=x at Aa|-;have Ii:(x == s)=(s == x):=by rw[Gh,beq_iff_eq,beq_iff_eq];exact eq_comm
   cases hx:(x == s) with
   |true=>
    rw[<-Ii,hx,Gu]at Aa;simp -implicitDefEqProofs only[go_sem,hx,Aa]
   |false=>
    rw[<-Ii,hx,Bool.false_or]at Aa;simp -implicitDefEqProofs only[go_sem,hx];refine⟨Jh,i+1,⟨by omega,Aa⟩,by omega,?_⟩;simp[forget]
  ·have d1:((i:Int)<(l.length:Int))=False:=Jo;rw[Gp (by omega)]at Aa;simp -implicitDefEqProofs only[go_sem,Jbw,d1,Aa]
   try rfl
theorem refLexCheck (l:List UInt8)(hl:l.length<=1000000):Fn Gb 76 [S l] (.tup [.int .i64 ((X7 l).1:Nat),.int .i64 (X7 l).2]):=by
 refine Jc c76_ok rfl rfl λN=>?_
 by_cases C9:2500<l.length
 ·have d0:((2500:Int)<(l.length:Int))=True:=Jq;have hc:X7 l=(0,5):=by unfold X7;rw[if_pos C9]
  simp -implicitDefEqProofs only[c76,go_sem,d0,hc]
  try rfl
 ·have d0:((2500:Int)<(l.length:Int))=False:=Jo;have hc:X7 l=badE l 0:=by unfold X7;rw[if_neg C9]
  simp -implicitDefEqProofs only[c76,go_sem,d0,hc];refine JI (I:=λi:Nat=>i<=l.length/\badE l 0=badE (l.drop i) i) (inv:=λi=>gp [(0,S l),(3,.int .i64 (i:Int))] 26) (hp:=λ_=>[]) (μ:=λi=>l.length-i) 0 ⟨by omega,rfl⟩ ?_ rfl ?_
  ·simp[forget,gp]
  ·rintro i ⟨hi,Aa⟩;by_cases Ab:i<l.length
   ·have d1:((i:Int)<(l.length:Int))=True:=Jq;rw[Gi Ab,badE]at Aa;have hg:l.getD i 0=l[i]:=by rw[Gc,Gd Ab];rfl
    rw[<-hg]at Aa;simp -implicitDefEqProofs only[go_sem,d1];generalize l.getD i 0=c at Aa|-;have Ah:=deq 10 (by decide) c;simp only[Ga]at Ah;refine anO ?_;by_cases Ez:c=10
    ·have e1:((c.toNat:Int) != 10)=false:=by rw[bne,Ah];simp[Ez]
     rw[if_neg (by simp[badB,Ez])]at Aa;simp -implicitDefEqProofs only[go_sem,e1];refine⟨Jh,i+1,⟨by omega,Aa⟩,by omega,?_⟩;simp[forget]
    ·have e1:((c.toNat:Int) != 10)=true:=by rw[bne,Ah];simp[Ez]
     by_cases O4:c.toNat<32
     ·have e2:((c.toNat:Int)<32)=True:=Jq;rw[if_pos (by simp[badB,Ez,O4])]at Aa;simp -implicitDefEqProofs only[go_sem,e1,e2,Aa];omega
     ·have e2:((c.toNat:Int)<32)=False:=Jo;by_cases Ep:126<c.toNat
      ·have e3:((126:Int)<(c.toNat:Int))=True:=Jq;rw[if_pos (by simp[badB,Ez,Ep])]at Aa;simp -implicitDefEqProofs only[go_sem,e1,e2,e3,Aa];omega
      ·have e3:((126:Int)<(c.toNat:Int))=False:=Jo;rw[if_neg (by simp[badB,O4,Ep])]at Aa;simp -implicitDefEqProofs only[go_sem,e1,e2,e3];refine⟨by omega,by omega,Jh,i+1,⟨by omega,Aa⟩,by omega,?_⟩;simp[forget]
   ·have d1:((i:Int)<(l.length:Int))=False:=Jo;rw[Gp (by omega)]at Aa;simp -implicitDefEqProofs only[go_sem,d1,Aa,badE]
    try rfl
theorem refGap (l:List UInt8)(a:Nat)(ha:a<=l.length)(hl:l.length<=1000000):Fn Gb 77 [S l,.int .i64 (a:Int)] (.int .i64 (YM l a:Nat)):=by
 refine Jc c77_ok rfl rfl λN=>?_
 simp -implicitDefEqProofs only[c77,go_sem];refine JI (I:=λi:Nat=>i<=l.length/\YM l a=YM l i) (inv:=λi=>gp [(0,S l),(0,.int .i64 (i:Int))] 39) (hp:=λ_=>[]) (μ:=λi=>l.length-i) a ⟨ha,rfl⟩ ?_ rfl ?_
 ·simp[forget,gp]
 ·rintro i ⟨hi,Aa⟩;by_cases Ab:i<l.length
  ·have d1:((i:Int)<(l.length:Int))=True:=Jq;have hg:l.getD i 0=l[i]:=by rw[Gc,Gd Ab];rfl
   have Au:YM l i=i+JgN false (l.getD i 0::l.drop (i+1)):=by unfold YM;rw[Gi Ab,hg]
   simp -implicitDefEqProofs only[go_sem,d1];obtain⟨c,hc⟩:∃c,c=l.getD i 0:=⟨_,rfl⟩;rw[<-hc]at Au|-;have q1:=deq 32 (by decide) c;have q2:=deq 10 (by decide) c;have q3:=deq 126 (by decide) c;simp only[Ga]at q1 q2 q3;refine anO ?_;by_cases O4:c=32
   ·have e1:((c.toNat:Int) == 32)=true:=by rw[q1];simp[O4]
    have hs:YM l i=YM l (i+1):=by
     rw[Au,JgN,if_pos (by simp[isBk,O4])];unfold YM;omega
    simp -implicitDefEqProofs only[go_sem,e1];refine⟨Jh,i+1,⟨by omega,by rw[Aa,hs]⟩,by omega,?_⟩;simp[forget]
   ·have e1:((c.toNat:Int) == 32)=false:=by rw[q1];simp[O4]
    by_cases Ez:c=10
    ·have e2:((c.toNat:Int) == 10)=true:=by rw[q2];simp[Ez]
     have hs:YM l i=YM l (i+1):=by
      rw[Au,JgN,if_pos (by simp[isBk,Ez])];unfold YM;omega
     simp -implicitDefEqProofs only[go_sem,e1,e2,<-hc];refine⟨by omega,Jh,i+1,⟨by omega,by rw[Aa,hs]⟩,by omega,?_⟩;simp[forget]
    ·have e2:((c.toNat:Int) == 10)=false:=by rw[q2];simp[Ez]
     by_cases Ep:c=126
     ·have e3:((c.toNat:Int) == 126)=true:=by rw[q3];simp[Ep]
      have hs:YM l i=i+JgN true (l.drop i):=by
       rw[Au,Gi Ab,<-hg,<-hc,JgN,if_neg (by simp[isBk,Ep]),if_pos Ep,JgN,if_neg Ez]
      simp -implicitDefEqProofs only[go_sem,e1,e2,e3,<-hc];refine⟨by omega,by omega,?_⟩;refine JI (I:=λj:Nat=>i<=j/\j<=l.length/\YM l i=j+JgN true (l.drop j)) (inv:=λj=>gp [(0,S l),(0,.int .i64 (j:Int))] 39) (hp:=λ_=>[]) (μ:=λj=>l.length-j) i ⟨by omega,by omega,hs⟩ ?_ rfl ?_
      ·simp[forget,gp]
      ·rintro j ⟨Cv,hj,EM⟩;by_cases A8:j<l.length
       ·have d2:((j:Int)<(l.length:Int))=True:=Jq;have Bv:l.getD j 0=l[j]:=by rw[Gc,Gd A8];rfl
        rw[Gi A8,<-Bv]at EM;simp -implicitDefEqProofs only[go_sem,d2];have Fe:j=i->l.getD j 0≠10:=by rintro rfl;rw[<-hc];exact Ez
        obtain⟨x,Me⟩:∃x,x=l.getD j 0:=⟨_,rfl⟩;rw[<-Me]at EM Fe|-;have q4:=deq 10 (by decide) x;simp only[Ga]at q4;refine anO ?_;by_cases hx:x=10
        ·have e4:((x.toNat:Int) != 10)=false:=by rw[bne,q4];simp[hx]
         rw[JgN,if_pos hx]at EM;have Ah:j≠i:=λh=>Fe h hx
         have Im:YM l i=YM l j:=by
          rw[EM];unfold YM;rw[Gi A8,<-Bv,<-Me,JgN,if_pos (by simp[isBk,hx])]
         simp -implicitDefEqProofs only[go_sem,e4];refine⟨j,⟨by omega,by rw[Aa,Im]⟩,by omega,?_⟩;simp[forget]
        ·have e4:((x.toNat:Int) != 10)=true:=by rw[bne,q4];simp[hx]
         rw[JgN,if_neg hx]at EM;simp -implicitDefEqProofs only[go_sem,e4];refine⟨Jh,j+1,⟨by omega,by omega,by omega⟩,by omega,?_⟩;simp[forget]
       ·have d2:((j:Int)<(l.length:Int))=False:=Jo;have Ch:j=l.length:=by omega
        simp -implicitDefEqProofs only[go_sem,d2];refine⟨j,⟨by omega,?_⟩,by omega,?_⟩
        ·rw[Aa,EM,JgO (by omega),Gp (by omega)];simp[JgN]
        ·simp[forget]
     ·have e3:((c.toNat:Int) == 126)=false:=by rw[q3];simp[Ep]
      have hs:YM l i=i:=by
       rw[Au,JgN,if_neg (by simp[isBk,O4,Ez]),if_neg Ep];rfl
      simp -implicitDefEqProofs only[go_sem,e1,e2,e3,<-hc];refine⟨by omega,by omega,?_⟩;rw[Aa,hs]
  ·have d1:((i:Int)<(l.length:Int))=False:=Jo;simp -implicitDefEqProofs only[go_sem,d1];rw[Aa,JgO (by omega)]
theorem decA_take {l:List UInt8}{i:Nat}(h:i<l.length):JbQ 0 (l.take (i+1))=JbQ 0 (l.take i)*10+((l.getD i 0).toNat-48):=by
 rw[Gz h,Jg8,JaY];rw[show l.getD i 0=l[i] by rw[Gc,Gd h];rfl];rfl
theorem decA_pre {l:List UInt8}(i:Nat):JbQ 0 (l.take i)<=Jcr l:=by
 have:Jcr l=JbQ (JbQ 0 (l.take i)) (l.drop i):=by rw[<-Jg8,List.take_append_drop];rfl
 rw[this];exact Jg7 _ _
def numV (l:List UInt8):Int:=if JbK l=true then(Jcr l:Int) else -1
theorem numV_ok (l:List UInt8):decide (0<=numV l)=JbK l:=by
 unfold numV
 split
 ·rename_i h;rw[h];simp
 ·rename_i h;simp at h;rw[h];rfl
theorem refNumber (l:List UInt8)(hd:l.all Xg=true)(hl:l.length<=1000000):Fn Gb 103 [S l] (.int .i64 (numV l)):=by
 refine Jc c103_ok rfl rfl λN=>?_
 simp -implicitDefEqProofs only[c103,go_sem];refine JI (I:=λi:Nat=>i<=l.length/\JbQ 0 (l.take i)<=1000000000) (inv:=λi=>gp [(0,S l),(2,.int .i64 (JbQ 0 (l.take i):Nat)),(0,.int .i64 (i:Int))] 25) (hp:=λ_=>[]) (μ:=λi=>l.length-i) 0 ⟨by omega,by simp[JbQ]⟩ ?_ rfl ?_
 ·simp[forget,gp,JbQ]
 ·rintro i ⟨hi,Aa⟩;by_cases Ab:i<l.length
  ·have d1:((i:Int)<(l.length:Int))=True:=Jq;have bL:Xg (l.getD i 0)=true:=by
    rw[Gc,Gd Ab];exact GH.1 hd _ (Gl Ab)
   have Al:=decA_take Ab;have BC:=decA_pre (l:=l) (i+1);simp only[Xg,Gj,decide_eq_true_eq]at bL;simp -implicitDefEqProofs only[go_sem,d1];generalize l.getD i 0=c at bL Al|-;generalize JbQ 0 (l.take i)=v at Aa Al|-;rw[Al]at BC;refine⟨Jh,by omega,⟨by show (0:Int)<=_;omega,by show _<=(255:Int);omega⟩,Jh,Jh,?_⟩;by_cases C9:1000000000<v*10+(c.toNat-48)
   ·have d2:((1000000000:Int)<10*(v:Int)+((c.toNat:Int)-48))=True:=Jq;have hn:numV l = -1:=by
     unfold numV;rw[if_neg];unfold JbK;rw[decide_eq_false (by omega)];simp
    simp -implicitDefEqProofs only[go_sem,d2,hn]
   ·have d2:((1000000000:Int)<10*(v:Int)+((c.toNat:Int)-48))=False:=Jo;simp -implicitDefEqProofs only[go_sem,d2];refine⟨Jh,i+1,⟨by omega,by omega⟩,by omega,?_⟩;have e:((v*10+(c.toNat-48):Nat):Int)=10*(v:Int)+((c.toNat:Int)-48):=by omega
    rw[Al,e];simp[forget]
  ·have d1:((i:Int)<(l.length:Int))=False:=Jo;have CB:i=l.length:=by omega
   subst CB;rw[Gq]at Aa;have hv:JbQ 0 l=Jcr l:=rfl;by_cases h1:1<l.length
   ·have d2:((1:Int)<(l.length:Int))=True:=Jq;simp -implicitDefEqProofs only[go_sem,d1,d2,Gq];have hq:=deq 48 (by decide) (l.getD 0 0);simp only[Ga]at hq;have hh:l.head? = some (l.getD 0 0):=by cases l with
     |nil=>simp at h1
     |cons a r=>rfl
    by_cases Ps:l.getD 0 0=48
    ·have e1:(((l.getD 0 0).toNat:Int) == 48)=true:=by rw[hq,Ps];rfl
     have hn:numV l = -1:=by
      unfold numV;rw[if_neg];unfold JbK;rw[hh,Ps];have:¬(l.length=1\/some (48:UInt8)≠some 48):=by simp;omega
      rw[decide_eq_false this];simp
     refine anO ?_;simp -implicitDefEqProofs only[go_sem,e1,hn]
    ·have e1:(((l.getD 0 0).toNat:Int) == 48)=false:=by rw[hq];exact beq_eq_false_iff_ne.2 Ps
     have hn:numV l=Jcr l:=by
      unfold numV;rw[if_pos];unfold JbK;rw[hh];have:(l.length=1\/some (l.getD 0 0)≠some (48:UInt8)):=.inr (by simpa using Ps);rw[decide_eq_true this,decide_eq_true (by omega)];rfl
     refine anO ?_;simp -implicitDefEqProofs only[go_sem,e1,hn,hv]
   ·have d2:((1:Int)<(l.length:Int))=False:=Jo;have hn:numV l=Jcr l:=by
     unfold numV;rw[if_pos];unfold JbK;have:(l.length=1\/l.head?≠some (48:UInt8)):=by
      cases l with
      |nil=>right;simp
      |cons a r=>left;simp at h1;simp[h1]
     rw[decide_eq_true this,decide_eq_true (by omega)];rfl
    simp -implicitDefEqProofs only[go_sem,d1,d2,Gq,hn,hv]
theorem cut_take (l:List UInt8)(a n:Nat):cut l a (a+n)=(l.drop a).take n:=by
 unfold cut;rw[List.drop_take,Nat.add_sub_cancel_left]
theorem refSign (l:List UInt8)(a:Nat)(ha:a<l.length)(hl:l.length<=1000000):Fn Gb 102 [S l,.int .i64 (a:Int)] (.tup [.agg (lxz 4 (sgnL (l.drop a)) a),.int .i64 ((a+(sgnL (l.drop a)).length:Nat):Int),.bool (!(sgnL (l.drop a) == []))]):=by
 refine Jc c102_ok rfl rfl λN=>?_
 simp -implicitDefEqProofs only[c102,go_sem];refine J6 apiSigns ?_;simp -implicitDefEqProofs only[go_sem];have DN:sgs.length=26:=rfl;have BF:=sgnF_len (r:=l.drop a) sgs [] (by simp) sgs_len;have Ei:(sgnL (l.drop a)).length<=2:=BF;refine JI (σ:=Nat×List UInt8) (I:=λs=>s.1<=sgs.length/\sgnL (l.drop a)=sgnF (l.drop a) (sgs.drop s.1) s.2) (inv:=λs=>gp [(0,S l),(0,.int .i64 (a:Int)),(2,.ptr 0 0 0),(2,S s.2),(0,.rslc 1 (sz sgs) none),(0,.int .i64 (s.1:Int))] 51) (hp:=λs=>[.arr 3 [[.int .u8 0,S [],.int .i64 0]]]) (μ:=λs=>sgs.length-s.1) (0,[]) ⟨by omega,rfl⟩ ?_ rfl ?_
 ·simp[forget,gp]
 ·rintro⟨i,b⟩ ⟨hi,Aa⟩;simp only at hi Aa;by_cases Ab:i<sgs.length
  ·have d1:((i:Int)<(sgs.length:Int))=True:=Jq;simp -implicitDefEqProofs only[go_sem,Jbw,d1];have Dw:=sz_get Ab;have PR:=sgs_len _ (Gl Ab);rw[Gi Ab,sgnF]at Aa;rw[show sgs.getD i []=sgs[i] by rw[Gc,Gd Ab];rfl]at Dw;generalize sgs[i]=s at Aa Dw PR|-;rw[Dw];refine anO ?_;simp -implicitDefEqProofs only[go_sem];refine JV Js (by decide) ?_;by_cases hb:b.length<s.length
   ·have d2:((b.length:Int)<(s.length:Int))=True:=Jq;by_cases AU:a+s.length<=l.length
    ·have d3:((a:Int)+(s.length:Int)<=(l.length:Int))=True:=Jq;have aT:((a:Int)+(s.length:Int)).toNat=a+s.length:=by omega
     have Cw:List.drop a (List.take (a+s.length) l)=(l.drop a).take s.length:=cut_take l a s.length;by_cases hp:(l.drop a).take s.length=s
     ·have e1:((l.drop a).take s.length == s)=true:=beq_iff_eq.2 hp;rw[if_pos ⟨hp,hb⟩]at Aa;simp -implicitDefEqProofs only[go_sem,Jbw,d2,d3,Dw,aT,Cw,e1];refine⟨Jh,Jh,by omega,by omega,by omega,Jh,(i+1,s),⟨by simp only;omega,Aa⟩,by simp only;omega,?_⟩;simp[forget]
     ·have e1:((l.drop a).take s.length == s)=false:=beq_eq_false_iff_ne.2 hp;rw[if_neg (λh=>hp h.1)]at Aa;simp -implicitDefEqProofs only[go_sem,Jbw,d2,d3,Dw,aT,Cw,e1];refine⟨Jh,Jh,by omega,by omega,Jh,(i+1,b),⟨by simp only;omega,Aa⟩,by simp only;omega,?_⟩;simp[forget]
    ·have d3:((a:Int)+(s.length:Int)<=(l.length:Int))=False:=Jo;have hp:(l.drop a).take s.length≠s:=by
      intro e;have:=congrArg GR e;rw[Gs,GG]at this;omega
     rw[if_neg (λh=>hp h.1)]at Aa;simp -implicitDefEqProofs only[go_sem,d2,d3];refine⟨Jh,Jh,(i+1,b),⟨by simp only;omega,Aa⟩,by simp only;omega,?_⟩;simp[forget]
   ·have d2:((b.length:Int)<(s.length:Int))=False:=Jo;rw[if_neg (λh=>hb h.2)]at Aa;simp -implicitDefEqProofs only[go_sem,d2];refine⟨Jh,(i+1,b),⟨by simp only;omega,Aa⟩,by simp only;omega,?_⟩;simp[forget]
  ·have d1:((i:Int)<(sgs.length:Int))=False:=Jo;have:i=sgs.length:=by omega
   subst this;rw[List.drop_length,sgnF]at Aa;rw[Aa]at Ei|-;simp -implicitDefEqProofs only[go_sem,Jbw,d1];refine⟨Jh,?_⟩;simp only[lxz];rfl
def qAt (c:UInt8):UInt8->Bool:=if isLt c=true then KZ else Xg
section
theorem Jgl {q:UInt8->Bool}{l:List UInt8}:∀(n a i:Nat),n=i-a->a<=i->i<Q0 q l a->i<l.length->q (l.getD i 0)=true
 |0,a,i,hn,h1,h2,h3=>by
  have:a=i:=by omega
  subst this
  cases hq:q (l.getD a 0) with
  |true=>rfl
  |false=>rw[Jd5 h3 hq]at h2;omega
 |n+1,a,i,hn,h1,h2,h3=>by
  cases hq:q (l.getD a 0) with
  |true=>rw[Jdz (by omega) hq]at h2;exact Jgl n (a+1) i (by omega) (by omega) h2 h3
  |false=>rw[Jd5 (by omega) hq]at h2;omega
theorem JdA {q:UInt8->Bool}{l:List UInt8}:∀(n a:Nat),n=l.length-a->Q0 q l a<l.length->q (l.getD (Q0 q l a) 0)=false
 |0,a,hn,h=>by
  have:a<=Q0 q l a:=by unfold Q0;omega
  omega
 |n+1,a,hn,h=>by
  have:a<=Q0 q l a:=by unfold Q0;omega
  cases hq:q (l.getD a 0) with
  |true=>rw[Jdz (by omega) hq]at h|-;exact JdA n (a+1) (by omega) h
  |false=>rw[Jd5 (by omega) hq];exact hq
theorem lt_dg {c:UInt8}(h:isLt c=true):Xg c=false:=by
 simp only[isLt,Gj,decide_eq_true_eq]at h;have:¬c.toNat<=57:=by omega
 simp[Xg,this]
section
variable {P:Program}{E:Env}{H:List CObj}{T:List CV}
theorem hs_st {d:Option Nat}{n:Nat}{a v:IArg}{id i off z:Nat}{els:List (List CV)}{cs:List CV}(ha:J7 T a=.ptr id i off)(hv:(J7 T v).cells=some cs)(hH:H[id]? = some (.arr z els))(hn:cs.length=n/\QZ cs=true)(hc:i+1<=els.length/\off+n<=(els.getD i []).length) :
  HS P E ⟨d,.store n a v,none⟩ T H .un (H.set id (.arr z (els.set i (splice (els.getD i []) off cs)))) (.on [id+1],.on [id+1]):=by
 refine⟨λx hx=>?_,λT2 H2 BG hx=>?_⟩
 ·cases x with
  |zero=>simp[hat]
  |succ x=>
   have Ah:¬id=x:=λe=>hx (by simp[Foot.has,e])
   simp[hat,Ah]
 ·have df:H2[id]? = some (.arr z els):=by
   have:=hx (id+1) (by simp[Foot.has]);simpa [hat,hH]using this
  refine⟨H2.set id (.arr z (els.set i (splice (els.getD i []) off cs))),λx hx=>?_,λx hx=>?_,λ_ _ _ _ _ Ap=>Jej (.inl rfl) (c:=.and (.le (i+1) els.length) (.le (off+n) (els.getD i []).length)) (v:=.un) ?_ hc Ap⟩
  ·simp only[Foot.has,List.mem_cons,List.not_mem_nil,or_false]at hx;subst hx;have h1:=(Gn.1 hH).1;have h2:=(Gn.1 df).1;simp[hat,h1,h2]
  ·cases x with
   |zero=>simp[hat]
   |succ x=>
    have Ah:¬id=x:=λe=>hx (by simp[Foot.has,e])
    simp[hat,Ah]
  ·rw[<-Qr (Ji BG).2];simp only[exec,ha,hv,df];rw[if_pos hn]
end
theorem refAtS (l:List UInt8)(a:Nat)(ha:a<l.length)(hl:l.length<=1000000)(h1:isLt (l.getD a 0)=false)(h2:Xg (l.getD a 0)=false):Fn Gb 78 [S l,.int .i64 (a:Int)] (.tup [.agg (lxz (tkL l a).1 (tkL l a).2.1 a),.int .i64 ((a+(tkL l a).2.1.length:Nat):Int),.bool (tkL l a).2.2]):=by
 refine Jc c78_ok rfl rfl λN=>?_
 simp -implicitDefEqProofs only[c78,go_sem];obtain⟨c0,Dn⟩:∃c,c=l.getD a 0:=⟨_,rfl⟩;obtain⟨q,hq⟩:∃q,q=qAt c0:=⟨_,rfl⟩;have Dt:q=Xg:=by rw[hq,qAt,Dn];first|rw[if_pos h1]|rw[if_neg (by rw[h1];simp)]
 obtain⟨E,hE⟩:∃E,E=Q0 q l a:=⟨_,rfl⟩;have Ul:E<=l.length:=by rw[hE];exact YH (Gf ha)
 have Um:a<=E:=by rw[hE];unfold Q0;omega
 have AU:∀i,a<=i->i<E->q (l.getD i 0)=true:=λi h1 h2=>Jgl _ a i rfl h1 (by rw[<-hE];exact h2) (by omega)
 have AR:E<l.length->q (l.getD E 0)=false:=λh=>by rw[hE]at h|-;exact JdA _ a rfl h
 have aG:E=a:=by rw[hE,Dt];exact Jd5 ha h2
 have hT:tkL l a=(4,sgnL (l.drop a),!(sgnL (l.drop a) == [])):=by
  unfold tkL;rw[if_neg (by rw[h1];simp),if_neg (by rw[h2];simp)]
 rw[hT];have Ea:((E:Int) == (a:Int))=true:=by rw[aG];simp
 refine JI (I:=λi:Nat=>a<=i/\i<=E) (inv:=λi=>gp [(0,S l),(0,.int .i64 (a:Int)),(2,.ptr 0 0 0),(2,.int .i64 (i:Int))] 69) (hp:=λ_=>[.arr 3 [[.int .u8 0,S [],.int .i64 0]]]) (μ:=λi=>l.length-i) a ⟨by omega,by omega⟩ ?_ rfl ?_
 ·simp[forget,gp]
 ·rintro i ⟨I9,hi⟩;by_cases CJ:i<E
  ·have Ab:i<l.length:=by omega
   have d1:((i:Int)<(l.length:Int))=True:=Jq;have CU:=AU i I9 CJ;simp -implicitDefEqProofs only[go_sem,d1];refine anO ?_;refine Kb (gok rfl) (Qn _) ?_
   cases F9:Xg (l.getD i 0) with
   |true=>
    simp -implicitDefEqProofs only[go_sem];refine⟨Jh,i+1,⟨by omega,by omega⟩,by omega,?_⟩;simp[forget]
   |false=>
    rw[hq,qAt]at CU;by_cases BI:isLt c0=true
    ·rw[if_pos BI]at CU;simp only[KZ,F9,Gw]at CU;simp -implicitDefEqProofs only[go_sem];refine anO ?_;refine Kb (gok rfl) (Kr _) ?_;simp -implicitDefEqProofs only[go_sem,CU];refine anO ?_;rw[<-Dn];refine Kb (gok rfl) (Kr _) ?_;simp -implicitDefEqProofs only[go_sem,BI];refine⟨Jh,i+1,⟨by omega,by omega⟩,by omega,?_⟩;simp[forget]
    ·rw[if_neg BI,F9]at CU;cases CU
  ·have CB:i=E:=by omega
   subst CB;rcases (show l.length<=i\/(i<l.length/\Xg (l.getD i 0)=false/\isLt (l.getD i 0)=false)\/(i<l.length/\Xg (l.getD i 0)=false/\isLt (l.getD i 0)=true/\isLt c0=false) from by
    by_cases h1:i<l.length
    ·have h2:=AR h1;rw[hq,qAt]at h2;by_cases BI:isLt c0=true
     ·rw[if_pos BI]at h2;simp only[KZ,Gt]at h2;exact .inr (.inl ⟨h1,h2.2,h2.1⟩)
     ·rw[if_neg BI]at h2
      cases h3:isLt (l.getD i 0) with
      |true=>exact .inr (.inr ⟨h1,h2,rfl,by simpa using BI⟩)
      |false=>exact .inr (.inl ⟨h1,h2,rfl⟩)
    ·exact .inl (by omega)) with hw|⟨PD,Es,Ih⟩|⟨PD,Es,Ih,Pz⟩
   case' inl=>
    have d1:((i:Int)<(l.length:Int))=False:=Jo;simp -implicitDefEqProofs only[go_sem,d1,Ea]
   case' inr.inl=>
    have d1:((i:Int)<(l.length:Int))=True:=Jq;simp -implicitDefEqProofs only[go_sem,d1];refine anO ?_;refine Kb (gok rfl) (Qn _) ?_;simp -implicitDefEqProofs only[go_sem,Es];refine anO ?_;refine Kb (gok rfl) (Kr _) ?_;simp -implicitDefEqProofs only[go_sem,Ih,Ea]
   case' inr.inr=>
    have d1:((i:Int)<(l.length:Int))=True:=Jq;simp -implicitDefEqProofs only[go_sem,d1];refine anO ?_;refine Kb (gok rfl) (Qn _) ?_;simp -implicitDefEqProofs only[go_sem,Es];refine anO ?_;refine Kb (gok rfl) (Kr _) ?_;simp -implicitDefEqProofs only[go_sem,Ih];refine anO ?_;rw[<-Dn];refine Kb (gok rfl) (Kr _) ?_;simp -implicitDefEqProofs only[go_sem,Pz,Ea]
   all_goals (
    refine anO ?_;refine J6 (refSign l a ha hl) ?_;simp -implicitDefEqProofs only[go_sem,lxz,splice]
   )
theorem refAtL (l:List UInt8)(a:Nat)(ha:a<l.length)(hl:l.length<=1000000)(h1:isLt (l.getD a 0)=true):Fn Gb 78 [S l,.int .i64 (a:Int)] (.tup [.agg (lxz (tkL l a).1 (tkL l a).2.1 a),.int .i64 ((a+(tkL l a).2.1.length:Nat):Int),.bool (tkL l a).2.2]):=by
 refine Jc c78_ok rfl rfl λN=>?_
 simp -implicitDefEqProofs only[c78,go_sem];obtain⟨c0,Dn⟩:∃c,c=l.getD a 0:=⟨_,rfl⟩;obtain⟨q,hq⟩:∃q,q=qAt c0:=⟨_,rfl⟩;have Dt:q=KZ:=by rw[hq,qAt,Dn];first|rw[if_pos h1]|rw[if_neg (by rw[h1];simp)]
 obtain⟨E,hE⟩:∃E,E=Q0 q l a:=⟨_,rfl⟩;have Ul:E<=l.length:=by rw[hE];exact YH (Gf ha)
 have Um:a<=E:=by rw[hE];unfold Q0;omega
 have AU:∀i,a<=i->i<E->q (l.getD i 0)=true:=λi h1 h2=>Jgl _ a i rfl h1 (by rw[<-hE];exact h2) (by omega)
 have AR:E<l.length->q (l.getD E 0)=false:=λh=>by rw[hE]at h|-;exact JdA _ a rfl h
 have h2:=lt_dg h1;have aG:a<E:=by rw[hE,Dt];exact JbH ha (by simp only[KZ,h1,Gu])
 have hT:tkL l a=if kws.contains (cut l a E)=true then(1,cut l a E,true) else(2,cut l a E,decide ((cut l a E).length<=12)):=by
  unfold tkL;rw[if_pos h1,hE,Dt]
 have Aq:=JaZ Um Ul;have Cw:(l.take E).drop a=cut l a E:=rfl;rw[hT];have Ea:((E:Int) == (a:Int))=false:=by rw[beq_eq_false_iff_ne];omega
 refine JI (I:=λi:Nat=>a<=i/\i<=E) (inv:=λi=>gp [(0,S l),(0,.int .i64 (a:Int)),(2,.ptr 0 0 0),(2,.int .i64 (i:Int))] 69) (hp:=λ_=>[.arr 3 [[.int .u8 0,S [],.int .i64 0]]]) (μ:=λi=>l.length-i) a ⟨by omega,by omega⟩ ?_ rfl ?_
 ·simp[forget,gp]
 ·rintro i ⟨I9,hi⟩;by_cases CJ:i<E
  ·have Ab:i<l.length:=by omega
   have d1:((i:Int)<(l.length:Int))=True:=Jq;have CU:=AU i I9 CJ;simp -implicitDefEqProofs only[go_sem,d1];refine anO ?_;refine Kb (gok rfl) (Qn _) ?_
   cases F9:Xg (l.getD i 0) with
   |true=>
    simp -implicitDefEqProofs only[go_sem];refine⟨Jh,i+1,⟨by omega,by omega⟩,by omega,?_⟩;simp[forget]
   |false=>
    rw[hq,qAt]at CU;by_cases BI:isLt c0=true
    ·rw[if_pos BI]at CU;simp only[KZ,F9,Gw]at CU;simp -implicitDefEqProofs only[go_sem];refine anO ?_;refine Kb (gok rfl) (Kr _) ?_;simp -implicitDefEqProofs only[go_sem,CU];refine anO ?_;rw[<-Dn];refine Kb (gok rfl) (Kr _) ?_;simp -implicitDefEqProofs only[go_sem,BI];refine⟨Jh,i+1,⟨by omega,by omega⟩,by omega,?_⟩;simp[forget]
    ·rw[if_neg BI,F9]at CU;cases CU
  ·have CB:i=E:=by omega
   subst CB;rcases (show l.length<=i\/(i<l.length/\Xg (l.getD i 0)=false/\isLt (l.getD i 0)=false)\/(i<l.length/\Xg (l.getD i 0)=false/\isLt (l.getD i 0)=true/\isLt c0=false) from by
    by_cases h1:i<l.length
    ·have h2:=AR h1;rw[hq,qAt]at h2;by_cases BI:isLt c0=true
     ·rw[if_pos BI]at h2;simp only[KZ,Gt]at h2;exact .inr (.inl ⟨h1,h2.2,h2.1⟩)
     ·rw[if_neg BI]at h2
      cases h3:isLt (l.getD i 0) with
      |true=>exact .inr (.inr ⟨h1,h2,rfl,by simpa using BI⟩)
      |false=>exact .inr (.inl ⟨h1,h2,rfl⟩)
    ·exact .inl (by omega)) with hw|⟨PD,Es,Ih⟩|⟨PD,Es,Ih,Pz⟩
   case' inl=>
    have d1:((i:Int)<(l.length:Int))=False:=Jo;simp -implicitDefEqProofs only[go_sem,d1,Ea,Cw]
   case' inr.inl=>
    have d1:((i:Int)<(l.length:Int))=True:=Jq;simp -implicitDefEqProofs only[go_sem,d1];refine anO ?_;refine Kb (gok rfl) (Qn _) ?_;simp -implicitDefEqProofs only[go_sem,Es];refine anO ?_;refine Kb (gok rfl) (Kr _) ?_;simp -implicitDefEqProofs only[go_sem,Ih,Ea,Cw]
   case' inr.inr=>
    have d1:((i:Int)<(l.length:Int))=True:=Jq;simp -implicitDefEqProofs only[go_sem,d1];refine anO ?_;refine Kb (gok rfl) (Qn _) ?_;simp -implicitDefEqProofs only[go_sem,Es];refine anO ?_;refine Kb (gok rfl) (Kr _) ?_;simp -implicitDefEqProofs only[go_sem,Ih];refine anO ?_;rw[<-Dn];refine Kb (gok rfl) (Kr _) ?_;simp -implicitDefEqProofs only[go_sem,Pz,Ea,Cw]
   all_goals (
    refine⟨by omega,by omega,?_⟩;refine J6 (Qn _) ?_;simp -implicitDefEqProofs only[go_sem,h2];generalize hx:cut l a i=x at Aq|-;have fI:=refHas kws x (by decide);refine Ja7 [Foot.no,Foot.no,(.on [2],.on []),Foot.no,Foot.no] Js (by decide +kernel) ?_;refine⟨_,_,hs_f (.inl rfl) JeY,_,_,YK rfl rfl trivial,_,_,hs_ld (id:=1) (i:=0) (off:=1) rfl rfl ⟨Gg 1,(by decide:2<=3)⟩,_,_,hs_f (.inl rfl) fI,_,_,YK rfl rfl trivial,?_⟩;simp -implicitDefEqProofs only[vdf,go_sem,splice]
    cases hk:kws.contains x with
    |true=>
     simp -implicitDefEqProofs only[go_sem];rw[show a+x.length=i by omega];rfl
    |false=>
     have e12:decide ((x.length:Int)<=12)=decide (x.length<=12):=decide_eq_decide.2 (by omega);simp -implicitDefEqProofs only[go_sem];refine Ja7 [(.on [2],.on []),Foot.no,Foot.no,(.on [2],.on []),Foot.no,Foot.no,(.on [1],.on [1]),Foot.no,Foot.no] Js (by decide +kernel) ?_;refine⟨_,_,hs_ld (id:=1) (i:=0) (off:=0) rfl rfl ⟨Gg 1,Gg 3⟩,_,_,YK rfl rfl trivial,_,_,YK rfl rfl trivial,_,_,hs_ld (id:=1) (i:=0) (off:=1) rfl rfl ⟨Gg 1,(by decide:2<=3)⟩,_,_,YK rfl rfl trivial,_,_,YK rfl rfl trivial,_,_,hs_st (id:=0) (i:=0) (off:=0) rfl rfl rfl ⟨rfl,rfl⟩ ⟨Gg 1,Gg 3⟩,_,_,YK rfl rfl trivial,_,_,YK rfl rfl trivial,?_⟩;simp -implicitDefEqProofs only[vdf,go_sem,splice,e12];rw[show a+x.length=i by omega];rfl
   )
theorem refAtD (l:List UInt8)(a:Nat)(ha:a<l.length)(hl:l.length<=1000000)(h1:isLt (l.getD a 0)=false)(h2:Xg (l.getD a 0)=true):Fn Gb 78 [S l,.int .i64 (a:Int)] (.tup [.agg (lxz (tkL l a).1 (tkL l a).2.1 a),.int .i64 ((a+(tkL l a).2.1.length:Nat):Int),.bool (tkL l a).2.2]):=by
 refine Jc c78_ok rfl rfl λN=>?_
 simp -implicitDefEqProofs only[c78,go_sem];obtain⟨c0,Dn⟩:∃c,c=l.getD a 0:=⟨_,rfl⟩;obtain⟨q,hq⟩:∃q,q=qAt c0:=⟨_,rfl⟩;have Dt:q=Xg:=by rw[hq,qAt,Dn];first|rw[if_pos h1]|rw[if_neg (by rw[h1];simp)]
 obtain⟨E,hE⟩:∃E,E=Q0 q l a:=⟨_,rfl⟩;have Ul:E<=l.length:=by rw[hE];exact YH (Gf ha)
 have Um:a<=E:=by rw[hE];unfold Q0;omega
 have AU:∀i,a<=i->i<E->q (l.getD i 0)=true:=λi h1 h2=>Jgl _ a i rfl h1 (by rw[<-hE];exact h2) (by omega)
 have AR:E<l.length->q (l.getD E 0)=false:=λh=>by rw[hE]at h|-;exact JdA _ a rfl h
 have aG:a<E:=by rw[hE,Dt];exact JbH ha h2
 have hT:tkL l a=(3,cut l a E,JbK (cut l a E)):=by
  unfold tkL;rw[if_neg (by rw[h1];simp),if_pos h2,hE,Dt]
 have Aq:=JaZ Um Ul;have Cw:(l.take E).drop a=cut l a E:=rfl;have Aj:=run_all (q:=Xg) (Gf ha);rw[show Q0 Xg l a=E by rw[hE,Dt]]at Aj;rw[hT];have Ea:((E:Int) == (a:Int))=false:=by rw[beq_eq_false_iff_ne];omega
 refine JI (I:=λi:Nat=>a<=i/\i<=E) (inv:=λi=>gp [(0,S l),(0,.int .i64 (a:Int)),(2,.ptr 0 0 0),(2,.int .i64 (i:Int))] 69) (hp:=λ_=>[.arr 3 [[.int .u8 0,S [],.int .i64 0]]]) (μ:=λi=>l.length-i) a ⟨by omega,by omega⟩ ?_ rfl ?_
 ·simp[forget,gp]
 ·rintro i ⟨I9,hi⟩;by_cases CJ:i<E
  ·have Ab:i<l.length:=by omega
   have d1:((i:Int)<(l.length:Int))=True:=Jq;have CU:=AU i I9 CJ;simp -implicitDefEqProofs only[go_sem,d1];refine anO ?_;refine Kb (gok rfl) (Qn _) ?_
   cases F9:Xg (l.getD i 0) with
   |true=>
    simp -implicitDefEqProofs only[go_sem];refine⟨Jh,i+1,⟨by omega,by omega⟩,by omega,?_⟩;simp[forget]
   |false=>
    rw[hq,qAt]at CU;by_cases BI:isLt c0=true
    ·rw[if_pos BI]at CU;simp only[KZ,F9,Gw]at CU;simp -implicitDefEqProofs only[go_sem];refine anO ?_;refine Kb (gok rfl) (Kr _) ?_;simp -implicitDefEqProofs only[go_sem,CU];refine anO ?_;rw[<-Dn];refine Kb (gok rfl) (Kr _) ?_;simp -implicitDefEqProofs only[go_sem,BI];refine⟨Jh,i+1,⟨by omega,by omega⟩,by omega,?_⟩;simp[forget]
    ·rw[if_neg BI,F9]at CU;cases CU
  ·have CB:i=E:=by omega
   subst CB;rcases (show l.length<=i\/(i<l.length/\Xg (l.getD i 0)=false/\isLt (l.getD i 0)=false)\/(i<l.length/\Xg (l.getD i 0)=false/\isLt (l.getD i 0)=true/\isLt c0=false) from by
    by_cases h1:i<l.length
    ·have h2:=AR h1;rw[hq,qAt]at h2;by_cases BI:isLt c0=true
     ·rw[if_pos BI]at h2;simp only[KZ,Gt]at h2;exact .inr (.inl ⟨h1,h2.2,h2.1⟩)
     ·rw[if_neg BI]at h2
      cases h3:isLt (l.getD i 0) with
      |true=>exact .inr (.inr ⟨h1,h2,rfl,by simpa using BI⟩)
      |false=>exact .inr (.inl ⟨h1,h2,rfl⟩)
    ·exact .inl (by omega)) with hw|⟨PD,Es,Ih⟩|⟨PD,Es,Ih,Pz⟩
   case' inl=>
    have d1:((i:Int)<(l.length:Int))=False:=Jo;simp -implicitDefEqProofs only[go_sem,d1,Ea,Cw]
   case' inr.inl=>
    have d1:((i:Int)<(l.length:Int))=True:=Jq;simp -implicitDefEqProofs only[go_sem,d1];refine anO ?_;refine Kb (gok rfl) (Qn _) ?_;simp -implicitDefEqProofs only[go_sem,Es];refine anO ?_;refine Kb (gok rfl) (Kr _) ?_;simp -implicitDefEqProofs only[go_sem,Ih,Ea,Cw]
   case' inr.inr=>
    have d1:((i:Int)<(l.length:Int))=True:=Jq;simp -implicitDefEqProofs only[go_sem,d1];refine anO ?_;refine Kb (gok rfl) (Qn _) ?_;simp -implicitDefEqProofs only[go_sem,Es];refine anO ?_;refine Kb (gok rfl) (Kr _) ?_;simp -implicitDefEqProofs only[go_sem,Ih];refine anO ?_;rw[<-Dn];refine Kb (gok rfl) (Kr _) ?_;simp -implicitDefEqProofs only[go_sem,Pz,Ea,Cw]
   all_goals (
    refine⟨by omega,by omega,?_⟩;refine J6 (Qn _) ?_;simp -implicitDefEqProofs only[go_sem,h2];generalize hx:cut l a i=x at Aq Aj|-;have Ov:=refNumber x Aj (by omega);have fA:=numV_ok x;refine Ja7 [(.on [2],.on []),Foot.no,Foot.no,(.on [2],.on []),Foot.no,Foot.no,(.on [1],.on [1]),Foot.no,Foot.no] Js (by decide +kernel) ?_;refine⟨_,_,hs_ld (id:=1) (i:=0) (off:=0) rfl rfl ⟨Gg 1,Gg 3⟩,_,_,YK rfl rfl trivial,_,_,YK rfl rfl trivial,_,_,hs_ld (id:=1) (i:=0) (off:=1) rfl rfl ⟨Gg 1,(by decide:2<=3)⟩,_,_,hs_f (.inl rfl) Ov,_,_,YK rfl rfl trivial,_,_,hs_st (id:=0) (i:=0) (off:=0) rfl rfl rfl ⟨rfl,rfl⟩ ⟨Gg 1,Gg 3⟩,_,_,YK rfl rfl trivial,_,_,YK rfl rfl trivial,?_⟩;simp -implicitDefEqProofs only[vdf,go_sem,splice,fA];rw[show a+x.length=i by omega];rfl
   )
theorem refAt (l:List UInt8)(a:Nat)(ha:a<l.length)(hl:l.length<=1000000):Fn Gb 78 [S l,.int .i64 (a:Int)] (.tup [.agg (lxz (tkL l a).1 (tkL l a).2.1 a),.int .i64 ((a+(tkL l a).2.1.length:Nat):Int),.bool (tkL l a).2.2]):=by
 cases h1:isLt (l.getD a 0) with
 |true=>exact refAtL l a ha hl h1
 |false=>cases h2:Xg (l.getD a 0) with
  |true=>exact refAtD l a ha hl h1 h2
  |false=>exact refAtS l a ha hl h1 h2
end
section
def lxr (l:List (Nat×List UInt8×Nat)):List (List CV):=l.map λt=>lxz t.1 t.2.1 t.2.2
theorem QT {l:List (Nat×List UInt8×Nat)}:(lxr l).length=l.length:=by simp[lxr]
theorem JcR:∀(l:List (Nat×List UInt8×Nat)),Jr (lxr l)=true
 |[]=>rfl
 |x::l=>by simp[lxr,lxz,Jr,Jp,CV.closed];exact JcR l
theorem lxr_app {l:List (Nat×List UInt8×Nat)}{t:Nat×List UInt8×Nat}:lxr (l++[t])=lxr l++[lxz t.1 t.2.1 t.2.2]:=by simp[lxr]
theorem tk_len {l:List UInt8}{a:Nat}(ha:a<l.length)(h:(tkL l a).2.2=true):0<(tkL l a).2.1.length:=by
 unfold tkL at h|-;by_cases h1:isLt (l.getD a 0)=true
 ·have h2:=JbH (q:=KZ) ha (by simp only[KZ,h1,Gu]);have h3:=JaZ (Gf h2) (YH (q:=KZ) (Gf ha));rw[if_pos h1]at h|-
  split <;> (simp only;omega)
 ·rw[if_neg h1]at h|-;by_cases h2:Xg (l.getD a 0)=true
  ·have h4:=JbH (q:=Xg) ha h2;have h3:=JaZ (Gf h4) (YH (q:=Xg) (Gf ha));rw[if_pos h2]at h|-;simp only;omega
  ·rw[if_neg h2]at h|-;simp only[GU,beq_eq_false_iff_ne]at h|-;exact GA.2 h
theorem sgn_in {r:List UInt8}:∀(L:List (List UInt8)) (b:List UInt8),b.length<=r.length->(sgnF r L b).length<=r.length
 |[],b,h=>h
 |s::L,b,h=>by
  simp only[sgnF];refine sgn_in L _ ?_
  split
  ·rename_i hc;have:=congrArg GR hc.1;rw[Gs]at this;omega
  ·exact h
theorem tk_end {l:List UInt8}{a:Nat}(ha:a<l.length):a+(tkL l a).2.1.length<=l.length:=by
 unfold tkL;by_cases h1:isLt (l.getD a 0)=true
 ·have h2:=JbH (q:=KZ) ha (by simp only[KZ,h1,Gu]);have h4:=YH (q:=KZ) (Gf ha);have h3:=JaZ (Gf h2) h4;rw[if_pos h1]
  split <;> (simp only;omega)
 ·rw[if_neg h1];by_cases h2:Xg (l.getD a 0)=true
  ·have h5:=JbH (q:=Xg) ha h2;have h4:=YH (q:=Xg) (Gf ha);have h3:=JaZ (Gf h5) h4;rw[if_pos h2];simp only;omega
  ·rw[if_neg h2];have:=sgn_in (r:=l.drop a) sgs [] (by simp);rw[GG]at this;show a+(sgnF (l.drop a) sgs []).length<=l.length;omega
section
variable {P:Program}
theorem YO {l l':List CV}(h:wks l l'):wk (.tup l) (.tup l'):=by
 rintro own imm v ⟨vs,rfl,hr⟩;exact⟨vs,rfl,Y2 h hr⟩
theorem Jc3 {l l':List CV}(h:wks l l'):wk (.agg l) (.agg l'):=by
 rintro own imm v ⟨vs,rfl,hr⟩;exact⟨vs,rfl,Y2 h hr⟩
theorem JaS {f:Nat}{args:List CV}{v0:CV}(h:CallsC P Env.none f args [] λv H'=>wk v v0\/∃id z els,H'[id]? = some (.arr z els)/\Jr els=true/\wk (frz id z els v) v0)(ha:Jp args=true)(hv:v0.closed=true):Fn P f args v0:=by
 refine JgS ?_ ha hv;intro m w vs hs BA;refine(h m w vs hs BA).mono ?_;rintro e w' ⟨r,m',v,H',h1,h2,h3,h4,g⟩;rcases g with g|⟨id,z,els,g1,hc,g⟩
 ·exact⟨r,m',v0,H',h1,h2,h3,g _ _ _ h4,rfl⟩
 ·obtain⟨imm',Az,he,hf⟩:=Sim.freeze (n0:=([]:List CObj).length) h3 g1 hc;exact⟨r,_,_,_,h1,h2.trans he,Az,g _ _ _ (hf _ _ h4),rfl⟩
end
theorem JdB {z:Nat}{els:List (List CV)}{id n:Nat}{cap:Option Nat}{x y:CV}(hx:x.closed=true)(hy:y.closed=true)(hn:n=els.length):wk (frz id z els (.tup [.slc id 0 n cap,x,y])) (.tup [.rslc z els none,x,y]):=by
 subst hn;simp only[frz,JX,if_true,Gx,Gg,GK,Gq,XN x hx,XN y hy];exact YO ⟨wk.rslc,wk.refl _,wk.refl _,trivial⟩
theorem refRead (l:List UInt8)(hl:l.length<=1000000):Fn Gb 59 [S l] (.tup [.rslc 3 (lxr (JaK l).1) none,.int .i64 ((JaK l).2.1:Nat),.int .i64 (JaK l).2.2]):=by
 refine JaS ?_ rfl rfl;refine J8 c59_ok λN=>?_
 simp -implicitDefEqProofs only[c59,go_sem];refine J6 (refLexCheck l hl) ?_;simp -implicitDefEqProofs only[go_sem]
 cases he:((X7 l).2 != 0) with
 |true=>
  have Ex:(X7 l).2≠0:=by simpa using he
  have hr:JaK l=([],(X7 l).1,(X7 l).2):=by unfold JaK;rw[if_pos Ex]
  rw[hr];simp -implicitDefEqProofs only[go_sem];exact .inr ⟨0,3,[],rfl,rfl,JdB rfl rfl rfl⟩
 |false=>
  have Ex:(X7 l).2=0:=by simpa using he
  have hr:JaK l=rdF l (l.length+1) 0 []:=by unfold JaK;rw[if_neg (by simp[Ex])]
  rw[hr];obtain⟨R,hR⟩:∃R,R=rdF l (l.length+1) 0 []:=⟨_,rfl⟩;rw[<-hR];simp -implicitDefEqProofs only[go_sem];refine J6 (refGap l 0 (Nat.zero_le _) hl) ?_;simp -implicitDefEqProofs only[go_sem];refine Jw (σ:=Nat×Nat×List (Nat×List UInt8×Nat)) (I:=λs=>s.2.1<=l.length/\l.length+1<=s.1+s.2.1/\s.2.2.length<=900/\R=rdF l s.1 s.2.1 s.2.2)
   (inv:=λs=>gp [(0,S l),(6,.slc 0 0 (lxr s.2.2).length (JbT (lxr s.2.2))),(0,.int .i64 (YM l s.2.1:Nat))] 45) (hp:=λs=>[.arr 3 (lxr s.2.2)]) (μ:=λs=>s.1) (l.length+1,0,[]) [0] ⟨by simp,by simp,by simp,hR⟩ rfl ?_ rfl ?_
  ·simp[forget,JB,ren,Jm,gp,lxr,JbT]
  ·rintro⟨n,b,acc⟩ ⟨h1,h2,h3,Aa⟩
   dsimp only at h1 h2 h3 Aa|-
   have Ci:=gapE_ge l b;by_cases Ab:YM l b<l.length
   ·have d1:(((YM l b:Nat):Int)<(l.length:Int))=True:=Jq;obtain⟨n,rfl⟩:∃n',n=n' + 1:=⟨n-1,by omega⟩;rw[rdF,if_pos Ab]at Aa;have hT:=refAt l (YM l b) Ab hl;have Dz:=tk_len Ab;have SC:=tk_end Ab;generalize YM l b=at_ at *
    simp -implicitDefEqProofs only[go_sem,d1];refine J6 hT ?_;clear hT;generalize tkL l at_=T at Aa Dz SC|-
    obtain⟨k,x,ok⟩:=T
    dsimp only at Aa Dz SC|-
    cases ok with
    |false=>
     rw[if_neg (by simp)]at Aa;rw[Aa];simp -implicitDefEqProofs only[go_sem,lxz,splice];exact .inr ⟨2,3,[],rfl,rfl,JdB rfl rfl rfl⟩
    |true=>
     rw[if_pos rfl]at Aa;by_cases h9:acc.length=900
     ·have d2:(((lxr acc).length:Int) == 900)=true:=by rw[beq_iff_eq,QT];omega
      rw[if_pos h9]at Aa;rw[Aa];simp -implicitDefEqProofs only[go_sem,lxz,splice,d2];exact .inr ⟨2,3,[],rfl,rfl,JdB rfl rfl rfl⟩
     ·have d2:(((lxr acc).length:Int) == 900)=false:=by rw[beq_eq_false_iff_ne,QT];omega
      rw[if_neg h9]at Aa;simp -implicitDefEqProofs only[go_sem,lxz,splice,d2,Jy];refine⟨⟨by rw[QT];omega,by rw[QT];omega⟩,?_⟩;have hG:=refGap l (at_+x.length) SC hl;refine J6 hG ?_;simp -implicitDefEqProofs only[go_sem];have Iq:=Dz rfl;have gU:JbT (lxr (acc++[(k,x,at_)]))=none:=by rw[lxr_app,Jaj]
      have Am:(lxr acc).length+1=(lxr (acc++[(k,x,at_)])).length:=by simp[QT]
      refine⟨(n,at_+x.length,acc++[(k,x,at_)]),[3],⟨SC,by simp only;omega,by simp;omega,Aa⟩,by simp only;omega,rfl,?_,?_⟩
      ·simp only[Kl,Gm,Gv,go_sem,Jk];have hc:=Ja (ρ:=[3]) (JcR (acc++[(k,x,at_)]));rw[lxr_app]at hc|-;simp only[lxz]at hc|-;rw[hc]
      ·simp only[gU,Am];simp[forget,JB,ren,Jm]
   ·have d1:(((YM l b:Nat):Int)<(l.length:Int))=False:=Jo;have OY:R=(acc,0,0):=by
     rw[Aa]
     cases n with
     |zero=>rfl
     |succ n=>rw[rdF,if_neg Ab]
    rw[OY];simp -implicitDefEqProofs only[go_sem,d1];exact .inr ⟨0,3,lxr acc,rfl,JcR _,JdB rfl rfl rfl⟩
theorem refKind (l:List UInt8)(hl:l.length<=1000000):Fn Gb 68 [S l] (.int .u8 (kindR l)):=by
 refine Jc c68_ok rfl rfl λN=>?_
 simp -implicitDefEqProofs only[c68,go_sem];refine J6 (refRead l hl) ?_;simp -implicitDefEqProofs only[go_sem];unfold kindR;obtain⟨ts,p,e⟩:=JaK l;simp only
 cases he:(e != 0) with
 |true=>
  have Ex:e≠0:=by simpa using he
  simp -implicitDefEqProofs only[go_sem]
  split
  ·rename_i h;cases h;rw[if_neg (λh=>Ex h.1)];rfl
  ·rfl
 |false=>
  have Ex:e=0:=by simpa using he
  subst Ex
  match ts with
  |[]=>
   simp -implicitDefEqProofs only[go_sem,QT,GI]
  |t::u::r=>
   have hn:(((r.length+1+1:Nat):Int) != 1)=true:=by rw[bne_iff_ne];omega
   simp -implicitDefEqProofs only[go_sem,QT,hn]
  |[t]=>
   obtain⟨k,x,a⟩:=t;by_cases hx:x=l
   ·have e1:(x == l)=true:=by simp[hx]
    simp -implicitDefEqProofs only[go_sem,lxr,lxz,Gm,Gv,e1,show (((1:Nat):Int) != 1)=false from rfl];simp[hx]
   ·have e1:(x == l)=false:=by simp[hx]
    simp -implicitDefEqProofs only[go_sem,lxr,lxz,Gm,Gv,e1,show (((1:Nat):Int) != 1)=false from rfl];simp[hx]
end
theorem Jbo (n a b:Int):Fn Gb 45 [.int .i64 n,.int .i64 a,.int .i64 b] (.bool (inI a b n)):=by
 refine Jc c45_ok rfl rfl λN=>?_
 simp +contextual -implicitDefEqProofs only[c45,go_sem,inI]
def inN (a b k:Nat):Bool:=decide (a<=k) && decide (k<=b)
theorem natle (a k:Nat):decide ((a:Int)<=(k:Int))=decide (a<=k):=decide_eq_decide.2 (by omega)
theorem Jdq (a k:Nat):((k:Int) == (a:Int))=(k == a):=by
 rw[Gh];simp;omega
theorem refIsExpr (k:Nat):Fn Gb 10 [.int .u8 k] (.bool (inN 1 29 k)):=by
 refine Jc c10_ok rfl rfl λN=>?_
 have h1:=natle 1 k;have h2:=natle k 29;simp only[Ga]at h1 h2;simp +contextual -implicitDefEqProofs only[c10,go_sem,inN];refine⟨λh=>?_,λh=>?_⟩
 ·congr 1;rw[Gh];simp;omega
 ·congr 1;rw[Gh];simp;omega
theorem refIsType (k:Nat):Fn Gb 133 [.int .u8 k] (.bool (inN 60 63 k)):=by
 refine Jc c133_ok rfl rfl λN=>?_
 simp +contextual -implicitDefEqProofs only[c133,go_sem,inN];refine⟨λh=>?_,λh=>?_⟩
 ·congr 1;rw[Gh];simp;omega
 ·congr 1;rw[Gh];simp;omega
theorem refIsPart (k:Nat):Fn Gb 134 [.int .u8 k] (.bool (k == 46 || k == 47)):=by
 refine Jc c134_ok rfl rfl λN=>?_
 simp +contextual -implicitDefEqProofs only[c134,go_sem];refine⟨λh=>?_,λh=>?_⟩
 ·congr 1;rw[Gh];simp at h|-;omega
 ·congr 1;rw[Gh];simp at h|-;omega
def isR (k c:Nat):Bool:=if c=200 then inN 1 29 k else if c=201 then inN 60 63 k else if c=202 then(k == 46 || k == 47) else k == c
theorem refIs (t:Tr)(n:Int)(c:Nat)(h0:0<=n)(h1:n<t.nodes.length):Fn Gb 98 [t.cv,.int .i64 n,.int .u8 c] (.bool (isR (Jv t.nodes n) c)):=by
 have Ab:n.toNat<t.nodes.length:=by omega
 have hk:Jv t.nodes n=(t.nodes.getD n.toNat default).k:=rfl;refine Jc c98_ok rfl rfl λN=>?_
 simp +contextual -implicitDefEqProofs only[c98,go_sem,Tr.cv,Tr.row,Jb];rw[Qu Ab];refine anO ?_;simp +contextual -implicitDefEqProofs only[go_sem,Nd.cv];rw[<-hk];generalize Jv t.nodes n=k;have q0:=Jdq 200 c;have q1:=Jdq 201 c;have q2:=Jdq 202 c;simp only[Ga]at q0 q1 q2;unfold isR;by_cases e0:c=200
 ·subst e0;simp +contextual -implicitDefEqProofs only[go_sem,Ga];refine J6 (refIsExpr k) ?_;simp +contextual -implicitDefEqProofs only[go_sem]
 ·have q0':((c:Int) == 200)=false:=by rw[q0];simpa using e0
  rw[if_neg e0];by_cases e1:c=201
  ·subst e1;simp +contextual -implicitDefEqProofs only[go_sem,Ga];refine J6 (refIsType k) ?_;simp +contextual -implicitDefEqProofs only[go_sem]
  ·have q1':((c:Int) == 201)=false:=by rw[q1];simpa using e1
   rw[if_neg e1];by_cases e2:c=202
   ·subst e2;simp +contextual -implicitDefEqProofs only[go_sem,Ga];refine J6 (refIsPart k) ?_;simp +contextual -implicitDefEqProofs only[go_sem]
   ·have q2':((c:Int) == 202)=false:=by rw[q2];simpa using e2
    rw[if_neg e2];have q3:=Jdq c k;simp +contextual -implicitDefEqProofs only[go_sem,q0',q1',q2',q3]
def kinds (l:List Nd)(x:Nd):List Nat:=x.kids.map (Jv l)
theorem kinds_get {l:List Nd}{x:Nd}{j:Nat}(h:j<x.kids.length):(kinds l x)[j]? = some (Jv l (x.kids.getD j 0)):=by
 simp[kinds,Gc,Gd h]
def kidsR (ks:List Nat)(a b:Int)(c:Nat):Bool:=decide (0<=a) && decide (a<=b) && decide (b<=ks.length) && ((ks.take b.toNat).drop a.toNat).all λk=>isR k c
theorem refKids (t:Tr)(x:Nd)(hx:x.Fit)(hm:t.nodes.length<=1400)(hk:∀k∈x.kids,0<=k/\k<t.nodes.length)(a b:Int)(c:Nat) :
  Fn Gb 66 [t.cv,.agg x.cv,.int .i64 a,.int .i64 b,.int .u8 c] (.bool (kidsR (kinds t.nodes x) a b c)):=by
 have Ay:(kinds t.nodes x).length=x.kids.length:=by simp[kinds]
 have BJ:=hx.kidn;refine Jc c66_ok rfl rfl λN=>?_
 by_cases hA:a<0\/b<a\/(x.kids.length:Int)<b
 ·have hr:kidsR (kinds t.nodes x) a b c=false:=by
   unfold kidsR;rw[Ay];rw[Bool.eq_false_iff];intro h;simp only[Gj,decide_eq_true_eq]at h;omega
  rw[hr];by_cases h1:a<0
  ·have d1:(a<0)=True:=eq_true h1;simp +contextual -implicitDefEqProofs only[c66,go_sem,Tr.cv,Tr.row,Nd.cv,d1]
  ·have d1:(a<0)=False:=eq_false h1;by_cases h2:b<a
   ·have d2:(b<a)=True:=eq_true h2;simp +contextual -implicitDefEqProofs only[c66,go_sem,Tr.cv,Tr.row,Nd.cv,d1,d2]
   ·have d2:(b<a)=False:=eq_false h2;have d3:((x.kids.length:Int)<b)=True:=Jq;simp +contextual -implicitDefEqProofs only[c66,go_sem,Tr.cv,Tr.row,Nd.cv,d1,d2,Jg,d3]
 ·have d1:(a<0)=False:=Jo;have d2:(b<a)=False:=Jo;have d3:((x.kids.length:Int)<b)=False:=Jo;have hr:kidsR (kinds t.nodes x) a b c=((kinds t.nodes x).take b.toNat |>.drop a.toNat).all λk=>isR k c:=by
   unfold kidsR;rw[Ay,decide_eq_true (show 0<=a by omega),decide_eq_true (show a<=b by omega),decide_eq_true (show b<=(x.kids.length:Int) by omega)];rfl
  rw[hr];simp +contextual -implicitDefEqProofs only[c66,go_sem,Tr.cv,Tr.row,Nd.cv,Jg,d1,d2,d3];refine Jd (id:=0) (z:=2) (els:=[t.row]) rfl rfl ?_;simp only[go_sem,JX,Ku,frz,Qa];refine Jd (id:=1) (z:=5) (els:=[x.cv]) rfl rfl ?_;simp only[go_sem,JX,Ku,frz,Qa];generalize hL:(kinds t.nodes x).take b.toNat=L;have cK:L.length=b.toNat:=by rw[<-hL];simp[Ay];omega
  refine JI (I:=λi:Nat=>a.toNat<=i/\i<=b.toNat/\(L.drop a.toNat).all (λk=>isR k c)=(L.drop i).all λk=>isR k c) (inv:=λi=>gp [(3,.int .i64 b),(0,.int .u8 c),(0,.rptr t.row),(0,.rptr x.cv),(4,.int .i64 i)] 29) (hp:=λ_=>[.dead,.dead]) (μ:=λi=>b.toNat-i) a.toNat ⟨by omega,by omega,rfl⟩ ?_ rfl ?_
  ·have:((a.toNat:Nat):Int)=a:=by omega
   simp[forget,gp,this]
  ·rintro i ⟨h1,h2,Aa⟩;by_cases Ab:i<b.toNat
   ·have d4:((i:Int)<b)=True:=Jq;have Ub:i<x.kids.length:=by omega
    have AB:x.kids.getD i 0∈x.kids:=by
     rw[Gc,Gd Ub];exact Gl Ub
    have hb:=hk _ AB;have Sn:L[i]? = some (Jv t.nodes (x.kids.getD i 0)):=by
     rw[<-hL,GD,if_pos Ab,kinds_get Ub]
    have Sm:=(Gn.1 Sn).1;rw[Gi Sm,(Gn.1 Sn).2,GN]at Aa;simp +contextual -implicitDefEqProofs only[go_sem,d4];refine JV Js (by decide) ?_;simp only[go_sem,Tr.row,Nd.cv,Jg];rw[JN Ub];refine anO ?_;simp only[go_sem];refine J9 (.inl rfl) (refIs t _ c hb.1 hb.2) ?_;simp only[go_sem]
    cases hq:isR (Jv t.nodes (x.kids.getD i 0)) c with
    |false=>
     rw[hq]at Aa;simp +contextual -implicitDefEqProofs only[go_sem];rw[Aa];rfl
    |true=>
     rw[hq]at Aa;simp +contextual -implicitDefEqProofs only[go_sem];refine⟨Jh,i+1,⟨by omega,by omega,by simpa using Aa⟩,by omega,?_⟩;simp[forget]
   ·have d4:((i:Int)<b)=False:=Jo;simp +contextual -implicitDefEqProofs only[go_sem,d4];rw[Aa,Gp (by omega)];rfl
theorem refLimits (t:Tr):Fn Gb 44 [t.cv] (.bool (decide (¬(700<t.nodes.length\/20<t.items.length)))):=by
 refine Jc c44_ok rfl rfl λN=>?_
 simp +contextual -implicitDefEqProofs only[c44,go_sem,Tr.cv,Tr.row,Jg,Jb];refine⟨λh=>?_,λh=>?_⟩
 ·congr 1
  exact decide_eq_decide.2 (by omega)
 ·congr 1
  symm
  rw[decide_eq_false_iff_not];omega
theorem refMany (t:Tr)(x:Nd)(hx:x.Fit)(hk:∀k∈x.kids,0<=k/\k<t.nodes.length)(c:Nat) :
  Fn Gb 67 [t.cv,.agg x.cv,.int .u8 c] (.int .i64 ((kinds t.nodes x).count c:Nat)):=by
 have Ay:(kinds t.nodes x).length=x.kids.length:=by simp[kinds]
 have BJ:=hx.kidn;refine Jc c67_ok rfl rfl λN=>?_
 simp +contextual -implicitDefEqProofs only[c67,go_sem,Tr.cv,Tr.row,Nd.cv];refine Jd (id:=0) (z:=2) (els:=[t.row]) rfl rfl ?_;simp only[go_sem,JX,Ku,frz,Qa];refine Jd (id:=1) (z:=5) (els:=[x.cv]) rfl rfl ?_;simp only[go_sem,JX,Ku,frz,Qa];generalize hL:kinds t.nodes x=L at Ay;refine JI (I:=λi:Nat=>i<=L.length) (inv:=λi=>gp [(2,.int .u8 c),(0,.rptr t.row),(0,.rptr x.cv),(2,.int .i64 ((L.take i).count c:Nat)),(0,.int .i64 i)] 22) (hp:=λ_=>[.dead,.dead]) (μ:=λi=>L.length-i) 0 (by omega) ?_ rfl ?_
 ·simp[forget,gp]
 ·intro i hi;have hc:=List.count_le_length (a:=c) (l:=L.take i);rw[Gs]at hc;by_cases Ab:i<x.kids.length
  ·have d4:((i:Int)<(x.kids.length:Int))=True:=Jq;have AB:x.kids.getD i 0∈x.kids:=by
    rw[Gc,Gd Ab];exact Gl Ab
   have hb:=hk _ AB;have Sn:L[i]? = some (Jv t.nodes (x.kids.getD i 0)):=by rw[<-hL,kinds_get Ab]
   have Sm:=(Gn.1 Sn).1;have CZ:(L.take (i+1)).count c=(L.take i).count c+if Jv t.nodes (x.kids.getD i 0) == c then 1 else 0:=by
    rw[List.take_add_one,Sn,List.count_append];simp[List.count_singleton]
   simp +contextual -implicitDefEqProofs only[go_sem,Nd.cv,Jg,d4];refine JV Js (by decide) ?_;simp only[go_sem,Tr.row,Jg];rw[JN Ab];refine anO ?_;simp only[go_sem,Jb];rw[Qu (by omega)];refine anO ?_;simp only[go_sem,Nd.cv];rw[show ((t.nodes.getD (x.kids.getD i 0).toNat default).k:Int)=(Jv t.nodes (x.kids.getD i 0):Int) from rfl,Jdq]
   cases hq:(Jv t.nodes (x.kids.getD i 0) == c) with
   |false=>
    rw[hq]at CZ;simp +contextual -implicitDefEqProofs only[go_sem];refine⟨Jh,i+1,by omega,by omega,?_⟩;rw[CZ];simp[forget]
   |true=>
    rw[hq]at CZ;simp +contextual -implicitDefEqProofs only[go_sem];refine⟨Jh,Jh,i+1,by omega,by omega,?_⟩;rw[CZ];simp[forget]
  ·have d4:((i:Int)<(x.kids.length:Int))=False:=Jo;have:i=L.length:=by omega
   subst this;simp +contextual -implicitDefEqProofs only[go_sem,Nd.cv,Jg,d4,Gq]
theorem refFirst (t:Tr){m:Nat}{o:List Int}(ho:Jz ((JH t.nodes).take m) []=some o)(hm:m<=t.nodes.length)(n:Nat)(hn:n<m) :
  Fn Gb 37 [t.cv,.int .i64 (n:Int)] (.int .i64 (fs o n)):=by
 refine Jc c37_ok rfl rfl λN=>?_
 simp +contextual -implicitDefEqProofs only[c37,go_sem,Tr.cv,Tr.row];refine Jd (id:=0) (z:=2) (els:=[t.row]) rfl rfl ?_;simp only[go_sem,JX,Ku,frz,Qa];refine JI (I:=λi:Nat=>i<m/\fs o n=fs o i) (inv:=λi=>gp [(1,.int .i64 (i:Int)),(0,.rptr t.row)] 19) (hp:=λ_=>[.dead]) (μ:=λi=>i) n ⟨hn,rfl⟩ ?_ rfl ?_
 ·simp[forget,gp]
 ·rintro i ⟨hi,Aa⟩;have Ab:i<t.nodes.length:=by omega
  have hK:((JH t.nodes).take m)[i]? = some (t.nodes.getD i default).kids:=by
   rw[GD,if_pos hi,Ka Ab]
  have hg:=Qu Ab;generalize t.nodes.getD i default=x at hK hg;simp +contextual -implicitDefEqProofs only[go_sem,Tr.row,Jb,hg,Nd.cv,Jg];refine anO ?_
  cases hk:x.kids with
  |nil=>
   rw[hk]at hK;have:=firstsF_leaf ho hK;simp +contextual -implicitDefEqProofs only[go_sem];rw[Aa];unfold fs;rw[Gy,this]
  |cons k ks=>
   rw[hk]at hK;obtain⟨h1,h2⟩:=firstsF_kid ho hK;have h3:=XD ho hK k (by simp);have d4:((0:Int)<((ks.length+1:Nat):Int))=True:=Jq;simp +contextual -implicitDefEqProofs only[go_sem,d4,iz,Gm];have BJ:((k.toNat:Nat):Int)=k:=by omega
   refine⟨by omega,k.toNat,⟨by omega,?_⟩,by omega,?_⟩
   ·rw[Aa];unfold fs;rw[Gy,Gy,h1]
   ·rw[BJ];simp[forget]
theorem Jfr (t:Tr){m:Nat}{o:List Int}(ho:Jz ((JH t.nodes).take m) []=some o)(hm:m<=t.nodes.length)(Cr:t.nodes.length<=1400)(l:List Int)(hl:l.length<=1000)(e:Nat)(he:e<=m) :
  Fn Gb 46 [t.cv,.rslc 1 (iz l) none,.int .i64 (e:Int)] (.tup [.int .i64 (Je8 (fs o) l.reverse e).1,.bool (Je8 (fs o) l.reverse e).2]):=by
 have Ap:=QE _ _ _ QX.nil ho;have Be:=Qy _ _ _ ho;simp only[GI,Gx,Gs,JH,List.length_map]at Be;refine Jc c46_ok rfl rfl λN=>?_
 simp +contextual -implicitDefEqProofs only[c46,go_sem,Tr.cv,Tr.row,Jg];refine⟨Jh,?_⟩;refine Jd (id:=0) (z:=2) (els:=[t.row]) rfl rfl ?_;simp only[go_sem,JX,Ku,frz,Qa];refine JI (σ:=Nat×Nat) (I:=λs=>s.1<=l.length/\s.2<=m/\Je8 (fs o) l.reverse e=Je8 (fs o) (l.take s.1).reverse s.2) (inv:=λs=>gp [(1,.rslc 1 (iz l) none),(0,.int .i64 (s.2:Int)),(0,.rptr t.row),(4,.int .i64 ((s.1:Int)-1))] 29) (hp:=λ_=>[.dead]) (μ:=λs=>s.1) (l.length,e) ⟨by simp,he,by simp⟩ ?_ rfl ?_
 ·simp[forget,gp]
 ·rintro⟨j,q⟩ ⟨hj,hq,Aa⟩
  dsimp only at hj hq Aa
  cases j with
  |zero=>
   simp only[List.take_zero,List.reverse_nil,Je8]at Aa;have d1:((0:Int)<=((0:Nat):Int)-1)=False:=Jo;simp +contextual -implicitDefEqProofs only[go_sem,Aa]
  |succ j=>
   have A8:j<l.length:=by omega
   have E9:(l.take (j+1)).reverse=l.getD j 0::(l.take j).reverse:=by
    rw[Gz A8,List.reverse_append,Gc,Gd A8];rfl
   rw[E9,Je8]at Aa;have SB:(((j+1:Nat):Int)-1).toNat=j:=by omega
   have d1:((0:Int)<=((j+1:Nat):Int)-1)=True:=Jq;have Av:=JN A8;generalize l.getD j 0=k at Aa Av;by_cases hc:k≠(q:Int)-1\/k<0
   ·rw[if_pos hc]at Aa;by_cases C8:k=(q:Int)-1
    ·have e1:(k != (q:Int)-1)=false:=by simp[C8]
     have e2:(k<0)=True:=Jq;simp +contextual -implicitDefEqProofs only[go_sem,d1,Jg,SB,Av,e1,e2,Aa];exact⟨by omega,Jh,by omega⟩
    ·have e1:(k != (q:Int)-1)=true:=by simp[C8]
     simp +contextual -implicitDefEqProofs only[go_sem,d1,Jg,SB,Av,e1,Aa];exact⟨by omega,Jh⟩
   ·rw[if_neg hc]at Aa;have C8:k=(q:Int)-1:=by omega
    have e1:(k != (q:Int)-1)=false:=by simp[C8]
    have e2:(k<0)=False:=Jo;have Ay:k.toNat<m:=by omega
    have FL:((k.toNat:Nat):Int)=k:=by omega
    have hf:=JgP Ap (i:=k) (by omega) (by rw[Be];omega);have Bg:((fs o k).toNat:Int)=fs o k:=by omega
    simp +contextual -implicitDefEqProofs only[go_sem,d1,Jg,SB,Av,e1,e2];refine⟨by omega,Jh,by omega,?_⟩;refine JV Js (by decide) ?_;simp only[go_sem,Tr.row,Jg,SB,Av];refine anO ?_;have hF:=refFirst t ho hm k.toNat Ay;rw[FL]at hF;refine J9 (.inl rfl) hF ?_;simp +contextual -implicitDefEqProofs only[go_sem];refine⟨Jh,(j,(fs o k).toNat),⟨by simp only;omega,by simp only;omega,?_⟩,by simp only;omega,?_⟩
    ·rw[Aa];simp only[Bg]
    ·simp only[Bg];simp[forget]
theorem let_all:∀k:Fin 256,(Jdr k.val=83↔k.val=41)/\(Jdr k.val=78↔k.val=44):=by decide +kernel
theorem JeO {l:List Nd}{x:Nd}(hn:∀y∈l,y.k<256)(hk:∀k∈x.kids,0<=k/\k<l.length){c:Nat}{b:UInt8}(h:∀k:Nat,k<256->(Jdr k=b↔k=c)):(kinds l x).count c=Ql b (lets l x):=by
 unfold kinds lets Ql;have:∀ks:List Int,(∀k∈ks,0<=k/\k<l.length)->(ks.map (Jv l)).count c=(ks.map λk=>Jdr (Jv l k)).count b:=by
  intro ks
  induction ks with
  |nil=>intro _;rfl
  |cons k ks ih=>
   intro BQ;have hr:=BQ k (by simp);have Ab:k.toNat<l.length:=by omega
   have BD:Jv l k<256:=by
    unfold Jv;rw[Gc,Gd Ab];exact hn _ (Gl Ab)
   have he:=h _ BD;rw[Gm,Gm,GJ,GJ,ih (λq hq=>BQ q (by simp[hq]))]
   congr 1
   by_cases e:Jv l k=c
   ·rw[if_pos (by simp[e]),if_pos (by simp[he.2 e])]
   ·rw[if_neg (by simp[e]),if_neg (by simp;exact λh2=>e (he.1 h2))]
 exact this x.kids hk
theorem refSized (t:Tr)(i:Nat)(hi:i<t.nodes.length)(hm:t.nodes.length<=1400)(hx:(t.nodes.getD i default).Fit)(hn:∀y∈t.nodes,y.k<256)(hk:∀k∈(t.nodes.getD i default).kids,0<=k/\k<t.nodes.length) :
  Fn Gb 49 [t.cv,.int .i64 (i:Int)] (.bool (Qc (t.nodes.getD i default).k (t.nodes.getD i default).n (lets t.nodes (t.nodes.getD i default)))):=by
 have hg:=Qu hi;generalize Me:t.nodes.getD i default=x at hx hk hg|-;have BJ:=hx.kidn;have CG:=Ky (l:=t.nodes) (x:=x);have C8:=JeO hn hk (c:=41) (b:=83) (λk h=>(let_all ⟨k,h⟩).1);have Ca:=JeO hn hk (c:=44) (b:=78) (λk h=>(let_all ⟨k,h⟩).2);have Sl:=refMany t x hx hk 41;have Sk:=refMany t x hx hk 44;rw[C8]at Sl;rw[Ca]at Sk;simp only[Ga]at Sl Sk;have UQ:=hx.n;obtain⟨k,text,n,kids,pl⟩:=x;generalize lets t.nodes ⟨k,text,n,kids,pl⟩=hv at CG Sl Sk|-;simp only[Nd.cv]at hg Sl Sk BJ CG UQ|-;rcases (show (k=65\/k=26\/k=40\/k=45\/k=41\/k=28\/k=29\/k=48\/k=47)\/(k≠65/\k≠26/\k≠40/\k≠45/\k≠41/\k≠28/\k≠29/\k≠48/\k≠47) by omega) with (rfl|rfl|rfl|rfl|rfl|rfl|rfl|rfl|rfl)|rest
 ·refine Jc c49_ok rfl rfl λN=>?_
  simp (maxSteps:=2000000) -implicitDefEqProofs only[c49,go_sem,Tr.cv,Tr.row,Jb,Jg,hg,Ga];refine⟨⟨by omega,by omega⟩,?_⟩;refine J6 (Jbo n 0 5) ?_
  cases hb:inI 0 5 n with
  |false=>simp (maxSteps:=2000000) -implicitDefEqProofs only[go_sem];simp[Qc,hb]
  |true=>
   have Cg:=hb;simp only[inI,Gj,decide_eq_true_eq]at Cg;simp (maxSteps:=2000000) -implicitDefEqProofs only[go_sem];refine⟨Jh,Jh,?_⟩;refine Kb (gok rfl) (Jbo _ 1 4) ?_;simp (maxSteps:=2000000) -implicitDefEqProofs only[go_sem];simp[Qc,hb,CG]
 ·refine Jc c49_ok rfl rfl λN=>?_
  simp (maxSteps:=2000000) -implicitDefEqProofs only[c49,go_sem,Tr.cv,Tr.row,Jb,Jg,hg,Ga];refine⟨⟨by omega,by omega⟩,?_⟩
  congr 1
  simp only[Qc];rw[Gh];simp;omega
 ·refine Jc c49_ok rfl rfl λN=>?_
  simp (maxSteps:=2000000) -implicitDefEqProofs only[c49,go_sem,Tr.cv,Tr.row,Jb,Jg,hg,Ga];refine⟨⟨by omega,by omega⟩,?_⟩;refine J6 (Jbo n 0 12) ?_
  cases hb:inI 0 12 n with
  |false=>simp (maxSteps:=2000000) -implicitDefEqProofs only[go_sem];simp[Qc,hb]
  |true=>
   have Cg:=hb;simp only[inI,Gj,decide_eq_true_eq]at Cg;simp (maxSteps:=2000000) -implicitDefEqProofs only[go_sem];refine⟨Jh,?_⟩;refine Kb (gok rfl) (Jbo _ 1 4) ?_;simp (maxSteps:=2000000) -implicitDefEqProofs only[go_sem];simp[Qc,hb,CG]
 ·refine Jc c49_ok rfl rfl λN=>?_
  simp (maxSteps:=2000000) -implicitDefEqProofs only[c49,go_sem,Tr.cv,Tr.row,Jb,Jg,hg,Ga];refine⟨⟨by omega,by omega⟩,?_⟩;refine J6 (Jbo _ 1 4) ?_;simp (maxSteps:=2000000) -implicitDefEqProofs only[go_sem];simp[Qc,CG]
 ·refine Jc c49_ok rfl rfl λN=>?_
  simp (maxSteps:=2000000) -implicitDefEqProofs only[c49,go_sem,Tr.cv,Tr.row,Jb,Jg,hg,Ga];refine⟨⟨by omega,by omega⟩,?_⟩;refine J6 (Jbo n 1 4) ?_;simp (maxSteps:=2000000) -implicitDefEqProofs only[go_sem];simp[Qc]
 ·refine Jc c49_ok rfl rfl λN=>?_
  simp (maxSteps:=2000000) -implicitDefEqProofs only[c49,go_sem,Tr.cv,Tr.row,Jb,Jg,hg,Ga];refine⟨⟨by omega,by omega⟩,?_⟩;refine J6 (Jbo n 1 5) ?_
  cases hb:inI 1 5 n with
  |false=>simp (maxSteps:=2000000) -implicitDefEqProofs only[go_sem];simp[Qc,hb]
  |true=>
   simp (maxSteps:=2000000) -implicitDefEqProofs only[go_sem];refine Kb (gok rfl) Sl ?_;by_cases Uo:(Ql 83 hv:Int)<=12
   ·have d1:((Ql 83 hv:Int)<=12)=True:=eq_true Uo;simp (maxSteps:=2000000) -implicitDefEqProofs only[go_sem,d1];refine Kb (gok rfl) Sk ?_;simp (maxSteps:=2000000) -implicitDefEqProofs only[go_sem];simp[Qc,hb,d1]
   ·have d1:((Ql 83 hv:Int)<=12)=False:=eq_false Uo;simp (maxSteps:=2000000) -implicitDefEqProofs only[go_sem,d1];simp[Qc,hb,d1]
 ·refine Jc c49_ok rfl rfl λN=>?_
  simp (maxSteps:=2000000) -implicitDefEqProofs only[c49,go_sem,Tr.cv,Tr.row,Jb,Jg,hg,Ga];refine⟨⟨by omega,by omega⟩,?_⟩;refine J6 (Jbo n 0 100) ?_
  cases hb:inI 0 100 n with
  |false=>simp (maxSteps:=2000000) -implicitDefEqProofs only[go_sem];simp[Qc,hb]
  |true=>
   simp (maxSteps:=2000000) -implicitDefEqProofs only[go_sem];refine⟨Jh,?_⟩;refine Kb (gok rfl) (Jbo _ 1 8) ?_;simp (maxSteps:=2000000) -implicitDefEqProofs only[go_sem];simp[Qc,hb,CG]
 ·refine Jc c49_ok rfl rfl λN=>?_
  simp (maxSteps:=2000000) -implicitDefEqProofs only[c49,go_sem,Tr.cv,Tr.row,Jb,Jg,hg,Ga];refine⟨⟨by omega,by omega⟩,?_⟩;refine J6 (Jbo n 0 100) ?_;simp (maxSteps:=2000000) -implicitDefEqProofs only[go_sem];simp[Qc]
 ·refine Jc c49_ok rfl rfl λN=>?_
  simp (maxSteps:=2000000) -implicitDefEqProofs only[c49,go_sem,Tr.cv,Tr.row,Jb,Jg,hg,Ga];refine⟨⟨by omega,by omega⟩,?_⟩;refine J6 (Jbo n 1 9) ?_;simp (maxSteps:=2000000) -implicitDefEqProofs only[go_sem];simp[Qc]
 ·obtain⟨r1,r2,r3,r4,r5,r6,r7,r8,r9⟩:=rest;have hE:Qc k n hv=true:=by
   simp only[Qc];rw[iN7,iN7,iN7,iN7,iN7,iN7,iN7,iN7,iN7]
  rw[hE];have e65:=kb (m:=65) (k:=k) (by omega);simp only[Ga]at e65;have e26:=kb (m:=26) (k:=k) (by omega);simp only[Ga]at e26;have e40:=kb (m:=40) (k:=k) (by omega);simp only[Ga]at e40;have e45:=kb (m:=45) (k:=k) (by omega);simp only[Ga]at e45;have e41:=kb (m:=41) (k:=k) (by omega);simp only[Ga]at e41;have e28:=kb (m:=28) (k:=k) (by omega);simp only[Ga]at e28;have e29:=kb (m:=29) (k:=k) (by omega);simp only[Ga]at e29;have e48:=kb (m:=48) (k:=k) (by omega);simp only[Ga]at e48;have e47:=kb (m:=47) (k:=k) (by omega);simp only[Ga]at e47;refine Jc c49_ok rfl rfl λN=>?_
  simp (maxSteps:=2000000) -implicitDefEqProofs only[c49,go_sem,Tr.cv,Tr.row,Jb,Jg,hg,e65,e26,e40,e45,e41,e28,e29,e48,e47];exact⟨by omega,by omega⟩
theorem all_same {α:Type}{l:List α}{p q:α->Bool}(h:∀x∈l,p x=q x):l.all p=l.all q:=by
 induction l with
 |nil=>rfl
 |cons a l ih=>simp only[GN];rw[h a (by simp),ih (λx hx=>h x (by simp[hx]))]
theorem kids_conv {l:List Nd}{x:Nd}(hn:∀y∈l,y.k<256)(hk:∀k∈x.kids,0<=k/\k<l.length){c:Nat}{b:UInt8}(h:∀k:Nat,k<256->isR k c=(Jdr k == b))(p q:Int):kidsR (kinds l x) p q c=J3 (lets l x) p q b:=by
 unfold kidsR J3 kinds lets;have e:(((x.kids.map (Jv l)).take q.toNat).drop p.toNat).all (λk=>isR k c)=(((x.kids.map λk=>Jdr (Jv l k)).take q.toNat).drop p.toNat).all (· == b):=by
  rw[<-GL,<-GM,<-GL,<-GM,GQ,GQ];refine all_same λk Aw=>?_
  have hr:=hk k (List.mem_of_mem_take (List.mem_of_mem_drop Aw));have Ab:k.toNat<l.length:=by omega
  refine h _ ?_;unfold Jv;rw[Gc,Gd Ab];exact hn _ (Gl Ab)
 rw[e];simp
theorem cls_all:∀k:Fin 256,∀p∈([(200,101),(201,116),(202,99),(40,66),(41,83),(42,98),(43,73),(44,78),(45,71),(48,79),(64,80)]:List (Nat×UInt8)),isR k.val p.1=(Jdr k.val == p.2):=by decide +kernel
theorem refKin1 (t:Tr)(x:Nd)(hx:x.Fit)(hm:t.nodes.length<=1400)(hn:∀y∈t.nodes,y.k<256)(hk:∀k∈x.kids,0<=k/\k<t.nodes.length)(Mm:x.k=41->x.n<9223372036854775807)(Cc:x.k≠28) :
  Fn Gb 47 [t.cv,.agg x.cv] (.bool (K9 x.k x.n (lets t.nodes x))):=by
 have BJ:=hx.kidn;have CG:=Ky (l:=t.nodes) (x:=x);have hK:∀(c:Nat) (b:UInt8),(c,b)∈([(200,101),(201,116),(202,99),(40,66),(41,83),(42,98),(43,73),(44,78),(45,71),(48,79),(64,80)]:List (Nat×UInt8))->∀p q:Int,Fn Gb 66 [t.cv,.agg x.cv,.int .i64 p,.int .i64 q,.int .u8 c] (.bool (J3 (lets t.nodes x) p q b)):=by
  intro c b Fs p q;have:=refKids t x hx hm hk p q c;rw[kids_conv hn hk (λk h=>cls_all ⟨k,h⟩ (c,b) Fs)]at this;exact this
 have UQ : -9223372036854775808<=x.n:=hx.n.1;have K200:=hK 200 101 (by decide);have K201:=hK 201 116 (by decide);have K202:=hK 202 99 (by decide);have K40:=hK 40 66 (by decide);have K41:=hK 41 83 (by decide);have K42:=hK 42 98 (by decide);have K43:=hK 43 73 (by decide);have K44:=hK 44 78 (by decide);have K45:=hK 45 71 (by decide);have K48:=hK 48 79 (by decide);have K64:=hK 64 80 (by decide);simp only[Ga]at K200 K201 K202 K40 K41 K42 K43 K44 K45 K48 K64;obtain⟨k,text,n,kids,pl⟩:=x;generalize lets t.nodes ⟨k,text,n,kids,pl⟩=hv at CG K200 K201 K202 K40 K41 K42 K43 K44 K45 K48 K64|-;simp only[Nd.cv,Tr.cv,Tr.row]at BJ CG UQ Mm Cc K200 K201 K202 K40 K41 K42 K43 K44 K45 K48 K64|-;clear hK;obtain⟨m,D7⟩:∃m:Int,m=(kids.length:Int):=⟨_,rfl⟩;by_cases hC:k=1\/k=2\/k=3\/k=19\/k=20\/k=21\/k=22\/k=23\/k=24\/k=25\/k=26\/k=27\/k=29\/k=40\/k=41\/k=42\/k=43\/k=44\/k=45\/k=46\/k=47\/k=48\/k=60\/k=61\/k=62\/k=63\/k=64\/k=65
 rotate_left
 ·simp only[not_or]at hC;have hE:K9 k n hv=(decide (4<=k) && decide (k<=18) && (m == 2) && J3 hv 0 2 101):=by
   simp only[K9]
   repeat rw[iN7]
   rw[CG,<-D7]
  rw[hE];have f4:((4:Int)<=(k:Int))=(4<=k):=propext (by omega);have f18:((k:Int)<=18)=(k<=18):=propext (by omega);refine Jc c47_ok rfl rfl λN=>?_
  by_cases h4:4<=k <;> by_cases Sy:k<=18 <;> cases h0:m == 2 <;> (repeat first
   |refine Kb (gok rfl) (K200 0 2) ?_
   |simp (maxSteps:=2000000) -implicitDefEqProofs only[c47,go_sem,Jg,<-D7,f4,f18,h4,Sy,h0,kbo,hC,Cc,not_false_eq_true]) <;> simp
 rcases hC with rfl|rfl|rfl|rfl|rfl|rfl|rfl|rfl|rfl|rfl|rfl|rfl|rfl|rfl|rfl|rfl|rfl|rfl|rfl|rfl|rfl|rfl|rfl|rfl|rfl|rfl|rfl|rfl <;> (
  try have Mm:=Mm rfl
  simp only[K9,CG,<-D7];refine Jc c47_ok rfl rfl λN=>?_
  repeat first
   |refine⟨Jh,?_⟩
   |refine vr_fgB (by first|exact .inl rfl|exact gok rfl) (by first|exact K200 _ _|exact K201 _ _|exact K202 _ _|exact K40 _ _|exact K41 _ _|exact K42 _ _|exact K48 _ _|exact K64 _ _) (λB hb=>?_);try simp only[hb];clear hb;cases B
   |simp (maxSteps:=2000000) -implicitDefEqProofs only[c47,go_sem,Jg,Ga,<-D7]
   |rcases Gr (m == 0) with h0|h0 <;> rw[h0]
   |rcases Gr (m == 1) with h0|h0 <;> rw[h0]
   |rcases Gr (m == 2) with h0|h0 <;> rw[h0]
   |rcases Gr (m == 3) with h0|h0 <;> rw[h0]
   |rcases Gr (m == n+1) with h0|h0 <;> rw[h0]
   |by_cases h0:0<m <;> simp only[h0]
   |by_cases h0:m<=1 <;> simp only[h0]
  all_goals first|simp|simp_all)
end Go.Cm
end
end
