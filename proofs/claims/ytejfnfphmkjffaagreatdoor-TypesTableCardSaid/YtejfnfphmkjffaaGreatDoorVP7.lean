/-
  A part of the proof. Conditions: none.
-/
import Derived.Test.YtejfnfphmkjffaaGreatDoorVP3
set_option linter.unusedSimpArgs false
set_option linter.unusedVariables false
open List renaming getD_eq_getElem?_getD->Gc,getElem?_eq_getElem->Gd,drop_eq_getElem_cons->Gi,getElem?_eq_some_iff->Gn,drop_eq_nil_of_le->Gp,getElem_mem->Gl,take_length->Gq,map_cons->Gm,length_take->Gs,take_succ_eq_append_getElem->Gz,map_nil->Gv,length_pos_iff->GA,getElem?_take->GD,length_drop->GG,all_eq_true->GH,length_nil->GI,count_cons->GJ,drop_zero->GK,map_take->GL,map_drop->GM,all_cons->GN,all_map->GQ,length->GR
open Bool renaming eq_iff_iff->Gh,eq_false_or_eq_true->Gr,and_eq_true->Gj,or_eq_false_iff->Gt,true_or->Gu,or_false->Gw,not_eq_true'->GU
open Nat renaming le_of_lt->Gf,le_refl->Gg,zero_add->Gx
open Go.Proofs.Tryz renaming prog->Gb
open Int renaming cast_ofNat_Int->Ga,toNat_natCast->Gy
noncomputable section
section
set_option maxRecDepth 100000
set_option maxHeartbeats 40000000
open Go.Proofs
namespace Go.Cm
def Jha:Bool->List UInt8->Nat
 |_,[]=>0
 |false,c::l=>if isBk c=true then Jha false l+1 else if c=126 then Jha true l+1 else 0
 |true,c::l=>if c=10 then Jha false l+1 else Jha true l+1
def YU (l:List UInt8)(a:Nat):Nat:=a+Jha false (l.drop a)
theorem gapE_ge (l:List UInt8)(a:Nat):a<=YU l a:=by unfold YU;omega
theorem Jhb {l:List UInt8}{a:Nat}(h:l.length<=a):YU l a=a:=by
 unfold YU;rw[Gp h];simp[Jha]
def badB (c:UInt8):Bool:=!(c == 10) && (decide (c.toNat<32) || decide (126<c.toNat))
def badE (l:List UInt8)(i:Nat):Nat×Int:=match l with
 |[]=>(0,0)
 |c::r=>if badB c=true then(i,4) else badE r (i+1)
def Yd (l:List UInt8):Nat×Int:=if 2500<l.length then(0,5) else badE l 0
def rdF (l:List UInt8):Nat->Nat->List (Nat×List UInt8×Nat)->List (Nat×List UInt8×Nat)×Nat×Int
 |0,_,acc=>(acc,0,0)
 |n+1,a,acc=>
  if YU l a<l.length then
   (if (tkL l (YU l a)).2.2=true then(if acc.length=900 then([],YU l a,5) else rdF l n (YU l a+(tkL l (YU l a)).2.1.length) (acc++[((tkL l (YU l a)).1,(tkL l (YU l a)).2.1,YU l a)])) else([],YU l a,4))
  else(acc,0,0)
def JaV (l:List UInt8):List (Nat×List UInt8×Nat)×Nat×Int:=if (Yd l).2≠0 then([],(Yd l).1,(Yd l).2) else rdF l (l.length+1) 0 []
def kindR (l:List UInt8):Nat:=match JaV l with
 |([t],_,e)=>if e=0/\t.2.1=l then t.1 else 0
 |_=>0
theorem rdF_pre {l:List UInt8}:∀(n a:Nat) (acc r:List (Nat×List UInt8×Nat)) (p:Nat),rdF l n a acc=(r,p,0)->∃s,r=acc++s
 |0,a,acc,r,p,h=>by
  simp only[rdF,Prod.mk.injEq]at h;exact⟨[],by rw[<-h.1];simp⟩
 |n+1,a,acc,r,p,h=>by
  simp only[rdF]at h
  split at h
  ·split at h
   ·split at h
    ·simp at h
    ·obtain⟨s,hs⟩:=rdF_pre n _ _ r p h;exact⟨_,by rw[hs,List.append_assoc]⟩
   ·simp at h
  ·simp only[Prod.mk.injEq]at h;exact⟨[],by rw[<-h.1];simp⟩
theorem badB_alnum {c:UInt8}(h:K8 c=true):badB c=false:=by
 simp only[K8,isLt,Xp,Bool.or_eq_true,Gj,decide_eq_true_eq]at h;have h1:¬c.toNat<32:=by omega
 have h2:¬126<c.toNat:=by omega
 simp[badB,h1,h2]
theorem badE_none:∀(l:List UInt8) (i:Nat),(∀c∈l,badB c=false)->badE l i=(0,0)
 |[],i,_=>rfl
 |c::l,i,h=>by
  simp only[badE];rw[if_neg (by rw[h c (by simp)];simp)];exact badE_none l (i+1) λx hx=>h x (by simp[hx])
theorem tk_name {l:List UInt8}{a:Nat}(h:(tkL l a).1=2):isLt (l.getD a 0)=true/\tkL l a=(2,cut l a (Q6 K8 l a),decide ((cut l a (Q6 K8 l a)).length<=12))/\kws.contains (cut l a (Q6 K8 l a))=false:=by
 unfold tkL at h|-;by_cases h1:isLt (l.getD a 0)=true
 ·rw[if_pos h1]at h|-;by_cases h2:kws.contains (cut l a (Q6 K8 l a))=true
  ·rw[if_pos h2]at h;simp at h
  ·rw[if_neg h2];exact⟨h1,rfl,by simpa using h2⟩
 ·rw[if_neg h1]at h
  split at h <;> simp at h
theorem kindR_name (l:List UInt8):(kindR l == 2)=JdB l:=by
 rw[Gh,beq_iff_eq]
 constructor
 ·intro h;unfold kindR at h
  split at h
  ·rename_i t p e he
   split at h
   ·rename_i hc;obtain⟨gL,ht⟩:=hc;subst gL;unfold JaV at he
    split at he
    ·simp only[Prod.mk.injEq]at he;simp at he
    ·simp only[rdF]at he
     split at he
     ·rename_i Ab
      split at he
      ·rename_i Ap
       split at he
       ·simp at he
       ·obtain⟨s,hs⟩:=rdF_pre _ _ _ _ _ he;simp only[List.nil_append,List.cons_append,List.cons.injEq]at hs;obtain⟨rfl,-⟩:=hs
        dsimp only at ht h
        obtain⟨k1,k2,k3⟩:=tk_name h;rw[k2]at ht Ap
        dsimp only at ht Ap
        have hE:=YO (q:=K8) (Gf Ab);have Cb:YU l 0<=Q6 K8 l (YU l 0):=by unfold Q6;omega
        have Ay:=Jbb Cb hE;rw[ht]at Ay k3 Ap;have h0:YU l 0=0:=by omega
        rw[h0]at ht k1;have Am:=Jce.1 ht;have Ai:l≠[]:=by rintro rfl;simp at Ab
        unfold JdB;rw[k1,Am,k3,Ap];simp[Ai]
      ·simp at he
     ·simp at he
   ·simp at h
  ·simp at h
 ·intro h;unfold JdB at h;simp only[Gj,GU,beq_eq_false_iff_ne,decide_eq_true_eq]at h;obtain⟨⟨⟨⟨h1,h2⟩,h3⟩,h4⟩,h5⟩:=h;have hb:Yd l=(0,0):=by
   unfold Yd;rw[iN7];exact badE_none l 0 λc hc=>badB_alnum (GH.1 h2 c hc)
  have D5:0<l.length:=GA.2 h5;have hg:YU l 0=0:=by
   unfold YU
   cases l with
   |nil=>rfl
   |cons c r=>
    have hg:=lt_gp (c:=c) (by simpa using h1);simp only[isGp,Gt,beq_eq_false_iff_ne]at hg;simp only[GK,Jha,hg.1,Bool.false_eq_true,if_false,if_neg hg.2]
  have Cx:cut l 0 (Q6 K8 l 0)=l:=Jce.2 h2;have hT:tkL l 0=(2,l,true):=by
   unfold tkL;rw[if_pos h1,Cx,if_neg (by rw[h3];simp),decide_eq_true h4]
  have El:YU l l.length=l.length:=Jhb (Gg _);have hr:JaV l=([(2,l,0)],0,0):=by
   unfold JaV;rw[hb,if_neg (by simp)];obtain⟨n,hn⟩:∃n,l.length=n+1:=⟨l.length-1,by omega⟩;have e1:rdF l (l.length+1) 0 []=rdF l l.length (0+l.length) ([]++[(2,l,0)]):=by
    rw[rdF,hg,if_pos D5,hT,if_pos rfl,if_neg (by simp)]
   have e2:rdF l (n+1) (0+l.length) ([]++[(2,l,0)])=([(2,l,0)],0,0):=by
    rw[rdF,Gx,El,iN7];rfl
   rw[e1,<-e2,<-hn]
  unfold kindR;rw[hr];simp
theorem Kt (c:UInt8):Fn Gb 101 [.int .u8 c.toNat] (.bool (isLt c)):=by
 refine Ja c101_ok rfl rfl λN=>?_
 have h1:=dle 97 c;have h2:=dge 122 c;simp only[Ga]at h1 h2;simp +contextual only[c101,go_sem,h1,h2,isLt]
theorem Qq (c:UInt8):Fn Gb 100 [.int .u8 c.toNat] (.bool (Xp c)):=by
 refine Ja c100_ok rfl rfl λN=>?_
 have h1:=dle 48 c;have h2:=dge 57 c;simp only[Ga]at h1 h2;simp +contextual only[c100,go_sem,h1,h2,Xp]
theorem refHas (l:List (List UInt8))(s:List UInt8)(hl:l.length<=100000):Fn Gb 104 [.rslc 1 (sz l) none,S s] (.bool (l.contains s)):=by
 refine Ja c104_ok rfl rfl λN=>?_
 simp -implicitDefEqProofs only[c104,go_sem];refine JE (I:=λi:Nat=>i<=l.length/\l.contains s=(l.drop i).contains s) (inv:=λi=>gp [(0,.rslc 1 (sz l) none),(0,S s),(3,.int .i64 (i:Int))] 12) (hp:=λ_=>[]) (μ:=λi=>l.length-i) 0 ⟨by omega,rfl⟩ ?_ rfl ?_
 ·simp[forget,gp]
 ·rintro i ⟨hi,Aa⟩;by_cases Ab:i<l.length
  ·have d1:=dtT i l.length;simp -implicitDefEqProofs only[go_sem,JbH,d1];rw[sz_get Ab];refine anO ?_;rw[Gi Ab,List.contains_cons]at Aa;rw[show l.getD i []=l[i] by rw[Gc,Gd Ab];rfl];generalize l[i]=x at Aa|-;have Io:(x == s)=(s == x):=by rw[Gh,beq_iff_eq,beq_iff_eq];exact eq_comm
   cases hx:(x == s) with
   |true=>
    rw[<-Io,hx,Gu]at Aa;simp -implicitDefEqProofs only[go_sem,hx,Aa]
   |false=>
    rw[<-Io,hx,Bool.false_or]at Aa;simp -implicitDefEqProofs only[go_sem,hx];refine⟨Jh,i+1,⟨by omega,Aa⟩,by omega,?_⟩;simp[forget]
  ·have d1:=dfF i l.length;rw[Gp (by omega)]at Aa;simp -implicitDefEqProofs only[go_sem,JbH,d1,Aa]
   try rfl
theorem refLexCheck (l:List UInt8)(hl:l.length<=1000000):Fn Gb 76 [S l] (.tup [.int .i64 ((Yd l).1:Nat),.int .i64 (Yd l).2]):=by
 refine Ja c76_ok rfl rfl λN=>?_
 by_cases De:2500<l.length
 ·have d0:((2500:Int)<(l.length:Int))=True:=Kl;have hc:Yd l=(0,5):=by unfold Yd;rw[if_pos De]
  simp -implicitDefEqProofs only[c76,go_sem,d0,hc]
  try rfl
 ·have d0:((2500:Int)<(l.length:Int))=False:=Ki;have hc:Yd l=badE l 0:=by unfold Yd;rw[if_neg De]
  simp -implicitDefEqProofs only[c76,go_sem,d0,hc];refine JE (I:=λi:Nat=>i<=l.length/\badE l 0=badE (l.drop i) i) (inv:=λi=>gp [(0,S l),(3,.int .i64 (i:Int))] 26) (hp:=λ_=>[]) (μ:=λi=>l.length-i) 0 ⟨by omega,rfl⟩ ?_ rfl ?_
  ·simp[forget,gp]
  ·rintro i ⟨hi,Aa⟩;by_cases Ab:i<l.length
   ·have d1:=dtT i l.length;rw[Gi Ab,badE]at Aa;have hg:l.getD i 0=l[i]:=by rw[Gc,Gd Ab];rfl
    rw[<-hg]at Aa;simp -implicitDefEqProofs only[go_sem,d1];generalize l.getD i 0=c at Aa|-;have Ai:=deq 10 (by decide) c;simp only[Ga]at Ai;refine anO ?_;by_cases EE:c=10
    ·have e1:((c.toNat:Int) != 10)=false:=by rw[bne,Ai];simp[EE]
     rw[if_neg (by simp[badB,EE])]at Aa;simp -implicitDefEqProofs only[go_sem,e1];refine⟨Jh,i+1,⟨by omega,Aa⟩,by omega,?_⟩;simp[forget]
    ·have e1:((c.toNat:Int) != 10)=true:=by rw[bne,Ai];simp[EE]
     by_cases Pb:c.toNat<32
     ·have e2:((c.toNat:Int)<32)=True:=Kl;rw[if_pos (by simp[badB,EE,Pb])]at Aa;simp -implicitDefEqProofs only[go_sem,e1,e2,Aa];omega
     ·have e2:((c.toNat:Int)<32)=False:=Ki;by_cases Et:126<c.toNat
      ·have e3:((126:Int)<(c.toNat:Int))=True:=Kl;rw[if_pos (by simp[badB,EE,Et])]at Aa;simp -implicitDefEqProofs only[go_sem,e1,e2,e3,Aa];omega
      ·have e3:((126:Int)<(c.toNat:Int))=False:=Ki;rw[if_neg (by simp[badB,Pb,Et])]at Aa;simp -implicitDefEqProofs only[go_sem,e1,e2,e3];refine⟨by omega,by omega,Jh,i+1,⟨by omega,Aa⟩,by omega,?_⟩;simp[forget]
   ·have d1:=dfF i l.length;rw[Gp (by omega)]at Aa;simp -implicitDefEqProofs only[go_sem,d1,Aa,badE]
    try rfl
theorem refGap (l:List UInt8)(a:Nat)(ha:a<=l.length)(hl:l.length<=1000000):Fn Gb 77 [S l,.int .i64 (a:Int)] (.int .i64 (YU l a:Nat)):=by
 refine Ja c77_ok rfl rfl λN=>?_
 simp -implicitDefEqProofs only[c77,go_sem];refine JE (I:=λi:Nat=>i<=l.length/\YU l a=YU l i) (inv:=λi=>gp [(0,S l),(0,.int .i64 (i:Int))] 39) (hp:=λ_=>[]) (μ:=λi=>l.length-i) a ⟨ha,rfl⟩ ?_ rfl ?_
 ·simp[forget,gp]
 ·rintro i ⟨hi,Aa⟩;by_cases Ab:i<l.length
  ·have d1:=dtT i l.length;have hg:l.getD i 0=l[i]:=by rw[Gc,Gd Ab];rfl
   have Au:YU l i=i+Jha false (l.getD i 0::l.drop (i+1)):=by unfold YU;rw[Gi Ab,hg]
   simp -implicitDefEqProofs only[go_sem,d1];obtain⟨c,hc⟩:∃c,c=l.getD i 0:=⟨_,rfl⟩;rw[<-hc]at Au|-;have q1:=deq 32 (by decide) c;have q2:=deq 10 (by decide) c;have q3:=deq 126 (by decide) c;simp only[Ga]at q1 q2 q3;refine anO ?_;by_cases Pb:c=32
   ·have e1:((c.toNat:Int) == 32)=true:=by rw[q1];simp[Pb]
    have hs:YU l i=YU l (i+1):=by
     rw[Au,Jha,if_pos (by simp[isBk,Pb])];unfold YU;omega
    simp -implicitDefEqProofs only[go_sem,e1];refine⟨Jh,i+1,⟨by omega,by rw[Aa,hs]⟩,by omega,?_⟩;simp[forget]
   ·have e1:((c.toNat:Int) == 32)=false:=by rw[q1];simp[Pb]
    by_cases EE:c=10
    ·have e2:((c.toNat:Int) == 10)=true:=by rw[q2];simp[EE]
     have hs:YU l i=YU l (i+1):=by
      rw[Au,Jha,if_pos (by simp[isBk,EE])];unfold YU;omega
     simp -implicitDefEqProofs only[go_sem,e1,e2,<-hc];refine⟨by omega,Jh,i+1,⟨by omega,by rw[Aa,hs]⟩,by omega,?_⟩;simp[forget]
    ·have e2:((c.toNat:Int) == 10)=false:=by rw[q2];simp[EE]
     by_cases Et:c=126
     ·have e3:((c.toNat:Int) == 126)=true:=by rw[q3];simp[Et]
      have hs:YU l i=i+Jha true (l.drop i):=by
       rw[Au,Gi Ab,<-hg,<-hc,Jha,if_neg (by simp[isBk,Et]),if_pos Et,Jha,if_neg EE]
      simp -implicitDefEqProofs only[go_sem,e1,e2,e3,<-hc];refine⟨by omega,by omega,?_⟩;refine JE (I:=λj:Nat=>i<=j/\j<=l.length/\YU l i=j+Jha true (l.drop j)) (inv:=λj=>gp [(0,S l),(0,.int .i64 (j:Int))] 39) (hp:=λ_=>[]) (μ:=λj=>l.length-j) i ⟨by omega,by omega,hs⟩ ?_ rfl ?_
      ·simp[forget,gp]
      ·rintro j ⟨Cw,hj,EQ⟩;by_cases Bc:j<l.length
       ·have d2:=dtT j l.length;have BD:l.getD j 0=l[j]:=by rw[Gc,Gd Bc];rfl
        rw[Gi Bc,<-BD]at EQ;simp -implicitDefEqProofs only[go_sem,d2];have Fq:j=i->l.getD j 0≠10:=by rintro rfl;rw[<-hc];exact EE
        obtain⟨x,Mj⟩:∃x,x=l.getD j 0:=⟨_,rfl⟩;rw[<-Mj]at EQ Fq|-;have q4:=deq 10 (by decide) x;simp only[Ga]at q4;refine anO ?_;by_cases hx:x=10
        ·have e4:((x.toNat:Int) != 10)=false:=by rw[bne,q4];simp[hx]
         rw[Jha,if_pos hx]at EQ;have Ai:j≠i:=λh=>Fq h hx
         have Iw:YU l i=YU l j:=by
          rw[EQ];unfold YU;rw[Gi Bc,<-BD,<-Mj,Jha,if_pos (by simp[isBk,hx])]
         simp -implicitDefEqProofs only[go_sem,e4];refine⟨j,⟨by omega,by rw[Aa,Iw]⟩,by omega,?_⟩;simp[forget]
        ·have e4:((x.toNat:Int) != 10)=true:=by rw[bne,q4];simp[hx]
         rw[Jha,if_neg hx]at EQ;simp -implicitDefEqProofs only[go_sem,e4];refine⟨Jh,j+1,⟨by omega,by omega,by omega⟩,by omega,?_⟩;simp[forget]
       ·have d2:=dfF j l.length;have Co:j=l.length:=by omega
        simp -implicitDefEqProofs only[go_sem,d2];refine⟨j,⟨by omega,?_⟩,by omega,?_⟩
        ·rw[Aa,EQ,Jhb (by omega),Gp (by omega)];simp[Jha]
        ·simp[forget]
     ·have e3:((c.toNat:Int) == 126)=false:=by rw[q3];simp[Et]
      have hs:YU l i=i:=by
       rw[Au,Jha,if_neg (by simp[isBk,Pb,EE]),if_neg Et];rfl
      simp -implicitDefEqProofs only[go_sem,e1,e2,e3,<-hc];refine⟨by omega,by omega,?_⟩;rw[Aa,hs]
  ·have d1:=dfF i l.length;simp -implicitDefEqProofs only[go_sem,d1];rw[Aa,Jhb (by omega)]
theorem decA_take {l:List UInt8}{i:Nat}(h:i<l.length):Jb2 0 (l.take (i+1))=Jb2 0 (l.take i)*10+((l.getD i 0).toNat-48):=by
 rw[Gz h,Jhx,Jba];rw[show l.getD i 0=l[i] by rw[Gc,Gd h];rfl];rfl
theorem decA_pre {l:List UInt8}(i:Nat):Jb2 0 (l.take i)<=JcD l:=by
 have:JcD l=Jb2 (Jb2 0 (l.take i)) (l.drop i):=by rw[<-Jhx,List.take_append_drop];rfl
 rw[this];exact Jhw _ _
def numV (l:List UInt8):Int:=if JbV l=true then(JcD l:Int) else -1
theorem numV_ok (l:List UInt8):decide (0<=numV l)=JbV l:=by
 unfold numV
 split
 ·rename_i h;rw[h];simp
 ·rename_i h;simp at h;rw[h];rfl
theorem refNumber (l:List UInt8)(hd:l.all Xp=true)(hl:l.length<=1000000):Fn Gb 103 [S l] (.int .i64 (numV l)):=by
 refine Ja c103_ok rfl rfl λN=>?_
 simp -implicitDefEqProofs only[c103,go_sem];refine JE (I:=λi:Nat=>i<=l.length/\Jb2 0 (l.take i)<=1000000000) (inv:=λi=>gp [(0,S l),(2,.int .i64 (Jb2 0 (l.take i):Nat)),(0,.int .i64 (i:Int))] 25) (hp:=λ_=>[]) (μ:=λi=>l.length-i) 0 ⟨by omega,by simp[Jb2]⟩ ?_ rfl ?_
 ·simp[forget,gp,Jb2]
 ·rintro i ⟨hi,Aa⟩;by_cases Ab:i<l.length
  ·have d1:=dtT i l.length;have bW:Xp (l.getD i 0)=true:=by
    rw[Gc,Gd Ab];exact GH.1 hd _ (Gl Ab)
   have Al:=decA_take Ab;have Bl:=decA_pre (l:=l) (i+1);simp only[Xp,Gj,decide_eq_true_eq]at bW;simp -implicitDefEqProofs only[go_sem,d1];generalize l.getD i 0=c at bW Al|-;generalize Jb2 0 (l.take i)=v at Aa Al|-;rw[Al]at Bl;refine⟨Jh,by omega,⟨by show (0:Int)<=_;omega,by show _<=(255:Int);omega⟩,Jh,Jh,?_⟩;by_cases De:1000000000<v*10+(c.toNat-48)
   ·have d2:((1000000000:Int)<10*(v:Int)+((c.toNat:Int)-48))=True:=Kl;have hn:numV l = -1:=by
     unfold numV;rw[if_neg];unfold JbV;rw[decide_eq_false (by omega)];simp
    simp -implicitDefEqProofs only[go_sem,d2,hn]
   ·have d2:((1000000000:Int)<10*(v:Int)+((c.toNat:Int)-48))=False:=Ki;simp -implicitDefEqProofs only[go_sem,d2];refine⟨Jh,i+1,⟨by omega,by omega⟩,by omega,?_⟩;have e:((v*10+(c.toNat-48):Nat):Int)=10*(v:Int)+((c.toNat:Int)-48):=by omega
    rw[Al,e];simp[forget]
  ·have d1:=dfF i l.length;have Di:i=l.length:=by omega
   subst Di;rw[Gq]at Aa;have hv:Jb2 0 l=JcD l:=rfl;by_cases h1:1<l.length
   ·have d2:((1:Int)<(l.length:Int))=True:=Kl;simp -implicitDefEqProofs only[go_sem,d1,d2,Gq];have hq:=deq 48 (by decide) (l.getD 0 0);simp only[Ga]at hq;have hh:l.head? = some (l.getD 0 0):=by cases l with
     |nil=>simp at h1
     |cons a r=>rfl
    by_cases Py:l.getD 0 0=48
    ·have e1:(((l.getD 0 0).toNat:Int) == 48)=true:=by rw[hq,Py];rfl
     have hn:numV l = -1:=by
      unfold numV;rw[if_neg];unfold JbV;rw[hh,Py];have:¬(l.length=1\/some (48:UInt8)≠some 48):=by simp;omega
      rw[decide_eq_false this];simp
     refine anO ?_;simp -implicitDefEqProofs only[go_sem,e1,hn]
    ·have e1:(((l.getD 0 0).toNat:Int) == 48)=false:=by rw[hq];exact beq_eq_false_iff_ne.2 Py
     have hn:numV l=JcD l:=by
      unfold numV;rw[if_pos];unfold JbV;rw[hh];have:(l.length=1\/some (l.getD 0 0)≠some (48:UInt8)):=.inr (by simpa using Py);rw[decide_eq_true this,decide_eq_true (by omega)];rfl
     refine anO ?_;simp -implicitDefEqProofs only[go_sem,e1,hn,hv]
   ·have d2:((1:Int)<(l.length:Int))=False:=Ki;have hn:numV l=JcD l:=by
     unfold numV;rw[if_pos];unfold JbV;have:(l.length=1\/l.head?≠some (48:UInt8)):=by
      cases l with
      |nil=>right;simp
      |cons a r=>left;simp at h1;simp[h1]
     rw[decide_eq_true this,decide_eq_true (by omega)];rfl
    simp -implicitDefEqProofs only[go_sem,d1,d2,Gq,hn,hv]
theorem cut_take (l:List UInt8)(a n:Nat):cut l a (a+n)=(l.drop a).take n:=by
 unfold cut;rw[List.drop_take,Nat.add_sub_cancel_left]
theorem refSign (l:List UInt8)(a:Nat)(ha:a<l.length)(hl:l.length<=1000000):Fn Gb 102 [S l,.int .i64 (a:Int)] (.tup [.agg (lxz 4 (sgnL (l.drop a)) a),.int .i64 ((a+(sgnL (l.drop a)).length:Nat):Int),.bool (!(sgnL (l.drop a) == []))]):=by
 refine Ja c102_ok rfl rfl λN=>?_
 simp -implicitDefEqProofs only[c102,go_sem];refine JV apiSigns ?_;simp -implicitDefEqProofs only[go_sem];have DU:sgs.length=26:=rfl;have Bt:=sgnF_len (r:=l.drop a) sgs [] (by simp) sgs_len;have El:(sgnL (l.drop a)).length<=2:=Bt;refine JE (σ:=Nat×List UInt8) (I:=λs=>s.1<=sgs.length/\sgnL (l.drop a)=sgnF (l.drop a) (sgs.drop s.1) s.2) (inv:=λs=>gp [(0,S l),(0,.int .i64 (a:Int)),(2,.ptr 0 0 0),(2,S s.2),(0,.rslc 1 (sz sgs) none),(0,.int .i64 (s.1:Int))] 51) (hp:=λs=>[.arr 3 [[.int .u8 0,S [],.int .i64 0]]]) (μ:=λs=>sgs.length-s.1) (0,[]) ⟨by omega,rfl⟩ ?_ rfl ?_
 ·simp[forget,gp]
 ·rintro⟨i,b⟩ ⟨hi,Aa⟩;simp only at hi Aa;by_cases Ab:i<sgs.length
  ·have d1:=dtT i sgs.length;simp -implicitDefEqProofs only[go_sem,JbH,d1];have DF:=sz_get Ab;have PX:=sgs_len _ (Gl Ab);rw[Gi Ab,sgnF]at Aa;rw[show sgs.getD i []=sgs[i] by rw[Gc,Gd Ab];rfl]at DF;generalize sgs[i]=s at Aa DF PX|-;rw[DF];refine anO ?_;simp -implicitDefEqProofs only[go_sem];refine JW Jp (by decide) ?_;by_cases hb:b.length<s.length
   ·have d2:=dtT b.length s.length;by_cases AQ:a+s.length<=l.length
    ·have d3:((a:Int)+(s.length:Int)<=(l.length:Int))=True:=Kl;have bq:((a:Int)+(s.length:Int)).toNat=a+s.length:=by omega
     have Cx:List.drop a (List.take (a+s.length) l)=(l.drop a).take s.length:=cut_take l a s.length;by_cases hp:(l.drop a).take s.length=s
     ·have e1:((l.drop a).take s.length == s)=true:=beq_iff_eq.2 hp;rw[if_pos ⟨hp,hb⟩]at Aa;simp -implicitDefEqProofs only[go_sem,JbH,d2,d3,DF,bq,Cx,e1];refine⟨Jh,Jh,by omega,by omega,by omega,Jh,(i+1,s),⟨by simp only;omega,Aa⟩,by simp only;omega,?_⟩;simp[forget]
     ·have e1:((l.drop a).take s.length == s)=false:=beq_eq_false_iff_ne.2 hp;rw[if_neg (λh=>hp h.1)]at Aa;simp -implicitDefEqProofs only[go_sem,JbH,d2,d3,DF,bq,Cx,e1];refine⟨Jh,Jh,by omega,by omega,Jh,(i+1,b),⟨by simp only;omega,Aa⟩,by simp only;omega,?_⟩;simp[forget]
    ·have d3:((a:Int)+(s.length:Int)<=(l.length:Int))=False:=Ki;have hp:(l.drop a).take s.length≠s:=by
      intro e;have:=congrArg GR e;rw[Gs,GG]at this;omega
     rw[if_neg (λh=>hp h.1)]at Aa;simp -implicitDefEqProofs only[go_sem,d2,d3];refine⟨Jh,Jh,(i+1,b),⟨by simp only;omega,Aa⟩,by simp only;omega,?_⟩;simp[forget]
   ·have d2:=dfF b.length s.length;rw[if_neg (λh=>hb h.2)]at Aa;simp -implicitDefEqProofs only[go_sem,d2];refine⟨Jh,(i+1,b),⟨by simp only;omega,Aa⟩,by simp only;omega,?_⟩;simp[forget]
  ·have d1:=dfF i sgs.length;have:i=sgs.length:=by omega
   subst this;rw[List.drop_length,sgnF]at Aa;rw[Aa]at El|-;simp -implicitDefEqProofs only[go_sem,JbH,d1];refine⟨Jh,?_⟩;simp only[lxz];rfl
def qAt (c:UInt8):UInt8->Bool:=if isLt c=true then K8 else Xp
section
theorem JgI {q:UInt8->Bool}{l:List UInt8}:∀(n a i:Nat),n=i-a->a<=i->i<Q6 q l a->i<l.length->q (l.getD i 0)=true
 |0,a,i,hn,h1,h2,h3=>by
  have:a=i:=by omega
  subst this
  cases hq:q (l.getD a 0) with
  |true=>rfl
  |false=>rw[Jei h3 hq]at h2;omega
 |n+1,a,i,hn,h1,h2,h3=>by
  cases hq:q (l.getD a 0) with
  |true=>rw[JdI (by omega) hq]at h2;exact JgI n (a+1) i (by omega) (by omega) h2 h3
  |false=>rw[Jei (by omega) hq]at h2;omega
theorem JdJ {q:UInt8->Bool}{l:List UInt8}:∀(n a:Nat),n=l.length-a->Q6 q l a<l.length->q (l.getD (Q6 q l a) 0)=false
 |0,a,hn,h=>by
  have:a<=Q6 q l a:=by unfold Q6;omega
  omega
 |n+1,a,hn,h=>by
  have:a<=Q6 q l a:=by unfold Q6;omega
  cases hq:q (l.getD a 0) with
  |true=>rw[JdI (by omega) hq]at h|-;exact JdJ n (a+1) (by omega) h
  |false=>rw[Jei (by omega) hq];exact hq
theorem lt_dg {c:UInt8}(h:isLt c=true):Xp c=false:=by
 simp only[isLt,Gj,decide_eq_true_eq]at h;have:¬c.toNat<=57:=by omega
 simp[Xp,this]
section
variable {P:Program}{E:Env}{H:List CObj}{T:List CV}
theorem hs_st {d:Option Nat}{n:Nat}{a v:IArg}{id i off z:Nat}{els:List (List CV)}{cs:List CV}(ha:Ka T a=.ptr id i off)(hv:(Ka T v).cells=some cs)(hH:H[id]? = some (.arr z els))(hn:cs.length=n/\Q5 cs=true)(hc:i+1<=els.length/\off+n<=(els.getD i []).length) :
  HS P E ⟨d,.store n a v,none⟩ T H .un (H.set id (.arr z (els.set i (splice (els.getD i []) off cs)))) (.on [id+1],.on [id+1]):=by
 refine⟨λx hx=>?_,λT2 H2 BN hx=>?_⟩
 ·cases x with
  |zero=>simp[hat]
  |succ x=>
   have Ai:¬id=x:=λe=>hx (by simp[Foot.has,e])
   simp[hat,Ai]
 ·have dD:H2[id]? = some (.arr z els):=by
   have:=hx (id+1) (by simp[Foot.has]);simpa [hat,hH]using this
  refine⟨H2.set id (.arr z (els.set i (splice (els.getD i []) off cs))),λx hx=>?_,λx hx=>?_,λ_ _ _ _ _ Ap=>Jet (.inl rfl) (c:=.and (.le (i+1) els.length) (.le (off+n) (els.getD i []).length)) (v:=.un) ?_ hc Ap⟩
  ·simp only[Foot.has,List.mem_cons,List.not_mem_nil,or_false]at hx;subst hx;have h1:=(Gn.1 hH).1;have h2:=(Gn.1 dD).1;simp[hat,h1,h2]
  ·cases x with
   |zero=>simp[hat]
   |succ x=>
    have Ai:¬id=x:=λe=>hx (by simp[Foot.has,e])
    simp[hat,Ai]
  ·rw[<-Qv (Jj BN).2];simp only[exec,ha,hv,dD];rw[if_pos hn]
end
theorem refAtS (l:List UInt8)(a:Nat)(ha:a<l.length)(hl:l.length<=1000000)(h1:isLt (l.getD a 0)=false)(h2:Xp (l.getD a 0)=false):Fn Gb 78 [S l,.int .i64 (a:Int)] (.tup [.agg (lxz (tkL l a).1 (tkL l a).2.1 a),.int .i64 ((a+(tkL l a).2.1.length:Nat):Int),.bool (tkL l a).2.2]):=by
 refine Ja c78_ok rfl rfl λN=>?_
 simp -implicitDefEqProofs only[c78,go_sem];obtain⟨c0,Dx⟩:∃c,c=l.getD a 0:=⟨_,rfl⟩;obtain⟨q,hq⟩:∃q,q=qAt c0:=⟨_,rfl⟩;have DW:q=Xp:=by rw[hq,qAt,Dx];first|rw[if_pos h1]|rw[if_neg (by rw[h1];simp)]
 obtain⟨E,hE⟩:∃E,E=Q6 q l a:=⟨_,rfl⟩;have Uw:E<=l.length:=by rw[hE];exact YO (Gf ha)
 have Ux:a<=E:=by rw[hE];unfold Q6;omega
 have AQ:∀i,a<=i->i<E->q (l.getD i 0)=true:=λi h1 h2=>JgI _ a i rfl h1 (by rw[<-hE];exact h2) (by omega)
 have AV:E<l.length->q (l.getD E 0)=false:=λh=>by rw[hE]at h|-;exact JdJ _ a rfl h
 have aQ:E=a:=by rw[hE,DW];exact Jei ha h2
 have hT:tkL l a=(4,sgnL (l.drop a),!(sgnL (l.drop a) == [])):=by
  unfold tkL;rw[if_neg (by rw[h1];simp),if_neg (by rw[h2];simp)]
 rw[hT];have Eb:((E:Int) == (a:Int))=true:=by rw[aQ];simp
 refine JE (I:=λi:Nat=>a<=i/\i<=E) (inv:=λi=>gp [(0,S l),(0,.int .i64 (a:Int)),(2,.ptr 0 0 0),(2,.int .i64 (i:Int))] 69) (hp:=λ_=>[.arr 3 [[.int .u8 0,S [],.int .i64 0]]]) (μ:=λi=>l.length-i) a ⟨by omega,by omega⟩ ?_ rfl ?_
 ·simp[forget,gp]
 ·rintro i ⟨Me,hi⟩;by_cases Ca:i<E
  ·have Ab:i<l.length:=by omega
   have d1:=dtT i l.length;have CZ:=AQ i Me Ca;simp -implicitDefEqProofs only[go_sem,d1];refine anO ?_;refine Kh (gok rfl) (Qq _) ?_
   cases Ig:Xp (l.getD i 0) with
   |true=>
    simp -implicitDefEqProofs only[go_sem];refine⟨Jh,i+1,⟨by omega,by omega⟩,by omega,?_⟩;simp[forget]
   |false=>
    rw[hq,qAt]at CZ;by_cases BZ:isLt c0=true
    ·rw[if_pos BZ]at CZ;simp only[K8,Ig,Gw]at CZ;simp -implicitDefEqProofs only[go_sem];refine anO ?_;refine Kh (gok rfl) (Kt _) ?_;simp -implicitDefEqProofs only[go_sem,CZ];refine anO ?_;rw[<-Dx];refine Kh (gok rfl) (Kt _) ?_;simp -implicitDefEqProofs only[go_sem,BZ];refine⟨Jh,i+1,⟨by omega,by omega⟩,by omega,?_⟩;simp[forget]
    ·rw[if_neg BZ,Ig]at CZ;cases CZ
  ·have Di:i=E:=by omega
   subst Di;rcases (show l.length<=i\/(i<l.length/\Xp (l.getD i 0)=false/\isLt (l.getD i 0)=false)\/(i<l.length/\Xp (l.getD i 0)=false/\isLt (l.getD i 0)=true/\isLt c0=false) from by
    by_cases h1:i<l.length
    ·have h2:=AV h1;rw[hq,qAt]at h2;by_cases BZ:isLt c0=true
     ·rw[if_pos BZ]at h2;simp only[K8,Gt]at h2;exact .inr (.inl ⟨h1,h2.2,h2.1⟩)
     ·rw[if_neg BZ]at h2
      cases h3:isLt (l.getD i 0) with
      |true=>exact .inr (.inr ⟨h1,h2,rfl,by simpa using BZ⟩)
      |false=>exact .inr (.inl ⟨h1,h2,rfl⟩)
    ·exact .inl (by omega)) with hw|⟨PK,Ev,Im⟩|⟨PK,Ev,Im,PI⟩
   case' inl=>
    have d1:=dfF i l.length;simp -implicitDefEqProofs only[go_sem,d1,Eb]
   case' inr.inl=>
    have d1:=dtT i l.length;simp -implicitDefEqProofs only[go_sem,d1];refine anO ?_;refine Kh (gok rfl) (Qq _) ?_;simp -implicitDefEqProofs only[go_sem,Ev];refine anO ?_;refine Kh (gok rfl) (Kt _) ?_;simp -implicitDefEqProofs only[go_sem,Im,Eb]
   case' inr.inr=>
    have d1:=dtT i l.length;simp -implicitDefEqProofs only[go_sem,d1];refine anO ?_;refine Kh (gok rfl) (Qq _) ?_;simp -implicitDefEqProofs only[go_sem,Ev];refine anO ?_;refine Kh (gok rfl) (Kt _) ?_;simp -implicitDefEqProofs only[go_sem,Im];refine anO ?_;rw[<-Dx];refine Kh (gok rfl) (Kt _) ?_;simp -implicitDefEqProofs only[go_sem,PI,Eb]
   all_goals (
    refine anO ?_;refine JV (refSign l a ha hl) ?_;simp -implicitDefEqProofs only[go_sem,lxz,splice]
   )
theorem refAtL (l:List UInt8)(a:Nat)(ha:a<l.length)(hl:l.length<=1000000)(h1:isLt (l.getD a 0)=true):Fn Gb 78 [S l,.int .i64 (a:Int)] (.tup [.agg (lxz (tkL l a).1 (tkL l a).2.1 a),.int .i64 ((a+(tkL l a).2.1.length:Nat):Int),.bool (tkL l a).2.2]):=by
 refine Ja c78_ok rfl rfl λN=>?_
 simp -implicitDefEqProofs only[c78,go_sem];obtain⟨c0,Dx⟩:∃c,c=l.getD a 0:=⟨_,rfl⟩;obtain⟨q,hq⟩:∃q,q=qAt c0:=⟨_,rfl⟩;have DW:q=K8:=by rw[hq,qAt,Dx];first|rw[if_pos h1]|rw[if_neg (by rw[h1];simp)]
 obtain⟨E,hE⟩:∃E,E=Q6 q l a:=⟨_,rfl⟩;have Uw:E<=l.length:=by rw[hE];exact YO (Gf ha)
 have Ux:a<=E:=by rw[hE];unfold Q6;omega
 have AQ:∀i,a<=i->i<E->q (l.getD i 0)=true:=λi h1 h2=>JgI _ a i rfl h1 (by rw[<-hE];exact h2) (by omega)
 have AV:E<l.length->q (l.getD E 0)=false:=λh=>by rw[hE]at h|-;exact JdJ _ a rfl h
 have h2:=lt_dg h1;have aQ:a<E:=by rw[hE,DW];exact JbR ha (by simp only[K8,h1,Gu])
 have hT:tkL l a=if kws.contains (cut l a E)=true then(1,cut l a E,true) else(2,cut l a E,decide ((cut l a E).length<=12)):=by
  unfold tkL;rw[if_pos h1,hE,DW]
 have Ay:=Jbb Ux Uw;have Cx:(l.take E).drop a=cut l a E:=rfl;rw[hT];have Eb:((E:Int) == (a:Int))=false:=by rw[beq_eq_false_iff_ne];omega
 refine JE (I:=λi:Nat=>a<=i/\i<=E) (inv:=λi=>gp [(0,S l),(0,.int .i64 (a:Int)),(2,.ptr 0 0 0),(2,.int .i64 (i:Int))] 69) (hp:=λ_=>[.arr 3 [[.int .u8 0,S [],.int .i64 0]]]) (μ:=λi=>l.length-i) a ⟨by omega,by omega⟩ ?_ rfl ?_
 ·simp[forget,gp]
 ·rintro i ⟨Me,hi⟩;by_cases Ca:i<E
  ·have Ab:i<l.length:=by omega
   have d1:=dtT i l.length;have CZ:=AQ i Me Ca;simp -implicitDefEqProofs only[go_sem,d1];refine anO ?_;refine Kh (gok rfl) (Qq _) ?_
   cases Ig:Xp (l.getD i 0) with
   |true=>
    simp -implicitDefEqProofs only[go_sem];refine⟨Jh,i+1,⟨by omega,by omega⟩,by omega,?_⟩;simp[forget]
   |false=>
    rw[hq,qAt]at CZ;by_cases BZ:isLt c0=true
    ·rw[if_pos BZ]at CZ;simp only[K8,Ig,Gw]at CZ;simp -implicitDefEqProofs only[go_sem];refine anO ?_;refine Kh (gok rfl) (Kt _) ?_;simp -implicitDefEqProofs only[go_sem,CZ];refine anO ?_;rw[<-Dx];refine Kh (gok rfl) (Kt _) ?_;simp -implicitDefEqProofs only[go_sem,BZ];refine⟨Jh,i+1,⟨by omega,by omega⟩,by omega,?_⟩;simp[forget]
    ·rw[if_neg BZ,Ig]at CZ;cases CZ
  ·have Di:i=E:=by omega
   subst Di;rcases (show l.length<=i\/(i<l.length/\Xp (l.getD i 0)=false/\isLt (l.getD i 0)=false)\/(i<l.length/\Xp (l.getD i 0)=false/\isLt (l.getD i 0)=true/\isLt c0=false) from by
    by_cases h1:i<l.length
    ·have h2:=AV h1;rw[hq,qAt]at h2;by_cases BZ:isLt c0=true
     ·rw[if_pos BZ]at h2;simp only[K8,Gt]at h2;exact .inr (.inl ⟨h1,h2.2,h2.1⟩)
     ·rw[if_neg BZ]at h2
      cases h3:isLt (l.getD i 0) with
      |true=>exact .inr (.inr ⟨h1,h2,rfl,by simpa using BZ⟩)
      |false=>exact .inr (.inl ⟨h1,h2,rfl⟩)
    ·exact .inl (by omega)) with hw|⟨PK,Ev,Im⟩|⟨PK,Ev,Im,PI⟩
   case' inl=>
    have d1:=dfF i l.length;simp -implicitDefEqProofs only[go_sem,d1,Eb,Cx]
   case' inr.inl=>
    have d1:=dtT i l.length;simp -implicitDefEqProofs only[go_sem,d1];refine anO ?_;refine Kh (gok rfl) (Qq _) ?_;simp -implicitDefEqProofs only[go_sem,Ev];refine anO ?_;refine Kh (gok rfl) (Kt _) ?_;simp -implicitDefEqProofs only[go_sem,Im,Eb,Cx]
   case' inr.inr=>
    have d1:=dtT i l.length;simp -implicitDefEqProofs only[go_sem,d1];refine anO ?_;refine Kh (gok rfl) (Qq _) ?_;simp -implicitDefEqProofs only[go_sem,Ev];refine anO ?_;refine Kh (gok rfl) (Kt _) ?_;simp -implicitDefEqProofs only[go_sem,Im];refine anO ?_;rw[<-Dx];refine Kh (gok rfl) (Kt _) ?_;simp -implicitDefEqProofs only[go_sem,PI,Eb,Cx]
   all_goals (
    refine⟨by omega,by omega,?_⟩;refine JV (Qq _) ?_;simp -implicitDefEqProofs only[go_sem,h2];generalize hx:cut l a i=x at Ay|-;have fV:=refHas kws x (by decide);refine Jbi [Foot.no,Foot.no,(.on [2],.on []),Foot.no,Foot.no] Jp (by decide +kernel) ?_;refine⟨_,_,hs_f (.inl rfl) Jfd,_,_,YS rfl rfl trivial,_,_,hs_ld (id:=1) (i:=0) (off:=1) rfl rfl ⟨Gg 1,(by decide:2<=3)⟩,_,_,hs_f (.inl rfl) fV,_,_,YS rfl rfl trivial,?_⟩;simp -implicitDefEqProofs only[vdf,go_sem,splice]
    cases hk:kws.contains x with
    |true=>
     simp -implicitDefEqProofs only[go_sem];rw[show a+x.length=i by omega];rfl
    |false=>
     have e12:decide ((x.length:Int)<=12)=decide (x.length<=12):=decide_eq_decide.2 (by omega);simp -implicitDefEqProofs only[go_sem];refine Jbi [(.on [2],.on []),Foot.no,Foot.no,(.on [2],.on []),Foot.no,Foot.no,(.on [1],.on [1]),Foot.no,Foot.no] Jp (by decide +kernel) ?_;refine⟨_,_,hs_ld (id:=1) (i:=0) (off:=0) rfl rfl ⟨Gg 1,Gg 3⟩,_,_,YS rfl rfl trivial,_,_,YS rfl rfl trivial,_,_,hs_ld (id:=1) (i:=0) (off:=1) rfl rfl ⟨Gg 1,(by decide:2<=3)⟩,_,_,YS rfl rfl trivial,_,_,YS rfl rfl trivial,_,_,hs_st (id:=0) (i:=0) (off:=0) rfl rfl rfl ⟨rfl,rfl⟩ ⟨Gg 1,Gg 3⟩,_,_,YS rfl rfl trivial,_,_,YS rfl rfl trivial,?_⟩;simp -implicitDefEqProofs only[vdf,go_sem,splice,e12];rw[show a+x.length=i by omega];rfl
   )
theorem refAtD (l:List UInt8)(a:Nat)(ha:a<l.length)(hl:l.length<=1000000)(h1:isLt (l.getD a 0)=false)(h2:Xp (l.getD a 0)=true):Fn Gb 78 [S l,.int .i64 (a:Int)] (.tup [.agg (lxz (tkL l a).1 (tkL l a).2.1 a),.int .i64 ((a+(tkL l a).2.1.length:Nat):Int),.bool (tkL l a).2.2]):=by
 refine Ja c78_ok rfl rfl λN=>?_
 simp -implicitDefEqProofs only[c78,go_sem];obtain⟨c0,Dx⟩:∃c,c=l.getD a 0:=⟨_,rfl⟩;obtain⟨q,hq⟩:∃q,q=qAt c0:=⟨_,rfl⟩;have DW:q=Xp:=by rw[hq,qAt,Dx];first|rw[if_pos h1]|rw[if_neg (by rw[h1];simp)]
 obtain⟨E,hE⟩:∃E,E=Q6 q l a:=⟨_,rfl⟩;have Uw:E<=l.length:=by rw[hE];exact YO (Gf ha)
 have Ux:a<=E:=by rw[hE];unfold Q6;omega
 have AQ:∀i,a<=i->i<E->q (l.getD i 0)=true:=λi h1 h2=>JgI _ a i rfl h1 (by rw[<-hE];exact h2) (by omega)
 have AV:E<l.length->q (l.getD E 0)=false:=λh=>by rw[hE]at h|-;exact JdJ _ a rfl h
 have aQ:a<E:=by rw[hE,DW];exact JbR ha h2
 have hT:tkL l a=(3,cut l a E,JbV (cut l a E)):=by
  unfold tkL;rw[if_neg (by rw[h1];simp),if_pos h2,hE,DW]
 have Ay:=Jbb Ux Uw;have Cx:(l.take E).drop a=cut l a E:=rfl;have Ak:=run_all (q:=Xp) (Gf ha);rw[show Q6 Xp l a=E by rw[hE,DW]]at Ak;rw[hT];have Eb:((E:Int) == (a:Int))=false:=by rw[beq_eq_false_iff_ne];omega
 refine JE (I:=λi:Nat=>a<=i/\i<=E) (inv:=λi=>gp [(0,S l),(0,.int .i64 (a:Int)),(2,.ptr 0 0 0),(2,.int .i64 (i:Int))] 69) (hp:=λ_=>[.arr 3 [[.int .u8 0,S [],.int .i64 0]]]) (μ:=λi=>l.length-i) a ⟨by omega,by omega⟩ ?_ rfl ?_
 ·simp[forget,gp]
 ·rintro i ⟨Me,hi⟩;by_cases Ca:i<E
  ·have Ab:i<l.length:=by omega
   have d1:=dtT i l.length;have CZ:=AQ i Me Ca;simp -implicitDefEqProofs only[go_sem,d1];refine anO ?_;refine Kh (gok rfl) (Qq _) ?_
   cases Ig:Xp (l.getD i 0) with
   |true=>
    simp -implicitDefEqProofs only[go_sem];refine⟨Jh,i+1,⟨by omega,by omega⟩,by omega,?_⟩;simp[forget]
   |false=>
    rw[hq,qAt]at CZ;by_cases BZ:isLt c0=true
    ·rw[if_pos BZ]at CZ;simp only[K8,Ig,Gw]at CZ;simp -implicitDefEqProofs only[go_sem];refine anO ?_;refine Kh (gok rfl) (Kt _) ?_;simp -implicitDefEqProofs only[go_sem,CZ];refine anO ?_;rw[<-Dx];refine Kh (gok rfl) (Kt _) ?_;simp -implicitDefEqProofs only[go_sem,BZ];refine⟨Jh,i+1,⟨by omega,by omega⟩,by omega,?_⟩;simp[forget]
    ·rw[if_neg BZ,Ig]at CZ;cases CZ
  ·have Di:i=E:=by omega
   subst Di;rcases (show l.length<=i\/(i<l.length/\Xp (l.getD i 0)=false/\isLt (l.getD i 0)=false)\/(i<l.length/\Xp (l.getD i 0)=false/\isLt (l.getD i 0)=true/\isLt c0=false) from by
    by_cases h1:i<l.length
    ·have h2:=AV h1;rw[hq,qAt]at h2;by_cases BZ:isLt c0=true
     ·rw[if_pos BZ]at h2;simp only[K8,Gt]at h2;exact .inr (.inl ⟨h1,h2.2,h2.1⟩)
     ·rw[if_neg BZ]at h2
      cases h3:isLt (l.getD i 0) with
      |true=>exact .inr (.inr ⟨h1,h2,rfl,by simpa using BZ⟩)
      |false=>exact .inr (.inl ⟨h1,h2,rfl⟩)
    ·exact .inl (by omega)) with hw|⟨PK,Ev,Im⟩|⟨PK,Ev,Im,PI⟩
   case' inl=>
    have d1:=dfF i l.length;simp -implicitDefEqProofs only[go_sem,d1,Eb,Cx]
   case' inr.inl=>
    have d1:=dtT i l.length;simp -implicitDefEqProofs only[go_sem,d1];refine anO ?_;refine Kh (gok rfl) (Qq _) ?_;simp -implicitDefEqProofs only[go_sem,Ev];refine anO ?_;refine Kh (gok rfl) (Kt _) ?_;simp -implicitDefEqProofs only[go_sem,Im,Eb,Cx]
   case' inr.inr=>
    have d1:=dtT i l.length;simp -implicitDefEqProofs only[go_sem,d1];refine anO ?_;refine Kh (gok rfl) (Qq _) ?_;simp -implicitDefEqProofs only[go_sem,Ev];refine anO ?_;refine Kh (gok rfl) (Kt _) ?_;simp -implicitDefEqProofs only[go_sem,Im];refine anO ?_;rw[<-Dx];refine Kh (gok rfl) (Kt _) ?_;simp -implicitDefEqProofs only[go_sem,PI,Eb,Cx]
   all_goals (
    refine⟨by omega,by omega,?_⟩;refine JV (Qq _) ?_;simp -implicitDefEqProofs only[go_sem,h2];generalize hx:cut l a i=x at Ay Ak|-;have OB:=refNumber x Ak (by omega);have fM:=numV_ok x;refine Jbi [(.on [2],.on []),Foot.no,Foot.no,(.on [2],.on []),Foot.no,Foot.no,(.on [1],.on [1]),Foot.no,Foot.no] Jp (by decide +kernel) ?_;refine⟨_,_,hs_ld (id:=1) (i:=0) (off:=0) rfl rfl ⟨Gg 1,Gg 3⟩,_,_,YS rfl rfl trivial,_,_,YS rfl rfl trivial,_,_,hs_ld (id:=1) (i:=0) (off:=1) rfl rfl ⟨Gg 1,(by decide:2<=3)⟩,_,_,hs_f (.inl rfl) OB,_,_,YS rfl rfl trivial,_,_,hs_st (id:=0) (i:=0) (off:=0) rfl rfl rfl ⟨rfl,rfl⟩ ⟨Gg 1,Gg 3⟩,_,_,YS rfl rfl trivial,_,_,YS rfl rfl trivial,?_⟩;simp -implicitDefEqProofs only[vdf,go_sem,splice,fM];rw[show a+x.length=i by omega];rfl
   )
theorem refAt (l:List UInt8)(a:Nat)(ha:a<l.length)(hl:l.length<=1000000):Fn Gb 78 [S l,.int .i64 (a:Int)] (.tup [.agg (lxz (tkL l a).1 (tkL l a).2.1 a),.int .i64 ((a+(tkL l a).2.1.length:Nat):Int),.bool (tkL l a).2.2]):=by
 cases h1:isLt (l.getD a 0) with
 |true=>exact refAtL l a ha hl h1
 |false=>cases h2:Xp (l.getD a 0) with
  |true=>exact refAtD l a ha hl h1 h2
  |false=>exact refAtS l a ha hl h1 h2
end
section
def lxr (l:List (Nat×List UInt8×Nat)):List (List CV):=l.map λt=>lxz t.1 t.2.1 t.2.2
theorem QU {l:List (Nat×List UInt8×Nat)}:(lxr l).length=l.length:=by simp[lxr]
theorem Jc2:∀(l:List (Nat×List UInt8×Nat)),Jq (lxr l)=true
 |[]=>rfl
 |x::l=>by simp[lxr,lxz,Jq,Jm,CV.closed];exact Jc2 l
theorem lxr_app {l:List (Nat×List UInt8×Nat)}{t:Nat×List UInt8×Nat}:lxr (l++[t])=lxr l++[lxz t.1 t.2.1 t.2.2]:=by simp[lxr]
theorem tk_len {l:List UInt8}{a:Nat}(ha:a<l.length)(h:(tkL l a).2.2=true):0<(tkL l a).2.1.length:=by
 unfold tkL at h|-;by_cases h1:isLt (l.getD a 0)=true
 ·have h2:=JbR (q:=K8) ha (by simp only[K8,h1,Gu]);have h3:=Jbb (Gf h2) (YO (q:=K8) (Gf ha));rw[if_pos h1]at h|-
  split <;> (simp only;omega)
 ·rw[if_neg h1]at h|-;by_cases h2:Xp (l.getD a 0)=true
  ·have h4:=JbR (q:=Xp) ha h2;have h3:=Jbb (Gf h4) (YO (q:=Xp) (Gf ha));rw[if_pos h2]at h|-;simp only;omega
  ·rw[if_neg h2]at h|-;simp only[GU,beq_eq_false_iff_ne]at h|-;exact GA.2 h
theorem sgn_in {r:List UInt8}:∀(L:List (List UInt8)) (b:List UInt8),b.length<=r.length->(sgnF r L b).length<=r.length
 |[],b,h=>h
 |s::L,b,h=>by
  simp only[sgnF];refine sgn_in L _ ?_
  split
  ·rename_i hc;have:=congrArg GR hc.1;rw[Gs]at this;omega
  ·exact h
theorem tk_end {l:List UInt8}{a:Nat}(ha:a<l.length):a+(tkL l a).2.1.length<=l.length:=by
 unfold tkL;by_cases h1:isLt (l.getD a 0)=true
 ·have h2:=JbR (q:=K8) ha (by simp only[K8,h1,Gu]);have h4:=YO (q:=K8) (Gf ha);have h3:=Jbb (Gf h2) h4;rw[if_pos h1]
  split <;> (simp only;omega)
 ·rw[if_neg h1];by_cases h2:Xp (l.getD a 0)=true
  ·have h5:=JbR (q:=Xp) ha h2;have h4:=YO (q:=Xp) (Gf ha);have h3:=Jbb (Gf h5) h4;rw[if_pos h2];simp only;omega
  ·rw[if_neg h2];have:=sgn_in (r:=l.drop a) sgs [] (by simp);rw[GG]at this;show a+(sgnF (l.drop a) sgs []).length<=l.length;omega
section
variable {P:Program}
theorem YW {l l':List CV}(h:wks l l'):wk (.tup l) (.tup l'):=by
 rintro own imm v ⟨vs,rfl,hr⟩;exact⟨vs,rfl,Jac h hr⟩
theorem Jdd {l l':List CV}(h:wks l l'):wk (.agg l) (.agg l'):=by
 rintro own imm v ⟨vs,rfl,hr⟩;exact⟨vs,rfl,Jac h hr⟩
theorem Ja3 {f:Nat}{args:List CV}{v0:CV}(h:CallsC P Env.none f args [] λv H'=>wk v v0\/∃id z els,H'[id]? = some (.arr z els)/\Jq els=true/\wk (frz id z els v) v0)(ha:Jm args=true)(hv:v0.closed=true):Fn P f args v0:=by
 refine Jhf ?_ ha hv;intro m w vs hs BI;refine(h m w vs hs BI).mono ?_;rintro e w' ⟨r,m',v,H',h1,h2,h3,h4,g⟩;rcases g with g|⟨id,z,els,g1,hc,g⟩
 ·exact⟨r,m',v0,H',h1,h2,h3,g _ _ _ h4,rfl⟩
 ·obtain⟨imm',Az,he,hf⟩:=Sim.freeze (n0:=([]:List CObj).length) h3 g1 hc;exact⟨r,_,_,_,h1,h2.trans he,Az,g _ _ _ (hf _ _ h4),rfl⟩
end
theorem JdK {z:Nat}{els:List (List CV)}{id n:Nat}{cap:Option Nat}{x y:CV}(hx:x.closed=true)(hy:y.closed=true)(hn:n=els.length):wk (frz id z els (.tup [.slc id 0 n cap,x,y])) (.tup [.rslc z els none,x,y]):=by
 subst hn;simp only[frz,JY,if_true,Gx,Gg,GK,Gq,XP x hx,XP y hy];exact YW ⟨wk.rslc,wk.refl _,wk.refl _,trivial⟩
theorem refRead (l:List UInt8)(hl:l.length<=1000000):Fn Gb 59 [S l] (.tup [.rslc 3 (lxr (JaV l).1) none,.int .i64 ((JaV l).2.1:Nat),.int .i64 (JaV l).2.2]):=by
 refine Ja3 ?_ rfl rfl;refine Kc c59_ok λN=>?_
 simp only[c59,go_sem];refine JV (refLexCheck l hl) ?_;simp only[go_sem]
 cases he:((Yd l).2 != 0) with
 |true=>
  have EC:(Yd l).2≠0:=by simpa using he
  have hr:JaV l=([],(Yd l).1,(Yd l).2):=by unfold JaV;rw[if_pos EC]
  rw[hr];simp only[go_sem];exact .inr ⟨0,3,[],rfl,rfl,JdK rfl rfl rfl⟩
 |false=>
  have EC:(Yd l).2=0:=by simpa using he
  have hr:JaV l=rdF l (l.length+1) 0 []:=by unfold JaV;rw[if_neg (by simp[EC])]
  rw[hr];obtain⟨R,hR⟩:∃R,R=rdF l (l.length+1) 0 []:=⟨_,rfl⟩;rw[<-hR];simp only[go_sem];refine JV (refGap l 0 (Nat.zero_le _) hl) ?_;simp only[go_sem];refine Jv (σ:=Nat×Nat×List (Nat×List UInt8×Nat)) (I:=λs=>s.2.1<=l.length/\l.length+1<=s.1+s.2.1/\s.2.2.length<=900/\R=rdF l s.1 s.2.1 s.2.2)
   (inv:=λs=>gp [(0,S l),(6,.slc 0 0 (lxr s.2.2).length (Jhy (lxr s.2.2))),(0,.int .i64 (YU l s.2.1:Nat))] 45) (hp:=λs=>[.arr 3 (lxr s.2.2)]) (μ:=λs=>s.1) (l.length+1,0,[]) [0] ⟨by simp,by simp,by simp,hR⟩ rfl ?_ rfl ?_
  ·simp[forget,JB,ren,Jn,gp,lxr,Jhy]
  ·rintro⟨n,b,acc⟩ ⟨h1,h2,h3,Aa⟩
   dsimp only at h1 h2 h3 Aa|-
   have Cb:=gapE_ge l b;by_cases Ab:YU l b<l.length
   ·have d1:(((YU l b:Nat):Int)<(l.length:Int))=True:=Kl;obtain⟨n,rfl⟩:∃n',n=n' + 1:=⟨n-1,by omega⟩;rw[rdF,if_pos Ab]at Aa;have hT:=refAt l (YU l b) Ab hl;have Dn:=tk_len Ab;have SN:=tk_end Ab;generalize YU l b=at_ at *
    simp only[go_sem,d1];refine JV hT ?_;clear hT;generalize tkL l at_=T at Aa Dn SN|-
    obtain⟨k,x,ok⟩:=T
    dsimp only at Aa Dn SN|-
    cases ok with
    |false=>
     rw[if_neg (by simp)]at Aa;rw[Aa];simp only[go_sem,lxz,splice];exact .inr ⟨2,3,[],rfl,rfl,JdK rfl rfl rfl⟩
    |true=>
     rw[if_pos rfl]at Aa;by_cases h9:acc.length=900
     ·have d2:(((lxr acc).length:Int) == 900)=true:=by rw[beq_iff_eq,QU];omega
      rw[if_pos h9]at Aa;rw[Aa];simp only[go_sem,lxz,splice,d2];exact .inr ⟨2,3,[],rfl,rfl,JdK rfl rfl rfl⟩
     ·have d2:(((lxr acc).length:Int) == 900)=false:=by rw[beq_eq_false_iff_ne,QU];omega
      rw[if_neg h9]at Aa;simp only[go_sem,lxz,splice,d2,Jy];refine⟨⟨by rw[QU];omega,by rw[QU];omega⟩,?_⟩;have hG:=refGap l (at_+x.length) SN hl;refine JV hG ?_;simp only[go_sem];have D5:=Dn rfl;have gY:Jhy (lxr (acc++[(k,x,at_)]))=none:=by rw[lxr_app,Jbv]
      have Am:(lxr acc).length+1=(lxr (acc++[(k,x,at_)])).length:=by simp[QU]
      refine⟨(n,at_+x.length,acc++[(k,x,at_)]),[3],⟨SN,by simp only;omega,by simp;omega,Aa⟩,by simp only;omega,rfl,?_,?_⟩
      ·simp only[Kq,Gm,Gv,go_sem,Jo];have hc:=Jc (ρ:=[3]) (Jc2 (acc++[(k,x,at_)]));rw[lxr_app]at hc|-;simp only[lxz]at hc|-;rw[hc]
      ·simp only[gY,Am];simp[forget,JB,ren,Jn]
   ·have d1:(((YU l b:Nat):Int)<(l.length:Int))=False:=Ki;have O5:R=(acc,0,0):=by
     rw[Aa]
     cases n with
     |zero=>rfl
     |succ n=>rw[rdF,if_neg Ab]
    rw[O5];simp only[go_sem,d1];exact .inr ⟨0,3,lxr acc,rfl,Jc2 _,JdK rfl rfl rfl⟩
theorem refKind (l:List UInt8)(hl:l.length<=1000000):Fn Gb 68 [S l] (.int .u8 (kindR l)):=by
 refine Ja c68_ok rfl rfl λN=>?_
 simp only[c68,go_sem];refine JV (refRead l hl) ?_;simp only[go_sem];unfold kindR;obtain⟨ts,p,e⟩:=JaV l;simp only
 cases he:(e != 0) with
 |true=>
  have EC:e≠0:=by simpa using he
  simp only[go_sem]
  split
  ·rename_i h;cases h;rw[if_neg (λh=>EC h.1)];rfl
  ·rfl
 |false=>
  have EC:e=0:=by simpa using he
  subst EC
  match ts with
  |[]=>
   simp only[go_sem,QU,GI]
  |t::u::r=>
   have hn:(((r.length+1+1:Nat):Int) != 1)=true:=by rw[bne_iff_ne];omega
   simp only[go_sem,QU,hn]
  |[t]=>
   obtain⟨k,x,a⟩:=t;by_cases hx:x=l
   ·have e1:(x == l)=true:=by simp[hx]
    simp only[go_sem,lxr,lxz,Gm,Gv,e1,show (((1:Nat):Int) != 1)=false from rfl];simp[hx]
   ·have e1:(x == l)=false:=by simp[hx]
    simp only[go_sem,lxr,lxz,Gm,Gv,e1,show (((1:Nat):Int) != 1)=false from rfl];simp[hx]
end
theorem JbA (n a b:Int):Fn Gb 45 [.int .i64 n,.int .i64 a,.int .i64 b] (.bool (inI a b n)):=by
 refine Ja c45_ok rfl rfl λN=>?_
 simp +contextual only[c45,go_sem,inI]
def inN (a b k:Nat):Bool:=decide (a<=k) && decide (k<=b)
theorem natle (a k:Nat):decide ((a:Int)<=(k:Int))=decide (a<=k):=decide_eq_decide.2 (by omega)
theorem Jdy (a k:Nat):((k:Int) == (a:Int))=(k == a):=by
 rw[Gh];simp;omega
theorem refIsExpr (k:Nat):Fn Gb 10 [.int .u8 k] (.bool (inN 1 29 k)):=by
 refine Ja c10_ok rfl rfl λN=>?_
 have h1:=natle 1 k;have h2:=natle k 29;simp only[Ga]at h1 h2;simp +contextual only[c10,go_sem,inN];refine⟨λh=>?_,λh=>?_⟩
 ·congr 1;rw[Gh];simp;omega
 ·congr 1;rw[Gh];simp;omega
theorem refIsType (k:Nat):Fn Gb 133 [.int .u8 k] (.bool (inN 60 63 k)):=by
 refine Ja c133_ok rfl rfl λN=>?_
 simp +contextual only[c133,go_sem,inN];refine⟨λh=>?_,λh=>?_⟩
 ·congr 1;rw[Gh];simp;omega
 ·congr 1;rw[Gh];simp;omega
theorem refIsPart (k:Nat):Fn Gb 134 [.int .u8 k] (.bool (k == 46 || k == 47)):=by
 refine Ja c134_ok rfl rfl λN=>?_
 simp +contextual only[c134,go_sem];refine⟨λh=>?_,λh=>?_⟩
 ·congr 1;rw[Gh];simp at h|-;omega
 ·congr 1;rw[Gh];simp at h|-;omega
def isR (k c:Nat):Bool:=if c=200 then inN 1 29 k else if c=201 then inN 60 63 k else if c=202 then(k == 46 || k == 47) else k == c
theorem refIs (t:Tr)(n:Int)(c:Nat)(h0:0<=n)(h1:n<t.nodes.length):Fn Gb 98 [t.cv,.int .i64 n,.int .u8 c] (.bool (isR (Jt t.nodes n) c)):=by
 have Ab:n.toNat<t.nodes.length:=by omega
 have hk:Jt t.nodes n=(t.nodes.getD n.toNat default).k:=rfl;refine Ja c98_ok rfl rfl λN=>?_
 simp +contextual only[c98,go_sem,Tr.cv,Tr.row,Jb];rw[QT Ab];refine anO ?_;simp +contextual only[go_sem,Nd.cv];rw[<-hk];generalize Jt t.nodes n=k;have q0:=Jdy 200 c;have q1:=Jdy 201 c;have q2:=Jdy 202 c;simp only[Ga]at q0 q1 q2;unfold isR;by_cases e0:c=200
 ·subst e0;simp +contextual only[go_sem,Ga];refine JV (refIsExpr k) ?_;simp +contextual only[go_sem]
 ·have q0':((c:Int) == 200)=false:=by rw[q0];simpa using e0
  rw[if_neg e0];by_cases e1:c=201
  ·subst e1;simp +contextual only[go_sem,Ga];refine JV (refIsType k) ?_;simp +contextual only[go_sem]
  ·have q1':((c:Int) == 201)=false:=by rw[q1];simpa using e1
   rw[if_neg e1];by_cases e2:c=202
   ·subst e2;simp +contextual only[go_sem,Ga];refine JV (refIsPart k) ?_;simp +contextual only[go_sem]
   ·have q2':((c:Int) == 202)=false:=by rw[q2];simpa using e2
    rw[if_neg e2];have q3:=Jdy c k;simp +contextual only[go_sem,q0',q1',q2',q3]
def kinds (l:List Nd)(x:Nd):List Nat:=x.kids.map (Jt l)
theorem kinds_get {l:List Nd}{x:Nd}{j:Nat}(h:j<x.kids.length):(kinds l x)[j]? = some (Jt l (x.kids.getD j 0)):=by
 simp[kinds,Gc,Gd h]
def kidsR (ks:List Nat)(a b:Int)(c:Nat):Bool:=decide (0<=a) && decide (a<=b) && decide (b<=ks.length) && ((ks.take b.toNat).drop a.toNat).all λk=>isR k c
theorem refKids (t:Tr)(x:Nd)(hx:x.Fit)(hm:t.nodes.length<=1400)(hk:∀k∈x.kids,0<=k/\k<t.nodes.length)(a b:Int)(c:Nat) :
  Fn Gb 66 [t.cv,.agg x.cv,.int .i64 a,.int .i64 b,.int .u8 c] (.bool (kidsR (kinds t.nodes x) a b c)):=by
 have Aw:(kinds t.nodes x).length=x.kids.length:=by simp[kinds]
 have BK:=hx.kidn;refine Ja c66_ok rfl rfl λN=>?_
 by_cases hA:a<0\/b<a\/(x.kids.length:Int)<b
 ·have hr:kidsR (kinds t.nodes x) a b c=false:=by
   unfold kidsR;rw[Aw];rw[Bool.eq_false_iff];intro h;simp only[Gj,decide_eq_true_eq]at h;omega
  rw[hr];by_cases h1:a<0
  ·have d1:(a<0)=True:=eq_true h1;simp +contextual only[c66,go_sem,Tr.cv,Tr.row,Nd.cv,d1]
  ·have d1:(a<0)=False:=eq_false h1;by_cases h2:b<a
   ·have d2:(b<a)=True:=eq_true h2;simp +contextual only[c66,go_sem,Tr.cv,Tr.row,Nd.cv,d1,d2]
   ·have d2:(b<a)=False:=eq_false h2;have d3:((x.kids.length:Int)<b)=True:=Kl;simp +contextual only[c66,go_sem,Tr.cv,Tr.row,Nd.cv,d1,d2,Jg,d3]
 ·have d1:(a<0)=False:=Ki;have d2:(b<a)=False:=Ki;have d3:((x.kids.length:Int)<b)=False:=Ki;have hr:kidsR (kinds t.nodes x) a b c=((kinds t.nodes x).take b.toNat |>.drop a.toNat).all λk=>isR k c:=by
   unfold kidsR;rw[Aw,decide_eq_true (show 0<=a by omega),decide_eq_true (show a<=b by omega),decide_eq_true (show b<=(x.kids.length:Int) by omega)];rfl
  rw[hr];simp +contextual only[c66,go_sem,Tr.cv,Tr.row,Nd.cv,Jg,d1,d2,d3];refine Jd (id:=0) (z:=2) (els:=[t.row]) rfl rfl ?_;simp only[go_sem,JY,Ky,frz,Qc];refine Jd (id:=1) (z:=5) (els:=[x.cv]) rfl rfl ?_;simp only[go_sem,JY,Ky,frz,Qc];generalize hL:(kinds t.nodes x).take b.toNat=L;have dA:L.length=b.toNat:=by rw[<-hL];simp[Aw];omega
  refine JE (I:=λi:Nat=>a.toNat<=i/\i<=b.toNat/\(L.drop a.toNat).all (λk=>isR k c)=(L.drop i).all λk=>isR k c) (inv:=λi=>gp [(3,.int .i64 b),(0,.int .u8 c),(0,.rptr t.row),(0,.rptr x.cv),(4,.int .i64 i)] 29) (hp:=λ_=>[.dead,.dead]) (μ:=λi=>b.toNat-i) a.toNat ⟨by omega,by omega,rfl⟩ ?_ rfl ?_
  ·have:((a.toNat:Nat):Int)=a:=by omega
   simp[forget,gp,this]
  ·rintro i ⟨h1,h2,Aa⟩;by_cases Ab:i<b.toNat
   ·have d4:((i:Int)<b)=True:=Kl;have Ui:i<x.kids.length:=by omega
    have AC:x.kids.getD i 0∈x.kids:=by
     rw[Gc,Gd Ui];exact Gl Ui
    have hb:=hk _ AC;have Sv:L[i]? = some (Jt t.nodes (x.kids.getD i 0)):=by
     rw[<-hL,GD,if_pos Ab,kinds_get Ui]
    have Su:=(Gn.1 Sv).1;rw[Gi Su,(Gn.1 Sv).2,GN]at Aa;simp +contextual only[go_sem,d4];refine JW Jp (by decide) ?_;simp only[go_sem,Tr.row,Nd.cv,Jg];rw[JH Ui];refine anO ?_;simp only[go_sem];refine Kb (.inl rfl) (refIs t _ c hb.1 hb.2) ?_;simp only[go_sem]
    cases hq:isR (Jt t.nodes (x.kids.getD i 0)) c with
    |false=>
     rw[hq]at Aa;simp +contextual only[go_sem];rw[Aa];rfl
    |true=>
     rw[hq]at Aa;simp +contextual only[go_sem];refine⟨Jh,i+1,⟨by omega,by omega,by simpa using Aa⟩,by omega,?_⟩;simp[forget]
   ·have d4:((i:Int)<b)=False:=Ki;simp +contextual only[go_sem,d4];rw[Aa,Gp (by omega)];rfl
theorem refLimits (t:Tr):Fn Gb 44 [t.cv] (.bool (decide (¬(700<t.nodes.length\/20<t.items.length)))):=by
 refine Ja c44_ok rfl rfl λN=>?_
 simp +contextual only[c44,go_sem,Tr.cv,Tr.row,Jg,Jb];refine⟨λh=>?_,λh=>?_⟩
 ·congr 1
  exact decide_eq_decide.2 (by omega)
 ·congr 1
  symm
  rw[decide_eq_false_iff_not];omega
theorem refMany (t:Tr)(x:Nd)(hx:x.Fit)(hk:∀k∈x.kids,0<=k/\k<t.nodes.length)(c:Nat) :
  Fn Gb 67 [t.cv,.agg x.cv,.int .u8 c] (.int .i64 ((kinds t.nodes x).count c:Nat)):=by
 have Aw:(kinds t.nodes x).length=x.kids.length:=by simp[kinds]
 have BK:=hx.kidn;refine Ja c67_ok rfl rfl λN=>?_
 simp +contextual only[c67,go_sem,Tr.cv,Tr.row,Nd.cv];refine Jd (id:=0) (z:=2) (els:=[t.row]) rfl rfl ?_;simp only[go_sem,JY,Ky,frz,Qc];refine Jd (id:=1) (z:=5) (els:=[x.cv]) rfl rfl ?_;simp only[go_sem,JY,Ky,frz,Qc];generalize hL:kinds t.nodes x=L at Aw;refine JE (I:=λi:Nat=>i<=L.length) (inv:=λi=>gp [(2,.int .u8 c),(0,.rptr t.row),(0,.rptr x.cv),(2,.int .i64 ((L.take i).count c:Nat)),(0,.int .i64 i)] 22) (hp:=λ_=>[.dead,.dead]) (μ:=λi=>L.length-i) 0 (by omega) ?_ rfl ?_
 ·simp[forget,gp]
 ·intro i hi;have hc:=List.count_le_length (a:=c) (l:=L.take i);rw[Gs]at hc;by_cases Ab:i<x.kids.length
  ·have d4:=dtT i x.kids.length;have AC:x.kids.getD i 0∈x.kids:=by
    rw[Gc,Gd Ab];exact Gl Ab
   have hb:=hk _ AC;have Sv:L[i]? = some (Jt t.nodes (x.kids.getD i 0)):=by rw[<-hL,kinds_get Ab]
   have Su:=(Gn.1 Sv).1;have Db:(L.take (i+1)).count c=(L.take i).count c+if Jt t.nodes (x.kids.getD i 0) == c then 1 else 0:=by
    rw[List.take_add_one,Sv,List.count_append];simp[List.count_singleton]
   simp +contextual only[go_sem,Nd.cv,Jg,d4];refine JW Jp (by decide) ?_;simp only[go_sem,Tr.row,Jg];rw[JH Ab];refine anO ?_;simp only[go_sem,Jb];rw[QT (by omega)];refine anO ?_;simp only[go_sem,Nd.cv];rw[show ((t.nodes.getD (x.kids.getD i 0).toNat default).k:Int)=(Jt t.nodes (x.kids.getD i 0):Int) from rfl,Jdy]
   cases hq:(Jt t.nodes (x.kids.getD i 0) == c) with
   |false=>
    rw[hq]at Db;simp +contextual only[go_sem];refine⟨Jh,i+1,by omega,by omega,?_⟩;rw[Db];simp[forget]
   |true=>
    rw[hq]at Db;simp +contextual only[go_sem];refine⟨Jh,Jh,i+1,by omega,by omega,?_⟩;rw[Db];simp[forget]
  ·have d4:=dfF i x.kids.length;have:i=L.length:=by omega
   subst this;simp +contextual only[go_sem,Nd.cv,Jg,d4,Gq]
theorem refFirst (t:Tr){m:Nat}{o:List Int}(ho:Jw ((JF t.nodes).take m) []=some o)(hm:m<=t.nodes.length)(n:Nat)(hn:n<m) :
  Fn Gb 37 [t.cv,.int .i64 (n:Int)] (.int .i64 (fs o n)):=by
 refine Ja c37_ok rfl rfl λN=>?_
 simp +contextual only[c37,go_sem,Tr.cv,Tr.row];refine Jd (id:=0) (z:=2) (els:=[t.row]) rfl rfl ?_;simp only[go_sem,JY,Ky,frz,Qc];refine JE (I:=λi:Nat=>i<m/\fs o n=fs o i) (inv:=λi=>gp [(1,.int .i64 (i:Int)),(0,.rptr t.row)] 19) (hp:=λ_=>[.dead]) (μ:=λi=>i) n ⟨hn,rfl⟩ ?_ rfl ?_
 ·simp[forget,gp]
 ·rintro i ⟨hi,Aa⟩;have Ab:i<t.nodes.length:=by omega
  have hK:((JF t.nodes).take m)[i]? = some (t.nodes.getD i default).kids:=by
   rw[GD,if_pos hi,Kg Ab]
  have hg:=QT Ab;generalize t.nodes.getD i default=x at hK hg;simp +contextual only[go_sem,Tr.row,Jb,hg,Nd.cv,Jg];refine anO ?_
  cases hk:x.kids with
  |nil=>
   rw[hk]at hK;have:=firstsF_leaf ho hK;simp +contextual only[go_sem];rw[Aa];unfold fs;rw[Gy,this]
  |cons k ks=>
   rw[hk]at hK;obtain⟨h1,h2⟩:=firstsF_kid ho hK;have h3:=XG ho hK k (by simp);have d4:((0:Int)<((ks.length+1:Nat):Int))=True:=Kl;simp +contextual only[go_sem,d4,iz,Gm];have BK:((k.toNat:Nat):Int)=k:=by omega
   refine⟨by omega,k.toNat,⟨by omega,?_⟩,by omega,?_⟩
   ·rw[Aa];unfold fs;rw[Gy,Gy,h1]
   ·rw[BK];simp[forget]
theorem JfF (t:Tr){m:Nat}{o:List Int}(ho:Jw ((JF t.nodes).take m) []=some o)(hm:m<=t.nodes.length)(Cq:t.nodes.length<=1400)(l:List Int)(hl:l.length<=1000)(e:Nat)(he:e<=m) :
  Fn Gb 46 [t.cv,.rslc 1 (iz l) none,.int .i64 (e:Int)] (.tup [.int .i64 (Jfn (fs o) l.reverse e).1,.bool (Jfn (fs o) l.reverse e).2]):=by
 have Ap:=QH _ _ _ Q3.nil ho;have Bb:=QC _ _ _ ho;simp only[GI,Gx,Gs,JF,List.length_map]at Bb;refine Ja c46_ok rfl rfl λN=>?_
 simp +contextual only[c46,go_sem,Tr.cv,Tr.row,Jg];refine⟨Jh,?_⟩;refine Jd (id:=0) (z:=2) (els:=[t.row]) rfl rfl ?_;simp only[go_sem,JY,Ky,frz,Qc];refine JE (σ:=Nat×Nat) (I:=λs=>s.1<=l.length/\s.2<=m/\Jfn (fs o) l.reverse e=Jfn (fs o) (l.take s.1).reverse s.2) (inv:=λs=>gp [(1,.rslc 1 (iz l) none),(0,.int .i64 (s.2:Int)),(0,.rptr t.row),(4,.int .i64 ((s.1:Int)-1))] 29) (hp:=λ_=>[.dead]) (μ:=λs=>s.1) (l.length,e) ⟨by simp,he,by simp⟩ ?_ rfl ?_
 ·simp[forget,gp]
 ·rintro⟨j,q⟩ ⟨hj,hq,Aa⟩
  dsimp only at hj hq Aa
  cases j with
  |zero=>
   simp only[List.take_zero,List.reverse_nil,Jfn]at Aa;have d1:((0:Int)<=((0:Nat):Int)-1)=False:=Ki;simp +contextual only[go_sem,Aa]
  |succ j=>
   have Bc:j<l.length:=by omega
   have Fh:(l.take (j+1)).reverse=l.getD j 0::(l.take j).reverse:=by
    rw[Gz Bc,List.reverse_append,Gc,Gd Bc];rfl
   rw[Fh,Jfn]at Aa;have SL:(((j+1:Nat):Int)-1).toNat=j:=by omega
   have d1:((0:Int)<=((j+1:Nat):Int)-1)=True:=Kl;have Ar:=JH Bc;generalize l.getD j 0=k at Aa Ar;by_cases hc:k≠(q:Int)-1\/k<0
   ·rw[if_pos hc]at Aa;by_cases Dc:k=(q:Int)-1
    ·have e1:(k != (q:Int)-1)=false:=by simp[Dc]
     have e2:(k<0)=True:=Kl;simp +contextual only[go_sem,d1,Jg,SL,Ar,e1,e2,Aa];exact⟨by omega,Jh,by omega⟩
    ·have e1:(k != (q:Int)-1)=true:=by simp[Dc]
     simp +contextual only[go_sem,d1,Jg,SL,Ar,e1,Aa];exact⟨by omega,Jh⟩
   ·rw[if_neg hc]at Aa;have Dc:k=(q:Int)-1:=by omega
    have e1:(k != (q:Int)-1)=false:=by simp[Dc]
    have e2:(k<0)=False:=Ki;have Aw:k.toNat<m:=by omega
    have FX:((k.toNat:Nat):Int)=k:=by omega
    have hf:=Jhc Ap (i:=k) (by omega) (by rw[Bb];omega);have Bn:((fs o k).toNat:Int)=fs o k:=by omega
    simp +contextual only[go_sem,d1,Jg,SL,Ar,e1,e2];refine⟨by omega,Jh,by omega,?_⟩;refine JW Jp (by decide) ?_;simp only[go_sem,Tr.row,Jg,SL,Ar];refine anO ?_;have hF:=refFirst t ho hm k.toNat Aw;rw[FX]at hF;refine Kb (.inl rfl) hF ?_;simp +contextual only[go_sem];refine⟨Jh,(j,(fs o k).toNat),⟨by simp only;omega,by simp only;omega,?_⟩,by simp only;omega,?_⟩
    ·rw[Aa];simp only[Bn]
    ·simp only[Bn];simp[forget]
theorem let_all:∀k:Fin 256,(Jdz k.val=83↔k.val=41)/\(Jdz k.val=78↔k.val=44):=by decide +kernel
theorem Je3 {l:List Nd}{x:Nd}(hn:∀y∈l,y.k<256)(hk:∀k∈x.kids,0<=k/\k<l.length){c:Nat}{b:UInt8}(h:∀k:Nat,k<256->(Jdz k=b↔k=c)):(kinds l x).count c=Qo b (lets l x):=by
 unfold kinds lets Qo;have:∀ks:List Int,(∀k∈ks,0<=k/\k<l.length)->(ks.map (Jt l)).count c=(ks.map λk=>Jdz (Jt l k)).count b:=by
  intro ks
  induction ks with
  |nil=>intro _;rfl
  |cons k ks ih=>
   intro BH;have hr:=BH k (by simp);have Ab:k.toNat<l.length:=by omega
   have BL:Jt l k<256:=by
    unfold Jt;rw[Gc,Gd Ab];exact hn _ (Gl Ab)
   have he:=h _ BL;rw[Gm,Gm,GJ,GJ,ih (λq hq=>BH q (by simp[hq]))]
   congr 1
   by_cases e:Jt l k=c
   ·rw[if_pos (by simp[e]),if_pos (by simp[he.2 e])]
   ·rw[if_neg (by simp[e]),if_neg (by simp;exact λh2=>e (he.1 h2))]
 exact this x.kids hk
theorem refSized (t:Tr)(i:Nat)(hi:i<t.nodes.length)(hm:t.nodes.length<=1400)(hx:(t.nodes.getD i default).Fit)(hn:∀y∈t.nodes,y.k<256)(hk:∀k∈(t.nodes.getD i default).kids,0<=k/\k<t.nodes.length) :
  Fn Gb 49 [t.cv,.int .i64 (i:Int)] (.bool (Qf (t.nodes.getD i default).k (t.nodes.getD i default).n (lets t.nodes (t.nodes.getD i default)))):=by
 have hg:=QT hi;generalize Mj:t.nodes.getD i default=x at hx hk hg|-;have BK:=hx.kidn;have CJ:=Kv (l:=t.nodes) (x:=x);have Dc:=Je3 hn hk (c:=41) (b:=83) (λk h=>(let_all ⟨k,h⟩).1);have Dj:=Je3 hn hk (c:=44) (b:=78) (λk h=>(let_all ⟨k,h⟩).2);have Sr:=refMany t x hx hk 41;have Sq:=refMany t x hx hk 44;rw[Dc]at Sr;rw[Dj]at Sq;simp only[Ga]at Sr Sq;have U3:=hx.n;obtain⟨k,text,n,kids,pl⟩:=x;generalize lets t.nodes ⟨k,text,n,kids,pl⟩=hv at CJ Sr Sq|-;simp only[Nd.cv]at hg Sr Sq BK CJ U3|-;rcases (show (k=65\/k=26\/k=40\/k=45\/k=41\/k=28\/k=29\/k=48\/k=47)\/(k≠65/\k≠26/\k≠40/\k≠45/\k≠41/\k≠28/\k≠29/\k≠48/\k≠47) by omega) with (rfl|rfl|rfl|rfl|rfl|rfl|rfl|rfl|rfl)|rest
 ·refine Ja c49_ok rfl rfl λN=>?_
  simp (maxSteps:=2000000) -implicitDefEqProofs only[c49,go_sem,Tr.cv,Tr.row,Jb,Jg,hg,Ga];refine⟨⟨by omega,by omega⟩,?_⟩;refine JV (JbA n 0 5) ?_
  cases hb:inI 0 5 n with
  |false=>simp (maxSteps:=2000000) -implicitDefEqProofs only[go_sem];simp[Qf,hb]
  |true=>
   have Cr:=hb;simp only[inI,Gj,decide_eq_true_eq]at Cr;simp (maxSteps:=2000000) -implicitDefEqProofs only[go_sem];refine⟨Jh,Jh,?_⟩;refine Kh (gok rfl) (JbA _ 1 4) ?_;simp (maxSteps:=2000000) -implicitDefEqProofs only[go_sem];simp[Qf,hb,CJ]
 ·refine Ja c49_ok rfl rfl λN=>?_
  simp (maxSteps:=2000000) -implicitDefEqProofs only[c49,go_sem,Tr.cv,Tr.row,Jb,Jg,hg,Ga];refine⟨⟨by omega,by omega⟩,?_⟩
  congr 1
  simp only[Qf];rw[Gh];simp;omega
 ·refine Ja c49_ok rfl rfl λN=>?_
  simp (maxSteps:=2000000) -implicitDefEqProofs only[c49,go_sem,Tr.cv,Tr.row,Jb,Jg,hg,Ga];refine⟨⟨by omega,by omega⟩,?_⟩;refine JV (JbA n 0 12) ?_
  cases hb:inI 0 12 n with
  |false=>simp (maxSteps:=2000000) -implicitDefEqProofs only[go_sem];simp[Qf,hb]
  |true=>
   have Cr:=hb;simp only[inI,Gj,decide_eq_true_eq]at Cr;simp (maxSteps:=2000000) -implicitDefEqProofs only[go_sem];refine⟨Jh,?_⟩;refine Kh (gok rfl) (JbA _ 1 4) ?_;simp (maxSteps:=2000000) -implicitDefEqProofs only[go_sem];simp[Qf,hb,CJ]
 ·refine Ja c49_ok rfl rfl λN=>?_
  simp (maxSteps:=2000000) -implicitDefEqProofs only[c49,go_sem,Tr.cv,Tr.row,Jb,Jg,hg,Ga];refine⟨⟨by omega,by omega⟩,?_⟩;refine JV (JbA _ 1 4) ?_;simp (maxSteps:=2000000) -implicitDefEqProofs only[go_sem];simp[Qf,CJ]
 ·refine Ja c49_ok rfl rfl λN=>?_
  simp (maxSteps:=2000000) -implicitDefEqProofs only[c49,go_sem,Tr.cv,Tr.row,Jb,Jg,hg,Ga];refine⟨⟨by omega,by omega⟩,?_⟩;refine JV (JbA n 1 4) ?_;simp (maxSteps:=2000000) -implicitDefEqProofs only[go_sem];simp[Qf]
 ·refine Ja c49_ok rfl rfl λN=>?_
  simp (maxSteps:=2000000) -implicitDefEqProofs only[c49,go_sem,Tr.cv,Tr.row,Jb,Jg,hg,Ga];refine⟨⟨by omega,by omega⟩,?_⟩;refine JV (JbA n 1 5) ?_
  cases hb:inI 1 5 n with
  |false=>simp (maxSteps:=2000000) -implicitDefEqProofs only[go_sem];simp[Qf,hb]
  |true=>
   simp (maxSteps:=2000000) -implicitDefEqProofs only[go_sem];refine Kh (gok rfl) Sr ?_;by_cases Uz:(Qo 83 hv:Int)<=12
   ·have d1:((Qo 83 hv:Int)<=12)=True:=eq_true Uz;simp (maxSteps:=2000000) -implicitDefEqProofs only[go_sem,d1];refine Kh (gok rfl) Sq ?_;simp (maxSteps:=2000000) -implicitDefEqProofs only[go_sem];simp[Qf,hb,d1]
   ·have d1:((Qo 83 hv:Int)<=12)=False:=eq_false Uz;simp (maxSteps:=2000000) -implicitDefEqProofs only[go_sem,d1];simp[Qf,hb,d1]
 ·refine Ja c49_ok rfl rfl λN=>?_
  simp (maxSteps:=2000000) -implicitDefEqProofs only[c49,go_sem,Tr.cv,Tr.row,Jb,Jg,hg,Ga];refine⟨⟨by omega,by omega⟩,?_⟩;refine JV (JbA n 0 100) ?_
  cases hb:inI 0 100 n with
  |false=>simp (maxSteps:=2000000) -implicitDefEqProofs only[go_sem];simp[Qf,hb]
  |true=>
   simp (maxSteps:=2000000) -implicitDefEqProofs only[go_sem];refine⟨Jh,?_⟩;refine Kh (gok rfl) (JbA _ 1 8) ?_;simp (maxSteps:=2000000) -implicitDefEqProofs only[go_sem];simp[Qf,hb,CJ]
 ·refine Ja c49_ok rfl rfl λN=>?_
  simp (maxSteps:=2000000) -implicitDefEqProofs only[c49,go_sem,Tr.cv,Tr.row,Jb,Jg,hg,Ga];refine⟨⟨by omega,by omega⟩,?_⟩;refine JV (JbA n 0 100) ?_;simp (maxSteps:=2000000) -implicitDefEqProofs only[go_sem];simp[Qf]
 ·refine Ja c49_ok rfl rfl λN=>?_
  simp (maxSteps:=2000000) -implicitDefEqProofs only[c49,go_sem,Tr.cv,Tr.row,Jb,Jg,hg,Ga];refine⟨⟨by omega,by omega⟩,?_⟩;refine JV (JbA n 1 9) ?_;simp (maxSteps:=2000000) -implicitDefEqProofs only[go_sem];simp[Qf]
 ·obtain⟨r1,r2,r3,r4,r5,r6,r7,r8,r9⟩:=rest;have hE:Qf k n hv=true:=by
   simp only[Qf];rw[iN7,iN7,iN7,iN7,iN7,iN7,iN7,iN7,iN7]
  rw[hE];have e65:=kb (m:=65) (k:=k) (by omega);simp only[Ga]at e65;have e26:=kb (m:=26) (k:=k) (by omega);simp only[Ga]at e26;have e40:=kb (m:=40) (k:=k) (by omega);simp only[Ga]at e40;have e45:=kb (m:=45) (k:=k) (by omega);simp only[Ga]at e45;have e41:=kb (m:=41) (k:=k) (by omega);simp only[Ga]at e41;have e28:=kb (m:=28) (k:=k) (by omega);simp only[Ga]at e28;have e29:=kb (m:=29) (k:=k) (by omega);simp only[Ga]at e29;have e48:=kb (m:=48) (k:=k) (by omega);simp only[Ga]at e48;have e47:=kb (m:=47) (k:=k) (by omega);simp only[Ga]at e47;refine Ja c49_ok rfl rfl λN=>?_
  simp (maxSteps:=2000000) -implicitDefEqProofs only[c49,go_sem,Tr.cv,Tr.row,Jb,Jg,hg,e65,e26,e40,e45,e41,e28,e29,e48,e47];exact⟨by omega,by omega⟩
theorem all_same {α:Type}{l:List α}{p q:α->Bool}(h:∀x∈l,p x=q x):l.all p=l.all q:=by
 induction l with
 |nil=>rfl
 |cons a l ih=>simp only[GN];rw[h a (by simp),ih (λx hx=>h x (by simp[hx]))]
theorem kids_conv {l:List Nd}{x:Nd}(hn:∀y∈l,y.k<256)(hk:∀k∈x.kids,0<=k/\k<l.length){c:Nat}{b:UInt8}(h:∀k:Nat,k<256->isR k c=(Jdz k == b))(p q:Int):kidsR (kinds l x) p q c=J4 (lets l x) p q b:=by
 unfold kidsR J4 kinds lets;have e:(((x.kids.map (Jt l)).take q.toNat).drop p.toNat).all (λk=>isR k c)=(((x.kids.map λk=>Jdz (Jt l k)).take q.toNat).drop p.toNat).all (· == b):=by
  rw[<-GL,<-GM,<-GL,<-GM,GQ,GQ];refine all_same λk Av=>?_
  have hr:=hk k (List.mem_of_mem_take (List.mem_of_mem_drop Av));have Ab:k.toNat<l.length:=by omega
  refine h _ ?_;unfold Jt;rw[Gc,Gd Ab];exact hn _ (Gl Ab)
 rw[e];simp
theorem cls_all:∀k:Fin 256,∀p∈([(200,101),(201,116),(202,99),(40,66),(41,83),(42,98),(43,73),(44,78),(45,71),(48,79),(64,80)]:List (Nat×UInt8)),isR k.val p.1=(Jdz k.val == p.2):=by decide +kernel
theorem refKin1 (t:Tr)(x:Nd)(hx:x.Fit)(hm:t.nodes.length<=1400)(hn:∀y∈t.nodes,y.k<256)(hk:∀k∈x.kids,0<=k/\k<t.nodes.length)(Mv:x.k=41->x.n<9223372036854775807)(Dh:x.k≠28) :
  Fn Gb 47 [t.cv,.agg x.cv] (.bool (Qa x.k x.n (lets t.nodes x))):=by
 have BK:=hx.kidn;have CJ:=Kv (l:=t.nodes) (x:=x);have hK:∀(c:Nat) (b:UInt8),(c,b)∈([(200,101),(201,116),(202,99),(40,66),(41,83),(42,98),(43,73),(44,78),(45,71),(48,79),(64,80)]:List (Nat×UInt8))->∀p q:Int,Fn Gb 66 [t.cv,.agg x.cv,.int .i64 p,.int .i64 q,.int .u8 c] (.bool (J4 (lets t.nodes x) p q b)):=by
  intro c b Fz p q;have:=refKids t x hx hm hk p q c;rw[kids_conv hn hk (λk h=>cls_all ⟨k,h⟩ (c,b) Fz)]at this;exact this
 have U3 : -9223372036854775808<=x.n:=hx.n.1;have K200:=hK 200 101 (by decide);have K201:=hK 201 116 (by decide);have K202:=hK 202 99 (by decide);have K40:=hK 40 66 (by decide);have K41:=hK 41 83 (by decide);have K42:=hK 42 98 (by decide);have K43:=hK 43 73 (by decide);have K44:=hK 44 78 (by decide);have K45:=hK 45 71 (by decide);have K48:=hK 48 79 (by decide);have K64:=hK 64 80 (by decide);simp only[Ga]at K200 K201 K202 K40 K41 K42 K43 K44 K45 K48 K64;obtain⟨k,text,n,kids,pl⟩:=x;generalize lets t.nodes ⟨k,text,n,kids,pl⟩=hv at CJ K200 K201 K202 K40 K41 K42 K43 K44 K45 K48 K64|-;simp only[Nd.cv,Tr.cv,Tr.row]at BK CJ U3 Mv Dh K200 K201 K202 K40 K41 K42 K43 K44 K45 K48 K64|-;clear hK;obtain⟨m,D8⟩:∃m:Int,m=(kids.length:Int):=⟨_,rfl⟩;by_cases hC:k=1\/k=2\/k=3\/k=19\/k=20\/k=21\/k=22\/k=23\/k=24\/k=25\/k=26\/k=27\/k=29\/k=40\/k=41\/k=42\/k=43\/k=44\/k=45\/k=46\/k=47\/k=48\/k=60\/k=61\/k=62\/k=63\/k=64\/k=65
 rotate_left
 ·simp only[not_or]at hC;have hE:Qa k n hv=(decide (4<=k) && decide (k<=18) && (m == 2) && J4 hv 0 2 101):=by
   simp only[Qa]
   repeat rw[iN7]
   rw[CJ,<-D8]
  rw[hE];have f4:((4:Int)<=(k:Int))=(4<=k):=propext (by omega);have f18:((k:Int)<=18)=(k<=18):=propext (by omega);refine Ja c47_ok rfl rfl λN=>?_
  by_cases h4:4<=k <;> by_cases SG:k<=18 <;> cases h0:m == 2 <;> (repeat first
   |refine Kh (gok rfl) (K200 0 2) ?_
   |simp (maxSteps:=2000000) -implicitDefEqProofs only[c47,go_sem,Jg,<-D8,f4,f18,h4,SG,h0,kbo,hC,Dh,not_false_eq_true]) <;> simp
 rcases hC with rfl|rfl|rfl|rfl|rfl|rfl|rfl|rfl|rfl|rfl|rfl|rfl|rfl|rfl|rfl|rfl|rfl|rfl|rfl|rfl|rfl|rfl|rfl|rfl|rfl|rfl|rfl|rfl <;> (
  try have Mv:=Mv rfl
  simp only[Qa,CJ,<-D8];refine Ja c47_ok rfl rfl λN=>?_
  repeat first
   |refine⟨Jh,?_⟩
   |refine vr_fgB (by first|exact .inl rfl|exact gok rfl) (by first|exact K200 _ _|exact K201 _ _|exact K202 _ _|exact K40 _ _|exact K41 _ _|exact K42 _ _|exact K48 _ _|exact K64 _ _) (λB hb=>?_);try simp only[hb];clear hb;cases B
   |simp (maxSteps:=2000000) -implicitDefEqProofs only[c47,go_sem,Jg,Ga,<-D8]
   |rcases Gr (m == 0) with h0|h0 <;> rw[h0]
   |rcases Gr (m == 1) with h0|h0 <;> rw[h0]
   |rcases Gr (m == 2) with h0|h0 <;> rw[h0]
   |rcases Gr (m == 3) with h0|h0 <;> rw[h0]
   |rcases Gr (m == n+1) with h0|h0 <;> rw[h0]
   |by_cases h0:0<m <;> simp only[h0]
   |by_cases h0:m<=1 <;> simp only[h0]
  all_goals first|simp|simp_all)
end Go.Cm
end
end
