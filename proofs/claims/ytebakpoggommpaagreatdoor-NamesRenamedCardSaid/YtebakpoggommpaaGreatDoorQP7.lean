/-
  A part of the proof. Conditions: none.
-/
import Derived.Test.YtebakpoggommpaaGreatDoorQP3
set_option linter.unusedSimpArgs false
set_option linter.unusedVariables false
open List renaming getD_eq_getElem?_getD→Gf,getElem?_eq_getElem→Gg,drop_eq_getElem_cons→Gi,getElem?_eq_some_iff→Gm,drop_eq_nil_of_le→Gn,take_length→Gp,getElem_mem→Gq,map_cons→Gl,length_take→Gr,take_succ_eq_append_getElem→Gy,map_nil→Gu,length_pos_iff→Gz,getElem?_take→GA,getElem?_set→GD,length_drop→GG,all_eq_true→GH,length_nil→GI,count_cons→GJ,drop_zero→GK,length→GL
open Bool renaming eq_iff_iff→Gh,and_eq_true→Gj,or_eq_false_iff→Gs,true_or→Gt,or_false→Gv,not_eq_true'→GM
open Nat renaming le_of_lt→Gc,le_refl→Gd,zero_add→Gw
open Go.Proofs.Tryz renaming prog→Gb
open Int renaming cast_ofNat_Int→Ga,toNat_natCast→Gx
noncomputable section
section
set_option maxRecDepth 100000
set_option maxHeartbeats 20000000
open Go.Proofs
namespace Go.Cm
def Jge:Bool→List UInt8→Nat
 |_,[]=>0
 |false,c::l=>if isBk c=true then Jge false l+1 else if c=126 then Jge true l+1 else 0
 |true,c::l=>if c=10 then Jge false l+1 else Jge true l+1
def Yu (l:List UInt8) (a:Nat):Nat:=a+Jge false (l.drop a)
theorem gapE_ge (l:List UInt8) (a:Nat):a≤Yu l a:=by unfold Yu; omega
theorem Jgf {l:List UInt8}{a:Nat}(h:l.length≤a):Yu l a=a:=by
 unfold Yu; rw[Gn h]; simp[Jge]
def badB (c:UInt8):Bool:=!(c == 10) && (decide (c.toNat < 32) || decide (126 < c.toNat))
def badE (l:List UInt8) (i:Nat):Nat×Int:=match l with
 |[]=>(0,0)
 |c::r=>if badB c=true then (i,4) else badE r (i+1)
def XR (l:List UInt8):Nat×Int:=if 2500 < l.length then (0,5) else badE l 0
def rdF (l:List UInt8):Nat→Nat→List (Nat×List UInt8×Nat)→List (Nat×List UInt8×Nat)×Nat×Int
 |0,_,acc=>(acc,0,0)
 |n+1,a,acc=>
  if Yu l a < l.length then
   (if (tkL l (Yu l a)).2.2=true then (if acc.length=900 then ([],Yu l a,5) else rdF l n (Yu l a+(tkL l (Yu l a)).2.1.length) (acc++[((tkL l (Yu l a)).1,(tkL l (Yu l a)).2.1,Yu l a)])) else ([],Yu l a,4))
  else (acc,0,0)
def Jar (l:List UInt8):List (Nat×List UInt8×Nat)×Nat×Int:=if (XR l).2≠0 then ([],(XR l).1,(XR l).2) else rdF l (l.length+1) 0 []
def kindR (l:List UInt8):Nat:=match Jar l with
 |([t],_,e)=>if e=0∧t.2.1=l then t.1 else 0
 |_=>0
theorem rdF_pre {l:List UInt8}:∀ (n a:Nat) (acc r:List (Nat×List UInt8×Nat)) (p:Nat),rdF l n a acc=(r,p,0)→∃ s,r=acc++s
 |0,a,acc,r,p,h=>by
  simp only[rdF,Prod.mk.injEq]at h
  exact ⟨[],by rw[← h.1]; simp⟩
 |n+1,a,acc,r,p,h=>by
  simp only[rdF]at h
  split at h
  ·split at h
   ·split at h
    ·simp at h
    ·obtain ⟨s,hs⟩:=rdF_pre n _ _ r p h
     exact ⟨_,by rw[hs,List.append_assoc]⟩
   ·simp at h
  ·simp only[Prod.mk.injEq]at h
   exact ⟨[],by rw[← h.1]; simp⟩
theorem badB_alnum {c:UInt8}(h:KS c=true):badB c=false:=by
 simp only[KS,isLt,QZ,Bool.or_eq_true,Gj,decide_eq_true_eq]at h
 have h1:¬ c.toNat < 32:=by omega
 have h2:¬ 126 < c.toNat:=by omega
 simp[badB,h1,h2]
theorem badE_none:∀ (l:List UInt8) (i:Nat),(∀ c∈l,badB c=false)→badE l i=(0,0)
 |[],i,_=>rfl
 |c::l,i,h=>by
  simp only[badE]
  rw[if_neg (by rw[h c (by simp)]; simp)]
  exact badE_none l (i+1) fun x hx=>h x (by simp[hx])
theorem tk_name {l:List UInt8}{a:Nat}(h:(tkL l a).1=2):isLt (l.getD a 0)=true∧tkL l a=(2,cut l a (QP KS l a),decide ((cut l a (QP KS l a)).length≤12))∧kws.contains (cut l a (QP KS l a))=false:=by
 unfold tkL at h ⊢
 by_cases h1:isLt (l.getD a 0)=true
 ·rw[if_pos h1]at h ⊢
  by_cases h2:kws.contains (cut l a (QP KS l a))=true
  ·rw[if_pos h2]at h; simp at h
  ·rw[if_neg h2]
   exact ⟨h1,rfl,by simpa using h2⟩
 ·rw[if_neg h1]at h
  split at h <;> simp at h
theorem kindR_name (l:List UInt8):(kindR l == 2)=Jac l:=by
 rw[Gh,beq_iff_eq]
 constructor
 ·intro h
  unfold kindR at h
  split at h
  ·rename_i t p e he
   split at h
   ·rename_i hc
    obtain ⟨he0,ht⟩:=hc
    subst he0
    unfold Jar at he
    split at he
    ·simp only[Prod.mk.injEq]at he
     simp at he
    ·simp only[rdF]at he
     split at he
     ·rename_i hlt
      split at he
      ·rename_i hok
       split at he
       ·simp at he
       ·obtain ⟨s,hs⟩:=rdF_pre _ _ _ _ _ he
        simp only[List.nil_append,List.cons_append,List.cons.injEq]at hs
        obtain ⟨rfl,-⟩:=hs
        dsimp only at ht h
        obtain ⟨k1,k2,k3⟩:=tk_name h
        rw[k2]at ht hok
        dsimp only at ht hok
        have hE:=Yr (q:=KS) (Gc hlt)
        have hge:Yu l 0≤QP KS l (Yu l 0):=by unfold QP; omega
        have hcl:=JaH hge hE
        rw[ht]at hcl k3 hok
        have h0:Yu l 0=0:=by omega
        rw[h0]at ht k1
        have hal:=JbO.1 ht
        have hne:l≠[]:=by rintro rfl; simp at hlt
        unfold Jac
        rw[k1,hal,k3,hok]
        simp[hne]
      ·simp at he
     ·simp at he
   ·simp at h
  ·simp at h
 ·intro h
  unfold Jac at h
  simp only[Gj,GM,beq_eq_false_iff_ne,decide_eq_true_eq]at h
  obtain ⟨⟨⟨⟨h1,h2⟩,h3⟩,h4⟩,h5⟩:=h
  have hb:XR l=(0,0):=by
   unfold XR
   rw[if_neg (by omega)]
   exact badE_none l 0 fun c hc=>badB_alnum (GH.1 h2 c hc)
  have hpos:0 < l.length:=Gz.2 h5
  have hg:Yu l 0=0:=by
   unfold Yu
   cases l with
   |nil=>rfl
   |cons c r=>
    have hg:=lt_gp (c:=c) (by simpa using h1)
    simp only[isGp,Gs,beq_eq_false_iff_ne]at hg
    simp only[GK,Jge,hg.1,Bool.false_eq_true,if_false,if_neg hg.2]
  have hcut:cut l 0 (QP KS l 0)=l:=JbO.2 h2
  have hT:tkL l 0=(2,l,true):=by
   unfold tkL
   rw[if_pos h1,hcut,if_neg (by rw[h3]; simp),decide_eq_true h4]
  have hend:Yu l l.length=l.length:=Jgf (Gd _)
  have hr:Jar l=([(2,l,0)],0,0):=by
   unfold Jar
   rw[hb,if_neg (by simp)]
   obtain ⟨n,hn⟩:∃ n,l.length=n+1:=⟨l.length-1,by omega⟩
   have e1:rdF l (l.length+1) 0 []=rdF l l.length (0+l.length) ([]++[(2,l,0)]):=by
    rw[rdF,hg,if_pos hpos,hT,if_pos rfl,if_neg (by simp)]
   have e2:rdF l (n+1) (0+l.length) ([]++[(2,l,0)])=([(2,l,0)],0,0):=by
    rw[rdF,Gw,hend,if_neg (by omega)]
    rfl
   rw[e1,← e2,← hn]
  unfold kindR
  rw[hr]
  simp
theorem Kj (c:UInt8):Fn Gb 115 [.int .u8 c.toNat] (.bool (isLt c)):=by
 refine Jb c115_ok rfl rfl fun N=>?_
 have h1:=dle 97 c
 have h2:=dge 122 c
 simp only[Ga]at h1 h2
 simp +contextual only[c115,go_sem,h1,h2,isLt]
theorem Qf (c:UInt8):Fn Gb 114 [.int .u8 c.toNat] (.bool (QZ c)):=by
 refine Jb c114_ok rfl rfl fun N=>?_
 have h1:=dle 48 c
 have h2:=dge 57 c
 simp only[Ga]at h1 h2
 simp +contextual only[c114,go_sem,h1,h2,QZ]
theorem refHas (l:List (List UInt8)) (s:List UInt8) (hl:l.length≤100000):Fn Gb 118 [.rslc 1 (sz l) none,S s] (.bool (l.contains s)):=by
 refine Jb c118_ok rfl rfl fun N=>?_
 simp -implicitDefEqProofs only[c118,go_sem]
 refine JC (I:=fun i:Nat=>i≤l.length∧l.contains s=(l.drop i).contains s) (inv:=fun i=>gp [(0,.rslc 1 (sz l) none),(0,S s),(3,.int .i64 (i:Int))] 12) (hp:=fun _=>[]) (μ:=fun i=>l.length-i) 0 ⟨by omega,rfl⟩ ?_ rfl ?_
 ·simp[forget,gp]
 ·rintro i ⟨hi,hinv⟩
  by_cases hlt:i < l.length
  ·have d1:((i:Int) < (l.length:Int))=True:=Jo
   simp -implicitDefEqProofs only[go_sem,Y7,d1]
   rw[sz_get hlt]
   refine ⟨by omega,?_⟩
   rw[Gi hlt,List.contains_cons]at hinv
   rw[show l.getD i []=l[i] by rw[Gf,Gg hlt]; rfl]
   generalize l[i]=x at hinv ⊢
   have hsym:(x == s)=(s == x):=by rw[Gh,beq_iff_eq,beq_iff_eq]; exact eq_comm
   cases hx:(x == s) with
   |true=>
    rw[← hsym,hx,Gt]at hinv
    simp -implicitDefEqProofs only[go_sem,hx,hinv]
   |false=>
    rw[← hsym,hx,Bool.false_or]at hinv
    simp -implicitDefEqProofs only[go_sem,hx]
    refine ⟨Jj,i+1,⟨by omega,hinv⟩,by omega,?_⟩
    simp[forget]
  ·have d1:((i:Int) < (l.length:Int))=False:=Jn
   rw[Gn (by omega)]at hinv
   simp -implicitDefEqProofs only[go_sem,Y7,d1,hinv]
   try rfl
theorem refLexCheck (l:List UInt8) (hl:l.length≤1000000):Fn Gb 83 [S l] (.tup [.int .i64 ((XR l).1:Nat),.int .i64 (XR l).2]):=by
 refine Jb c83_ok rfl rfl fun N=>?_
 by_cases hbig:2500 < l.length
 ·have d0:((2500:Int) < (l.length:Int))=True:=Jo
  have hc:XR l=(0,5):=by unfold XR; rw[if_pos hbig]
  simp -implicitDefEqProofs only[c83,go_sem,d0,hc]
  try rfl
 ·have d0:((2500:Int) < (l.length:Int))=False:=Jn
  have hc:XR l=badE l 0:=by unfold XR; rw[if_neg hbig]
  simp -implicitDefEqProofs only[c83,go_sem,d0,hc]
  refine JC (I:=fun i:Nat=>i≤l.length∧badE l 0=badE (l.drop i) i) (inv:=fun i=>gp [(0,S l),(3,.int .i64 (i:Int))] 26) (hp:=fun _=>[]) (μ:=fun i=>l.length-i) 0 ⟨by omega,rfl⟩ ?_ rfl ?_
  ·simp[forget,gp]
  ·rintro i ⟨hi,hinv⟩
   by_cases hlt:i < l.length
   ·have d1:((i:Int) < (l.length:Int))=True:=Jo
    rw[Gi hlt,badE]at hinv
    have hg:l.getD i 0=l[i]:=by rw[Gf,Gg hlt]; rfl
    rw[← hg]at hinv
    simp -implicitDefEqProofs only[go_sem,d1]
    generalize l.getD i 0=c at hinv ⊢
    have hne:=deq 10 (by decide) c
    simp only[Ga]at hne
    refine ⟨by omega,?_⟩
    by_cases h10:c=10
    ·have e1:((c.toNat:Int) != 10)=false:=by rw[bne,hne]; simp[h10]
     rw[if_neg (by simp[badB,h10])]at hinv
     simp -implicitDefEqProofs only[go_sem,e1]
     refine ⟨Jj,i+1,⟨by omega,hinv⟩,by omega,?_⟩
     simp[forget]
    ·have e1:((c.toNat:Int) != 10)=true:=by rw[bne,hne]; simp[h10]
     by_cases h32:c.toNat < 32
     ·have e2:((c.toNat:Int) < 32)=True:=Jo
      rw[if_pos (by simp[badB,h10,h32])]at hinv
      simp -implicitDefEqProofs only[go_sem,e1,e2,hinv]
      omega
     ·have e2:((c.toNat:Int) < 32)=False:=Jn
      by_cases h126:126 < c.toNat
      ·have e3:((126:Int) < (c.toNat:Int))=True:=Jo
       rw[if_pos (by simp[badB,h10,h126])]at hinv
       simp -implicitDefEqProofs only[go_sem,e1,e2,e3,hinv]
       omega
      ·have e3:((126:Int) < (c.toNat:Int))=False:=Jn
       rw[if_neg (by simp[badB,h32,h126])]at hinv
       simp -implicitDefEqProofs only[go_sem,e1,e2,e3]
       refine ⟨by omega,by omega,Jj,i+1,⟨by omega,hinv⟩,by omega,?_⟩
       simp[forget]
   ·have d1:((i:Int) < (l.length:Int))=False:=Jn
    rw[Gn (by omega)]at hinv
    simp -implicitDefEqProofs only[go_sem,d1,hinv,badE]
    try rfl
theorem refGap (l:List UInt8) (a:Nat) (ha:a≤l.length) (hl:l.length≤1000000):Fn Gb 84 [S l,.int .i64 (a:Int)] (.int .i64 (Yu l a:Nat)):=by
 refine Jb c84_ok rfl rfl fun N=>?_
 simp -implicitDefEqProofs only[c84,go_sem]
 refine JC (I:=fun i:Nat=>i≤l.length∧Yu l a=Yu l i) (inv:=fun i=>gp [(0,S l),(0,.int .i64 (i:Int))] 39) (hp:=fun _=>[]) (μ:=fun i=>l.length-i) a ⟨ha,rfl⟩ ?_ rfl ?_
 ·simp[forget,gp]
 ·rintro i ⟨hi,hinv⟩
  by_cases hlt:i < l.length
  ·have d1:((i:Int) < (l.length:Int))=True:=Jo
   have hg:l.getD i 0=l[i]:=by rw[Gf,Gg hlt]; rfl
   have hstep:Yu l i=i+Jge false (l.getD i 0::l.drop (i+1)):=by unfold Yu; rw[Gi hlt,hg]
   simp -implicitDefEqProofs only[go_sem,d1]
   obtain ⟨c,hc⟩:∃ c,c=l.getD i 0:=⟨_,rfl⟩
   rw[← hc]at hstep ⊢
   have q1:=deq 32 (by decide) c
   have q2:=deq 10 (by decide) c
   have q3:=deq 126 (by decide) c
   simp only[Ga]at q1 q2 q3
   refine ⟨by omega,?_⟩
   by_cases h32:c=32
   ·have e1:((c.toNat:Int) == 32)=true:=by rw[q1]; simp[h32]
    have hs:Yu l i=Yu l (i+1):=by
     rw[hstep,Jge,if_pos (by simp[isBk,h32])]; unfold Yu; omega
    simp -implicitDefEqProofs only[go_sem,e1]
    refine ⟨Jj,i+1,⟨by omega,by rw[hinv,hs]⟩,by omega,?_⟩
    simp[forget]
   ·have e1:((c.toNat:Int) == 32)=false:=by rw[q1]; simp[h32]
    by_cases h10:c=10
    ·have e2:((c.toNat:Int) == 10)=true:=by rw[q2]; simp[h10]
     have hs:Yu l i=Yu l (i+1):=by
      rw[hstep,Jge,if_pos (by simp[isBk,h10])]; unfold Yu; omega
     simp -implicitDefEqProofs only[go_sem,e1,e2,← hc]
     refine ⟨by omega,Jj,i+1,⟨by omega,by rw[hinv,hs]⟩,by omega,?_⟩
     simp[forget]
    ·have e2:((c.toNat:Int) == 10)=false:=by rw[q2]; simp[h10]
     by_cases h126:c=126
     ·have e3:((c.toNat:Int) == 126)=true:=by rw[q3]; simp[h126]
      have hs:Yu l i=i+Jge true (l.drop i):=by
       rw[hstep,Gi hlt,← hg,← hc,Jge,if_neg (by simp[isBk,h126]),if_pos h126,Jge,if_neg h10]
      simp -implicitDefEqProofs only[go_sem,e1,e2,e3,← hc]
      refine ⟨by omega,by omega,?_⟩
      refine JC (I:=fun j:Nat=>i≤j∧j≤l.length∧Yu l i=j+Jge true (l.drop j)) (inv:=fun j=>gp [(0,S l),(0,.int .i64 (j:Int))] 39) (hp:=fun _=>[]) (μ:=fun j=>l.length-j) i ⟨by omega,by omega,hs⟩ ?_ rfl ?_
      ·simp[forget,gp]
      ·rintro j ⟨hij,hj,hjv⟩
       by_cases hjl:j < l.length
       ·have d2:((j:Int) < (l.length:Int))=True:=Jo
        have hgj:l.getD j 0=l[j]:=by rw[Gf,Gg hjl]; rfl
        rw[Gi hjl,← hgj]at hjv
        simp -implicitDefEqProofs only[go_sem,d2]
        have hji:j=i→l.getD j 0≠10:=by rintro rfl; rw[← hc]; exact h10
        obtain ⟨x,hxe⟩:∃ x,x=l.getD j 0:=⟨_,rfl⟩
        rw[← hxe]at hjv hji ⊢
        have q4:=deq 10 (by decide) x
        simp only[Ga]at q4
        refine ⟨by omega,?_⟩
        by_cases hx:x=10
        ·have e4:((x.toNat:Int) != 10)=false:=by rw[bne,q4]; simp[hx]
         rw[Jge,if_pos hx]at hjv
         have hne:j≠i:=fun h=>hji h hx
         have hs2:Yu l i=Yu l j:=by
          rw[hjv]; unfold Yu
          rw[Gi hjl,← hgj,← hxe,Jge,if_pos (by simp[isBk,hx])]
         simp -implicitDefEqProofs only[go_sem,e4]
         refine ⟨j,⟨by omega,by rw[hinv,hs2]⟩,by omega,?_⟩
         simp[forget]
        ·have e4:((x.toNat:Int) != 10)=true:=by rw[bne,q4]; simp[hx]
         rw[Jge,if_neg hx]at hjv
         simp -implicitDefEqProofs only[go_sem,e4]
         refine ⟨Jj,j+1,⟨by omega,by omega,by omega⟩,by omega,?_⟩
         simp[forget]
       ·have d2:((j:Int) < (l.length:Int))=False:=Jn
        have hje:j=l.length:=by omega
        simp -implicitDefEqProofs only[go_sem,d2]
        refine ⟨j,⟨by omega,?_⟩,by omega,?_⟩
        ·rw[hinv,hjv,Jgf (by omega),Gn (by omega)]; simp[Jge]
        ·simp[forget]
     ·have e3:((c.toNat:Int) == 126)=false:=by rw[q3]; simp[h126]
      have hs:Yu l i=i:=by
       rw[hstep,Jge,if_neg (by simp[isBk,h32,h10]),if_neg h126]; rfl
      simp -implicitDefEqProofs only[go_sem,e1,e2,e3,← hc]
      refine ⟨by omega,by omega,?_⟩
      rw[hinv,hs]
  ·have d1:((i:Int) < (l.length:Int))=False:=Jn
   simp -implicitDefEqProofs only[go_sem,d1]
   rw[hinv,Jgf (by omega)]
theorem decA_take {l:List UInt8}{i:Nat}(h:i < l.length):JbD 0 (l.take (i+1))=JbD 0 (l.take i)*10+((l.getD i 0).toNat-48):=by
 rw[Gy h,Jgu,JaG]
 rw[show l.getD i 0=l[i] by rw[Gf,Gg h]; rfl]
 rfl
theorem decA_pre {l:List UInt8}(i:Nat):JbD 0 (l.take i)≤Jb7 l:=by
 have:Jb7 l=JbD (JbD 0 (l.take i)) (l.drop i):=by rw[← Jgu,List.take_append_drop]; rfl
 rw[this]; exact Jgt _ _
def numV (l:List UInt8):Int:=if Jbv l=true then (Jb7 l:Int) else -1
theorem numV_ok (l:List UInt8):decide (0≤numV l)=Jbv l:=by
 unfold numV
 split
 ·rename_i h; rw[h]; simp
 ·rename_i h; simp at h; rw[h]; rfl
theorem refNumber (l:List UInt8) (hd:l.all QZ=true) (hl:l.length≤1000000):Fn Gb 117 [S l] (.int .i64 (numV l)):=by
 refine Jb c117_ok rfl rfl fun N=>?_
 simp -implicitDefEqProofs only[c117,go_sem]
 refine JC (I:=fun i:Nat=>i≤l.length∧JbD 0 (l.take i)≤1000000000) (inv:=fun i=>gp [(0,S l),(2,.int .i64 (JbD 0 (l.take i):Nat)),(0,.int .i64 (i:Int))] 25) (hp:=fun _=>[]) (μ:=fun i=>l.length-i) 0 ⟨by omega,by simp[JbD]⟩ ?_ rfl ?_
 ·simp[forget,gp,JbD]
 ·rintro i ⟨hi,hinv⟩
  by_cases hlt:i < l.length
  ·have d1:((i:Int) < (l.length:Int))=True:=Jo
   have hdc:QZ (l.getD i 0)=true:=by
    rw[Gf,Gg hlt]
    exact GH.1 hd _ (Gq hlt)
   have hst:=decA_take hlt
   have hpre:=decA_pre (l:=l) (i+1)
   simp only[QZ,Gj,decide_eq_true_eq]at hdc
   simp -implicitDefEqProofs only[go_sem,d1]
   generalize l.getD i 0=c at hdc hst ⊢
   generalize JbD 0 (l.take i)=v at hinv hst ⊢
   rw[hst]at hpre
   refine ⟨Jj,by omega,⟨by show (0:Int)≤_; omega,by show _≤(255:Int); omega⟩,Jj,Jj,?_⟩
   by_cases hbig:1000000000 < v*10+(c.toNat-48)
   ·have d2:((1000000000:Int) < 10*(v:Int)+((c.toNat:Int)-48))=True:=Jo
    have hn:numV l = -1:=by
     unfold numV
     rw[if_neg]
     unfold Jbv
     rw[decide_eq_false (by omega)]; simp
    simp -implicitDefEqProofs only[go_sem,d2,hn]
   ·have d2:((1000000000:Int) < 10*(v:Int)+((c.toNat:Int)-48))=False:=Jn
    simp -implicitDefEqProofs only[go_sem,d2]
    refine ⟨Jj,i+1,⟨by omega,by omega⟩,by omega,?_⟩
    have e:((v*10+(c.toNat-48):Nat):Int)=10*(v:Int)+((c.toNat:Int)-48):=by omega
    rw[hst,e]
    simp[forget]
  ·have d1:((i:Int) < (l.length:Int))=False:=Jn
   have hie:i=l.length:=by omega
   subst hie
   rw[Gp]at hinv
   have hv:JbD 0 l=Jb7 l:=rfl
   by_cases h1:1 < l.length
   ·have d2:((1:Int) < (l.length:Int))=True:=Jo
    simp -implicitDefEqProofs only[go_sem,d1,d2,Gp]
    have hq:=deq 48 (by decide) (l.getD 0 0)
    simp only[Ga]at hq
    have hh:l.head? = some (l.getD 0 0):=by cases l with
     |nil=>simp at h1
     |cons a r=>rfl
    by_cases h48:l.getD 0 0=48
    ·have e1:(((l.getD 0 0).toNat:Int) == 48)=true:=by rw[hq,h48]; rfl
     have hn:numV l = -1:=by
      unfold numV
      rw[if_neg]
      unfold Jbv
      rw[hh,h48]
      have:¬ (l.length=1∨some (48:UInt8)≠some 48):=by simp; omega
      rw[decide_eq_false this]; simp
     refine ⟨by omega,?_⟩
     simp -implicitDefEqProofs only[go_sem,e1,hn]
    ·have e1:(((l.getD 0 0).toNat:Int) == 48)=false:=by rw[hq]; exact beq_eq_false_iff_ne.2 h48
     have hn:numV l=Jb7 l:=by
      unfold numV
      rw[if_pos]
      unfold Jbv
      rw[hh]
      have:(l.length=1∨some (l.getD 0 0)≠some (48:UInt8)):=.inr (by simpa using h48)
      rw[decide_eq_true this,decide_eq_true (by omega)]; rfl
     refine ⟨by omega,?_⟩
     simp -implicitDefEqProofs only[go_sem,e1,hn,hv]
   ·have d2:((1:Int) < (l.length:Int))=False:=Jn
    have hn:numV l=Jb7 l:=by
     unfold numV
     rw[if_pos]
     unfold Jbv
     have:(l.length=1∨l.head?≠some (48:UInt8)):=by
      cases l with
      |nil=>right; simp
      |cons a r=>left; simp at h1; simp[h1]
     rw[decide_eq_true this,decide_eq_true (by omega)]; rfl
    simp -implicitDefEqProofs only[go_sem,d1,d2,Gp,hn,hv]
theorem cut_take (l:List UInt8) (a n:Nat):cut l a (a+n)=(l.drop a).take n:=by
 unfold cut; rw[List.drop_take,Nat.add_sub_cancel_left]
theorem refSign (l:List UInt8) (a:Nat) (ha:a < l.length) (hl:l.length≤1000000):Fn Gb 116 [S l,.int .i64 (a:Int)] (.tup [.agg (lxz 4 (sgnL (l.drop a)) a),.int .i64 ((a+(sgnL (l.drop a)).length:Nat):Int),.bool (!(sgnL (l.drop a) == []))]):=by
 refine Jb c116_ok rfl rfl fun N=>?_
 simp -implicitDefEqProofs only[c116,go_sem]
 refine JR apiSigns ?_
 simp -implicitDefEqProofs only[go_sem]
 have hsl:sgs.length=26:=rfl
 have hbl:=sgnF_len (r:=l.drop a) sgs [] (by simp) sgs_len
 have hend:(sgnL (l.drop a)).length≤2:=hbl
 refine JC (σ:=Nat×List UInt8) (I:=fun s=>s.1≤sgs.length∧sgnL (l.drop a)=sgnF (l.drop a) (sgs.drop s.1) s.2) (inv:=fun s=>gp [(0,S l),(0,.int .i64 (a:Int)),(2,.ptr 0 0 0),(2,S s.2),(0,.rslc 1 (sz sgs) none),(0,.int .i64 (s.1:Int))] 51) (hp:=fun s=>[.arr 3 [[.int .u8 0,S [],.int .i64 0]]]) (μ:=fun s=>sgs.length-s.1) (0,[]) ⟨by omega,rfl⟩ ?_ rfl ?_
 ·simp[forget,gp]
 ·rintro ⟨i,b⟩ ⟨hi,hinv⟩
  simp only at hi hinv
  by_cases hlt:i < sgs.length
  ·have d1:((i:Int) < (sgs.length:Int))=True:=Jo
   simp -implicitDefEqProofs only[go_sem,Y7,d1]
   have hgs:=sz_get hlt
   have hsl2:=sgs_len _ (Gq hlt)
   rw[Gi hlt,sgnF]at hinv
   rw[show sgs.getD i []=sgs[i] by rw[Gf,Gg hlt]; rfl]at hgs
   generalize sgs[i]=s at hinv hgs hsl2 ⊢
   rw[hgs]
   refine ⟨by omega,?_⟩
   simp -implicitDefEqProofs only[go_sem]
   refine JQ Jz (by decide) ?_
   by_cases hb:b.length < s.length
   ·have d2:((b.length:Int) < (s.length:Int))=True:=Jo
    by_cases hin:a+s.length≤l.length
    ·have d3:((a:Int)+(s.length:Int)≤(l.length:Int))=True:=Jo
     have htn:((a:Int)+(s.length:Int)).toNat=a+s.length:=by omega
     have hcut:List.drop a (List.take (a+s.length) l)=(l.drop a).take s.length:=cut_take l a s.length
     by_cases hp:(l.drop a).take s.length=s
     ·have e1:((l.drop a).take s.length == s)=true:=beq_iff_eq.2 hp
      rw[if_pos ⟨hp,hb⟩]at hinv
      simp -implicitDefEqProofs only[go_sem,Y7,d2,d3,hgs,htn,hcut,e1]
      refine ⟨Jj,Jj,by omega,by omega,by omega,Jj,(i+1,s),⟨by simp only; omega,hinv⟩,by simp only; omega,?_⟩
      simp[forget]
     ·have e1:((l.drop a).take s.length == s)=false:=beq_eq_false_iff_ne.2 hp
      rw[if_neg (fun h=>hp h.1)]at hinv
      simp -implicitDefEqProofs only[go_sem,Y7,d2,d3,hgs,htn,hcut,e1]
      refine ⟨Jj,Jj,by omega,by omega,Jj,(i+1,b),⟨by simp only; omega,hinv⟩,by simp only; omega,?_⟩
      simp[forget]
    ·have d3:((a:Int)+(s.length:Int)≤(l.length:Int))=False:=Jn
     have hp:(l.drop a).take s.length≠s:=by
      intro e
      have:=congrArg GL e
      rw[Gr,GG]at this
      omega
     rw[if_neg (fun h=>hp h.1)]at hinv
     simp -implicitDefEqProofs only[go_sem,Y7,d2,d3,hgs]
     refine ⟨Jj,Jj,(i+1,b),⟨by simp only; omega,hinv⟩,by simp only; omega,?_⟩
     simp[forget]
   ·have d2:((b.length:Int) < (s.length:Int))=False:=Jn
    rw[if_neg (fun h=>hb h.2)]at hinv
    simp -implicitDefEqProofs only[go_sem,Y7,d2,hgs]
    refine ⟨Jj,(i+1,b),⟨by simp only; omega,hinv⟩,by simp only; omega,?_⟩
    simp[forget]
  ·have d1:((i:Int) < (sgs.length:Int))=False:=Jn
   have:i=sgs.length:=by omega
   subst this
   rw[List.drop_length,sgnF]at hinv
   rw[hinv]at hend ⊢
   simp -implicitDefEqProofs only[go_sem,Y7,d1]
   refine ⟨Jj,?_⟩
   simp only[lxz]
   rfl
def qAt (c:UInt8):UInt8→Bool:=if isLt c=true then KS else QZ
section
theorem JfQ {q:UInt8→Bool}{l:List UInt8}:∀ (n a i:Nat),n=i-a→a≤i→i < QP q l a→i < l.length→q (l.getD i 0)=true
 |0,a,i,hn,h1,h2,h3=>by
  have:a=i:=by omega
  subst this
  cases hq:q (l.getD a 0) with
  |true=>rfl
  |false=>rw[Jdp h3 hq]at h2; omega
 |n+1,a,i,hn,h1,h2,h3=>by
  cases hq:q (l.getD a 0) with
  |true=>rw[Jc1 (by omega) hq]at h2; exact JfQ n (a+1) i (by omega) (by omega) h2 h3
  |false=>rw[Jdp (by omega) hq]at h2; omega
theorem Jc2 {q:UInt8→Bool}{l:List UInt8}:∀ (n a:Nat),n=l.length-a→QP q l a < l.length→q (l.getD (QP q l a) 0)=false
 |0,a,hn,h=>by
  have:a≤QP q l a:=by unfold QP; omega
  omega
 |n+1,a,hn,h=>by
  have:a≤QP q l a:=by unfold QP; omega
  cases hq:q (l.getD a 0) with
  |true=>rw[Jc1 (by omega) hq]at h ⊢; exact Jc2 n (a+1) (by omega) h
  |false=>rw[Jdp (by omega) hq]; exact hq
theorem lt_dg {c:UInt8}(h:isLt c=true):QZ c=false:=by
 simp only[isLt,Gj,decide_eq_true_eq]at h
 have:¬ c.toNat≤57:=by omega
 simp[QZ,this]
section
variable {P:Program}{E:Env}{H:List CObj}{T:List CV}
theorem hs_st {d:Option Nat}{n:Nat}{a v:IArg}{id i off z:Nat}{els:List (List CV)}{cs:List CV}(ha:Kc T a=.ptr id i off) (hv:(Kc T v).cells=some cs) (hH:H[id]? = some (.arr z els)) (hn:cs.length=n∧QO cs=true) (hc:i+1≤els.length∧off+n≤(els.getD i []).length) :
  HS P E ⟨d,.store n a v,none⟩ T H .un (H.set id (.arr z (els.set i (splice (els.getD i []) off cs)))) (.on [id+1],.on [id+1]):=by
 refine ⟨fun x hx=>?_,fun T2 H2 hag hx=>?_⟩
 ·cases x with
  |zero=>simp[hat]
  |succ x=>
   have hne:¬ id=x:=fun e=>hx (by simp[Foot.has,e])
   simp[hat,GD,hne]
 ·have hH2:H2[id]? = some (.arr z els):=by
   have:=hx (id+1) (by simp[Foot.has])
   simpa [hat,hH]using this
  refine ⟨H2.set id (.arr z (els.set i (splice (els.getD i []) off cs))),fun x hx=>?_,fun x hx=>?_,fun _ _ _ _ _ hok=>ok_op (.inl rfl) (c:=.and (.le (i+1) els.length) (.le (off+n) (els.getD i []).length)) (v:=.un) ?_ hc hok⟩
  ·simp only[Foot.has,List.mem_cons,List.not_mem_nil,or_false]at hx
   subst hx
   have h1:=(Gm.1 hH).1
   have h2:=(Gm.1 hH2).1
   simp[hat,h1,h2]
  ·cases x with
   |zero=>simp[hat]
   |succ x=>
    have hne:¬ id=x:=fun e=>hx (by simp[Foot.has,e])
    simp[hat,GD,hne]
  ·rw[← Xw (Jm hag).2]
   simp only[exec,ha,hv,hH2]
   rw[if_pos hn]
end
theorem refAtS (l:List UInt8) (a:Nat) (ha:a < l.length) (hl:l.length≤1000000) (h1:isLt (l.getD a 0)=false) (h2:QZ (l.getD a 0)=false):Fn Gb 85 [S l,.int .i64 (a:Int)] (.tup [.agg (lxz (tkL l a).1 (tkL l a).2.1 a),.int .i64 ((a+(tkL l a).2.1.length:Nat):Int),.bool (tkL l a).2.2]):=by
 refine Jb c85_ok rfl rfl fun N=>?_
 simp -implicitDefEqProofs only[c85,go_sem]
 obtain ⟨c0,hc0⟩:∃ c,c=l.getD a 0:=⟨_,rfl⟩
 obtain ⟨q,hq⟩:∃ q,q=qAt c0:=⟨_,rfl⟩
 have hq2:q=QZ:=by rw[hq,qAt,hc0]; first | rw[if_pos h1] | rw[if_neg (by rw[h1]; simp)]
 obtain ⟨E,hE⟩:∃ E,E=QP q l a:=⟨_,rfl⟩
 have hEl:E≤l.length:=by rw[hE]; exact Yr (Gc ha)
 have hEg:a≤E:=by rw[hE]; unfold QP; omega
 have hin:∀ i,a≤i→i < E→q (l.getD i 0)=true:=fun i h1 h2=>JfQ _ a i rfl h1 (by rw[← hE]; exact h2) (by omega)
 have hout:E < l.length→q (l.getD E 0)=false:=fun h=>by rw[hE]at h ⊢; exact Jc2 _ a rfl h
 have hEa:E=a:=by rw[hE,hq2]; exact Jdp ha h2
 have hT:tkL l a=(4,sgnL (l.drop a),!(sgnL (l.drop a) == [])):=by
  unfold tkL; rw[if_neg (by rw[h1]; simp),if_neg (by rw[h2]; simp)]
 rw[hT]
 have hia:((E:Int) == (a:Int))=true:=by rw[hEa]; simp
 refine JC (I:=fun i:Nat=>a≤i∧i≤E) (inv:=fun i=>gp [(0,S l),(0,.int .i64 (a:Int)),(2,.ptr 0 0 0),(2,.int .i64 (i:Int))] 69) (hp:=fun _=>[.arr 3 [[.int .u8 0,S [],.int .i64 0]]]) (μ:=fun i=>l.length-i) a ⟨by omega,by omega⟩ ?_ rfl ?_
 ·simp[forget,gp]
 ·rintro i ⟨hai,hi⟩
  by_cases hgo:i < E
  ·have hlt:i < l.length:=by omega
   have d1:((i:Int) < (l.length:Int))=True:=Jo
   have hqi:=hin i hai hgo
   simp -implicitDefEqProofs only[go_sem,d1]
   refine ⟨by omega,?_⟩
   refine JV (gok rfl) (Qf _) ?_
   cases hdg:QZ (l.getD i 0) with
   |true=>
    simp -implicitDefEqProofs only[go_sem]
    refine ⟨Jj,i+1,⟨by omega,by omega⟩,by omega,?_⟩
    simp[forget]
   |false=>
    rw[hq,qAt]at hqi
    by_cases hl0:isLt c0=true
    ·rw[if_pos hl0]at hqi
     simp only[KS,hdg,Gv]at hqi
     simp -implicitDefEqProofs only[go_sem]
     refine ⟨by omega,?_⟩
     refine JV (gok rfl) (Kj _) ?_
     simp -implicitDefEqProofs only[go_sem,hqi]
     refine ⟨by omega,?_⟩
     rw[← hc0]
     refine JV (gok rfl) (Kj _) ?_
     simp -implicitDefEqProofs only[go_sem,hl0]
     refine ⟨Jj,i+1,⟨by omega,by omega⟩,by omega,?_⟩
     simp[forget]
    ·rw[if_neg hl0,hdg]at hqi; cases hqi
  ·have hie:i=E:=by omega
   subst hie
   rcases (show l.length≤i∨(i < l.length∧QZ (l.getD i 0)=false∧isLt (l.getD i 0)=false)∨(i < l.length∧QZ (l.getD i 0)=false∧isLt (l.getD i 0)=true∧isLt c0=false) from by
    by_cases h1:i < l.length
    ·have h2:=hout h1
     rw[hq,qAt]at h2
     by_cases hl0:isLt c0=true
     ·rw[if_pos hl0]at h2
      simp only[KS,Gs]at h2
      exact .inr (.inl ⟨h1,h2.2,h2.1⟩)
     ·rw[if_neg hl0]at h2
      cases h3:isLt (l.getD i 0) with
      |true=>exact .inr (.inr ⟨h1,h2,rfl,by simpa using hl0⟩)
      |false=>exact .inr (.inl ⟨h1,h2,rfl⟩)
    ·exact .inl (by omega)) with hw | ⟨hw1,hw2,hw3⟩ | ⟨hw1,hw2,hw3,hw4⟩
   case' inl=>
    have d1:((i:Int) < (l.length:Int))=False:=Jn
    simp -implicitDefEqProofs only[go_sem,d1,hia]
   case' inr.inl=>
    have d1:((i:Int) < (l.length:Int))=True:=Jo
    simp -implicitDefEqProofs only[go_sem,d1]
    refine ⟨by omega,?_⟩
    refine JV (gok rfl) (Qf _) ?_
    simp -implicitDefEqProofs only[go_sem,hw2]
    refine ⟨by omega,?_⟩
    refine JV (gok rfl) (Kj _) ?_
    simp -implicitDefEqProofs only[go_sem,hw3,hia]
   case' inr.inr=>
    have d1:((i:Int) < (l.length:Int))=True:=Jo
    simp -implicitDefEqProofs only[go_sem,d1]
    refine ⟨by omega,?_⟩
    refine JV (gok rfl) (Qf _) ?_
    simp -implicitDefEqProofs only[go_sem,hw2]
    refine ⟨by omega,?_⟩
    refine JV (gok rfl) (Kj _) ?_
    simp -implicitDefEqProofs only[go_sem,hw3]
    refine ⟨by omega,?_⟩
    rw[← hc0]
    refine JV (gok rfl) (Kj _) ?_
    simp -implicitDefEqProofs only[go_sem,hw4,hia]
   all_goals (
    refine ⟨by omega,?_⟩
    refine JR (refSign l a ha hl) ?_
    simp -implicitDefEqProofs only[go_sem,lxz,splice]
   )
theorem refAtL (l:List UInt8) (a:Nat) (ha:a < l.length) (hl:l.length≤1000000) (h1:isLt (l.getD a 0)=true):Fn Gb 85 [S l,.int .i64 (a:Int)] (.tup [.agg (lxz (tkL l a).1 (tkL l a).2.1 a),.int .i64 ((a+(tkL l a).2.1.length:Nat):Int),.bool (tkL l a).2.2]):=by
 refine Jb c85_ok rfl rfl fun N=>?_
 simp -implicitDefEqProofs only[c85,go_sem]
 obtain ⟨c0,hc0⟩:∃ c,c=l.getD a 0:=⟨_,rfl⟩
 obtain ⟨q,hq⟩:∃ q,q=qAt c0:=⟨_,rfl⟩
 have hq2:q=KS:=by rw[hq,qAt,hc0]; first | rw[if_pos h1] | rw[if_neg (by rw[h1]; simp)]
 obtain ⟨E,hE⟩:∃ E,E=QP q l a:=⟨_,rfl⟩
 have hEl:E≤l.length:=by rw[hE]; exact Yr (Gc ha)
 have hEg:a≤E:=by rw[hE]; unfold QP; omega
 have hin:∀ i,a≤i→i < E→q (l.getD i 0)=true:=fun i h1 h2=>JfQ _ a i rfl h1 (by rw[← hE]; exact h2) (by omega)
 have hout:E < l.length→q (l.getD E 0)=false:=fun h=>by rw[hE]at h ⊢; exact Jc2 _ a rfl h
 have h2:=lt_dg h1
 have hEa:a < E:=by rw[hE,hq2]; exact Jbq ha (by simp only[KS,h1,Gt])
 have hT:tkL l a=if kws.contains (cut l a E)=true then (1,cut l a E,true) else (2,cut l a E,decide ((cut l a E).length≤12)):=by
  unfold tkL; rw[if_pos h1,hE,hq2]
 have hcl:=JaH hEg hEl
 have hcut:(l.take E).drop a=cut l a E:=rfl
 rw[hT]
 have hia:((E:Int) == (a:Int))=false:=by rw[beq_eq_false_iff_ne]; omega
 refine JC (I:=fun i:Nat=>a≤i∧i≤E) (inv:=fun i=>gp [(0,S l),(0,.int .i64 (a:Int)),(2,.ptr 0 0 0),(2,.int .i64 (i:Int))] 69) (hp:=fun _=>[.arr 3 [[.int .u8 0,S [],.int .i64 0]]]) (μ:=fun i=>l.length-i) a ⟨by omega,by omega⟩ ?_ rfl ?_
 ·simp[forget,gp]
 ·rintro i ⟨hai,hi⟩
  by_cases hgo:i < E
  ·have hlt:i < l.length:=by omega
   have d1:((i:Int) < (l.length:Int))=True:=Jo
   have hqi:=hin i hai hgo
   simp -implicitDefEqProofs only[go_sem,d1]
   refine ⟨by omega,?_⟩
   refine JV (gok rfl) (Qf _) ?_
   cases hdg:QZ (l.getD i 0) with
   |true=>
    simp -implicitDefEqProofs only[go_sem]
    refine ⟨Jj,i+1,⟨by omega,by omega⟩,by omega,?_⟩
    simp[forget]
   |false=>
    rw[hq,qAt]at hqi
    by_cases hl0:isLt c0=true
    ·rw[if_pos hl0]at hqi
     simp only[KS,hdg,Gv]at hqi
     simp -implicitDefEqProofs only[go_sem]
     refine ⟨by omega,?_⟩
     refine JV (gok rfl) (Kj _) ?_
     simp -implicitDefEqProofs only[go_sem,hqi]
     refine ⟨by omega,?_⟩
     rw[← hc0]
     refine JV (gok rfl) (Kj _) ?_
     simp -implicitDefEqProofs only[go_sem,hl0]
     refine ⟨Jj,i+1,⟨by omega,by omega⟩,by omega,?_⟩
     simp[forget]
    ·rw[if_neg hl0,hdg]at hqi; cases hqi
  ·have hie:i=E:=by omega
   subst hie
   rcases (show l.length≤i∨(i < l.length∧QZ (l.getD i 0)=false∧isLt (l.getD i 0)=false)∨(i < l.length∧QZ (l.getD i 0)=false∧isLt (l.getD i 0)=true∧isLt c0=false) from by
    by_cases h1:i < l.length
    ·have h2:=hout h1
     rw[hq,qAt]at h2
     by_cases hl0:isLt c0=true
     ·rw[if_pos hl0]at h2
      simp only[KS,Gs]at h2
      exact .inr (.inl ⟨h1,h2.2,h2.1⟩)
     ·rw[if_neg hl0]at h2
      cases h3:isLt (l.getD i 0) with
      |true=>exact .inr (.inr ⟨h1,h2,rfl,by simpa using hl0⟩)
      |false=>exact .inr (.inl ⟨h1,h2,rfl⟩)
    ·exact .inl (by omega)) with hw | ⟨hw1,hw2,hw3⟩ | ⟨hw1,hw2,hw3,hw4⟩
   case' inl=>
    have d1:((i:Int) < (l.length:Int))=False:=Jn
    simp -implicitDefEqProofs only[go_sem,d1,hia,hcut]
   case' inr.inl=>
    have d1:((i:Int) < (l.length:Int))=True:=Jo
    simp -implicitDefEqProofs only[go_sem,d1]
    refine ⟨by omega,?_⟩
    refine JV (gok rfl) (Qf _) ?_
    simp -implicitDefEqProofs only[go_sem,hw2]
    refine ⟨by omega,?_⟩
    refine JV (gok rfl) (Kj _) ?_
    simp -implicitDefEqProofs only[go_sem,hw3,hia,hcut]
   case' inr.inr=>
    have d1:((i:Int) < (l.length:Int))=True:=Jo
    simp -implicitDefEqProofs only[go_sem,d1]
    refine ⟨by omega,?_⟩
    refine JV (gok rfl) (Qf _) ?_
    simp -implicitDefEqProofs only[go_sem,hw2]
    refine ⟨by omega,?_⟩
    refine JV (gok rfl) (Kj _) ?_
    simp -implicitDefEqProofs only[go_sem,hw3]
    refine ⟨by omega,?_⟩
    rw[← hc0]
    refine JV (gok rfl) (Kj _) ?_
    simp -implicitDefEqProofs only[go_sem,hw4,hia,hcut]
   all_goals (
    refine ⟨by omega,by omega,?_⟩
    refine JR (Qf _) ?_
    simp -implicitDefEqProofs only[go_sem,h2]
    generalize hx:cut l a i=x at hcl ⊢
    have hkw:=refHas kws x (by decide)
    refine YL [Foot.no,Foot.no,(.on [2],.on []),Foot.no,Foot.no] Jz (by decide +kernel) ?_
    refine ⟨_,_,hs_f (.inl rfl) Jem,_,_,Yt rfl rfl trivial,_,_,hs_ld (id:=1) (i:=0) (off:=1) rfl rfl ⟨Gd 1,(by decide:2≤3)⟩,_,_,hs_f (.inl rfl) hkw,_,_,Yt rfl rfl trivial,?_⟩
    simp -implicitDefEqProofs only[vdf,go_sem,splice]
    cases hk:kws.contains x with
    |true=>
     simp -implicitDefEqProofs only[go_sem,splice]
     rw[show a+x.length=i by omega]
     rfl
    |false=>
     have e12:decide ((x.length:Int)≤12)=decide (x.length≤12):=decide_eq_decide.2 (by omega)
     simp -implicitDefEqProofs only[go_sem,splice]
     refine YL [(.on [2],.on []),Foot.no,Foot.no,(.on [2],.on []),Foot.no,Foot.no,(.on [1],.on [1]),Foot.no,Foot.no] Jz (by decide +kernel) ?_
     refine ⟨_,_,hs_ld (id:=1) (i:=0) (off:=0) rfl rfl ⟨Gd 1,Gd 3⟩,_,_,Yt rfl rfl trivial,_,_,Yt rfl rfl trivial,_,_,hs_ld (id:=1) (i:=0) (off:=1) rfl rfl ⟨Gd 1,(by decide:2≤3)⟩,_,_,Yt rfl rfl trivial,_,_,Yt rfl rfl trivial,_,_,hs_st (id:=0) (i:=0) (off:=0) rfl rfl rfl ⟨rfl,rfl⟩ ⟨Gd 1,Gd 3⟩,_,_,Yt rfl rfl trivial,_,_,Yt rfl rfl trivial,?_⟩
     simp -implicitDefEqProofs only[vdf,go_sem,splice,e12]
     rw[show a+x.length=i by omega]
     rfl
   )
theorem refAtD (l:List UInt8) (a:Nat) (ha:a < l.length) (hl:l.length≤1000000) (h1:isLt (l.getD a 0)=false) (h2:QZ (l.getD a 0)=true):Fn Gb 85 [S l,.int .i64 (a:Int)] (.tup [.agg (lxz (tkL l a).1 (tkL l a).2.1 a),.int .i64 ((a+(tkL l a).2.1.length:Nat):Int),.bool (tkL l a).2.2]):=by
 refine Jb c85_ok rfl rfl fun N=>?_
 simp -implicitDefEqProofs only[c85,go_sem]
 obtain ⟨c0,hc0⟩:∃ c,c=l.getD a 0:=⟨_,rfl⟩
 obtain ⟨q,hq⟩:∃ q,q=qAt c0:=⟨_,rfl⟩
 have hq2:q=QZ:=by rw[hq,qAt,hc0]; first | rw[if_pos h1] | rw[if_neg (by rw[h1]; simp)]
 obtain ⟨E,hE⟩:∃ E,E=QP q l a:=⟨_,rfl⟩
 have hEl:E≤l.length:=by rw[hE]; exact Yr (Gc ha)
 have hEg:a≤E:=by rw[hE]; unfold QP; omega
 have hin:∀ i,a≤i→i < E→q (l.getD i 0)=true:=fun i h1 h2=>JfQ _ a i rfl h1 (by rw[← hE]; exact h2) (by omega)
 have hout:E < l.length→q (l.getD E 0)=false:=fun h=>by rw[hE]at h ⊢; exact Jc2 _ a rfl h
 have hEa:a < E:=by rw[hE,hq2]; exact Jbq ha h2
 have hT:tkL l a=(3,cut l a E,Jbv (cut l a E)):=by
  unfold tkL; rw[if_neg (by rw[h1]; simp),if_pos h2,hE,hq2]
 have hcl:=JaH hEg hEl
 have hcut:(l.take E).drop a=cut l a E:=rfl
 have hall:=run_all (q:=QZ) (Gc ha)
 rw[show QP QZ l a=E by rw[hE,hq2]]at hall
 rw[hT]
 have hia:((E:Int) == (a:Int))=false:=by rw[beq_eq_false_iff_ne]; omega
 refine JC (I:=fun i:Nat=>a≤i∧i≤E) (inv:=fun i=>gp [(0,S l),(0,.int .i64 (a:Int)),(2,.ptr 0 0 0),(2,.int .i64 (i:Int))] 69) (hp:=fun _=>[.arr 3 [[.int .u8 0,S [],.int .i64 0]]]) (μ:=fun i=>l.length-i) a ⟨by omega,by omega⟩ ?_ rfl ?_
 ·simp[forget,gp]
 ·rintro i ⟨hai,hi⟩
  by_cases hgo:i < E
  ·have hlt:i < l.length:=by omega
   have d1:((i:Int) < (l.length:Int))=True:=Jo
   have hqi:=hin i hai hgo
   simp -implicitDefEqProofs only[go_sem,d1]
   refine ⟨by omega,?_⟩
   refine JV (gok rfl) (Qf _) ?_
   cases hdg:QZ (l.getD i 0) with
   |true=>
    simp -implicitDefEqProofs only[go_sem]
    refine ⟨Jj,i+1,⟨by omega,by omega⟩,by omega,?_⟩
    simp[forget]
   |false=>
    rw[hq,qAt]at hqi
    by_cases hl0:isLt c0=true
    ·rw[if_pos hl0]at hqi
     simp only[KS,hdg,Gv]at hqi
     simp -implicitDefEqProofs only[go_sem]
     refine ⟨by omega,?_⟩
     refine JV (gok rfl) (Kj _) ?_
     simp -implicitDefEqProofs only[go_sem,hqi]
     refine ⟨by omega,?_⟩
     rw[← hc0]
     refine JV (gok rfl) (Kj _) ?_
     simp -implicitDefEqProofs only[go_sem,hl0]
     refine ⟨Jj,i+1,⟨by omega,by omega⟩,by omega,?_⟩
     simp[forget]
    ·rw[if_neg hl0,hdg]at hqi; cases hqi
  ·have hie:i=E:=by omega
   subst hie
   rcases (show l.length≤i∨(i < l.length∧QZ (l.getD i 0)=false∧isLt (l.getD i 0)=false)∨(i < l.length∧QZ (l.getD i 0)=false∧isLt (l.getD i 0)=true∧isLt c0=false) from by
    by_cases h1:i < l.length
    ·have h2:=hout h1
     rw[hq,qAt]at h2
     by_cases hl0:isLt c0=true
     ·rw[if_pos hl0]at h2
      simp only[KS,Gs]at h2
      exact .inr (.inl ⟨h1,h2.2,h2.1⟩)
     ·rw[if_neg hl0]at h2
      cases h3:isLt (l.getD i 0) with
      |true=>exact .inr (.inr ⟨h1,h2,rfl,by simpa using hl0⟩)
      |false=>exact .inr (.inl ⟨h1,h2,rfl⟩)
    ·exact .inl (by omega)) with hw | ⟨hw1,hw2,hw3⟩ | ⟨hw1,hw2,hw3,hw4⟩
   case' inl=>
    have d1:((i:Int) < (l.length:Int))=False:=Jn
    simp -implicitDefEqProofs only[go_sem,d1,hia,hcut]
   case' inr.inl=>
    have d1:((i:Int) < (l.length:Int))=True:=Jo
    simp -implicitDefEqProofs only[go_sem,d1]
    refine ⟨by omega,?_⟩
    refine JV (gok rfl) (Qf _) ?_
    simp -implicitDefEqProofs only[go_sem,hw2]
    refine ⟨by omega,?_⟩
    refine JV (gok rfl) (Kj _) ?_
    simp -implicitDefEqProofs only[go_sem,hw3,hia,hcut]
   case' inr.inr=>
    have d1:((i:Int) < (l.length:Int))=True:=Jo
    simp -implicitDefEqProofs only[go_sem,d1]
    refine ⟨by omega,?_⟩
    refine JV (gok rfl) (Qf _) ?_
    simp -implicitDefEqProofs only[go_sem,hw2]
    refine ⟨by omega,?_⟩
    refine JV (gok rfl) (Kj _) ?_
    simp -implicitDefEqProofs only[go_sem,hw3]
    refine ⟨by omega,?_⟩
    rw[← hc0]
    refine JV (gok rfl) (Kj _) ?_
    simp -implicitDefEqProofs only[go_sem,hw4,hia,hcut]
   all_goals (
    refine ⟨by omega,by omega,?_⟩
    refine JR (Qf _) ?_
    simp -implicitDefEqProofs only[go_sem,h2]
    generalize hx:cut l a i=x at hcl hall ⊢
    have hnum:=refNumber x hall (by omega)
    have hnv:=numV_ok x
    refine YL [(.on [2],.on []),Foot.no,Foot.no,(.on [2],.on []),Foot.no,Foot.no,(.on [1],.on [1]),Foot.no,Foot.no] Jz (by decide +kernel) ?_
    refine ⟨_,_,hs_ld (id:=1) (i:=0) (off:=0) rfl rfl ⟨Gd 1,Gd 3⟩,_,_,Yt rfl rfl trivial,_,_,Yt rfl rfl trivial,_,_,hs_ld (id:=1) (i:=0) (off:=1) rfl rfl ⟨Gd 1,(by decide:2≤3)⟩,_,_,hs_f (.inl rfl) hnum,_,_,Yt rfl rfl trivial,_,_,hs_st (id:=0) (i:=0) (off:=0) rfl rfl rfl ⟨rfl,rfl⟩ ⟨Gd 1,Gd 3⟩,_,_,Yt rfl rfl trivial,_,_,Yt rfl rfl trivial,?_⟩
    simp -implicitDefEqProofs only[vdf,go_sem,splice,hnv]
    rw[show a+x.length=i by omega]
    rfl
   )
theorem refAt (l:List UInt8) (a:Nat) (ha:a < l.length) (hl:l.length≤1000000):Fn Gb 85 [S l,.int .i64 (a:Int)] (.tup [.agg (lxz (tkL l a).1 (tkL l a).2.1 a),.int .i64 ((a+(tkL l a).2.1.length:Nat):Int),.bool (tkL l a).2.2]):=by
 cases h1:isLt (l.getD a 0) with
 |true=>exact refAtL l a ha hl h1
 |false=>cases h2:QZ (l.getD a 0) with
  |true=>exact refAtD l a ha hl h1 h2
  |false=>exact refAtS l a ha hl h1 h2
end
section
def lxr (l:List (Nat×List UInt8×Nat)):List (List CV):=l.map fun t=>lxz t.1 t.2.1 t.2.2
theorem QD {l:List (Nat×List UInt8×Nat)}:(lxr l).length=l.length:=by simp[lxr]
theorem Jcw:∀ (l:List (Nat×List UInt8×Nat)),Jw (lxr l)=true
 |[]=>rfl
 |x::l=>by simp[lxr,lxz,Jw,Jv,CV.closed]; exact Jcw l
theorem lxr_app {l:List (Nat×List UInt8×Nat)}{t:Nat×List UInt8×Nat}:lxr (l++[t])=lxr l++[lxz t.1 t.2.1 t.2.2]:=by simp[lxr]
theorem tk_len {l:List UInt8}{a:Nat}(ha:a < l.length) (h:(tkL l a).2.2=true):0 < (tkL l a).2.1.length:=by
 unfold tkL at h ⊢
 by_cases h1:isLt (l.getD a 0)=true
 ·have h2:=Jbq (q:=KS) ha (by simp only[KS,h1,Gt])
  have h3:=JaH (Gc h2) (Yr (q:=KS) (Gc ha))
  rw[if_pos h1]at h ⊢
  split <;> (simp only; omega)
 ·rw[if_neg h1]at h ⊢
  by_cases h2:QZ (l.getD a 0)=true
  ·have h4:=Jbq (q:=QZ) ha h2
   have h3:=JaH (Gc h4) (Yr (q:=QZ) (Gc ha))
   rw[if_pos h2]at h ⊢
   simp only; omega
  ·rw[if_neg h2]at h ⊢
   simp only[GM,beq_eq_false_iff_ne]at h ⊢
   exact Gz.2 h
theorem sgn_in {r:List UInt8}:∀ (L:List (List UInt8)) (b:List UInt8),b.length≤r.length→(sgnF r L b).length≤r.length
 |[],b,h=>h
 |s::L,b,h=>by
  simp only[sgnF]
  refine sgn_in L _ ?_
  split
  ·rename_i hc
   have:=congrArg GL hc.1
   rw[Gr]at this
   omega
  ·exact h
theorem tk_end {l:List UInt8}{a:Nat}(ha:a < l.length):a+(tkL l a).2.1.length≤l.length:=by
 unfold tkL
 by_cases h1:isLt (l.getD a 0)=true
 ·have h2:=Jbq (q:=KS) ha (by simp only[KS,h1,Gt])
  have h4:=Yr (q:=KS) (Gc ha)
  have h3:=JaH (Gc h2) h4
  rw[if_pos h1]
  split <;> (simp only; omega)
 ·rw[if_neg h1]
  by_cases h2:QZ (l.getD a 0)=true
  ·have h5:=Jbq (q:=QZ) ha h2
   have h4:=Yr (q:=QZ) (Gc ha)
   have h3:=JaH (Gc h5) h4
   rw[if_pos h2]
   simp only; omega
  ·rw[if_neg h2]
   have:=sgn_in (r:=l.drop a) sgs [] (by simp)
   rw[GG]at this
   show a+(sgnF (l.drop a) sgs []).length≤l.length
   omega
section
variable {P:Program}
theorem JgB {l l':List CV}(h:wks l l'):wk (.tup l) (.tup l'):=by
 rintro own imm v ⟨vs,rfl,hr⟩
 exact ⟨vs,rfl,JaR h hr⟩
theorem JbH {l l':List CV}(h:wks l l'):wk (.agg l) (.agg l'):=by
 rintro own imm v ⟨vs,rfl,hr⟩
 exact ⟨vs,rfl,JaR h hr⟩
theorem X8 {f:Nat}{args:List CV}{v0:CV}(h:CallsC P Env.none f args [] fun v H'=>wk v v0∨∃ id z els,H'[id]? = some (.arr z els)∧Jw els=true∧wk (frz id z els v) v0) (ha:Jv args=true) (hv:v0.closed=true):Fn P f args v0:=by
 refine fn_of ?_ ha hv
 intro m w vs hs hvs
 refine (h m w vs hs hvs).mono ?_
 rintro e w' ⟨r,m',v,H',h1,h2,h3,h4,g⟩
 rcases g with g | ⟨id,z,els,g1,hc,g⟩
 ·exact ⟨r,m',v0,H',h1,h2,h3,g _ _ _ h4,rfl⟩
 ·obtain ⟨imm',hs',he,hf⟩:=Sim.freeze (n0:=([]:List CObj).length) h3 g1 hc
  exact ⟨r,_,_,_,h1,h2.trans he,hs',g _ _ _ (hf _ _ h4),rfl⟩
end
theorem Jc3 {z:Nat}{els:List (List CV)}{id n:Nat}{cap:Option Nat}{x y:CV}(hx:x.closed=true) (hy:y.closed=true) (hn:n=els.length):wk (frz id z els (.tup [.slc id 0 n cap,x,y])) (.tup [.rslc z els none,x,y]):=by
 subst hn
 simp only[frz,JS,if_true,Gw,Gd,GK,Gp,Xu x hx,Xu y hy]
 exact JgB ⟨wk.rslc,wk.refl _,wk.refl _,trivial⟩
theorem refRead (l:List UInt8) (hl:l.length≤1000000):Fn Gb 36 [S l] (.tup [.rslc 3 (lxr (Jar l).1) none,.int .i64 ((Jar l).2.1:Nat),.int .i64 (Jar l).2.2]):=by
 refine X8 ?_ rfl rfl
 refine J7 c36_ok fun N=>?_
 simp -implicitDefEqProofs only[c36,go_sem]
 refine JR (refLexCheck l hl) ?_
 simp -implicitDefEqProofs only[go_sem]
 cases he:((XR l).2 != 0) with
 |true=>
  have he2:(XR l).2≠0:=by simpa using he
  have hr:Jar l=([],(XR l).1,(XR l).2):=by unfold Jar; rw[if_pos he2]
  rw[hr]
  simp -implicitDefEqProofs only[go_sem]
  exact .inr ⟨0,3,[],rfl,rfl,Jc3 rfl rfl rfl⟩
 |false=>
  have he2:(XR l).2=0:=by simpa using he
  have hr:Jar l=rdF l (l.length+1) 0 []:=by unfold Jar; rw[if_neg (by simp[he2])]
  rw[hr]
  obtain ⟨R,hR⟩:∃ R,R=rdF l (l.length+1) 0 []:=⟨_,rfl⟩
  rw[← hR]
  simp -implicitDefEqProofs only[go_sem]
  refine JR (refGap l 0 (Nat.zero_le _) hl) ?_
  simp -implicitDefEqProofs only[go_sem]
  refine Jy (σ:=Nat×Nat×List (Nat×List UInt8×Nat)) (I:=fun s=>s.2.1≤l.length∧l.length+1≤s.1+s.2.1∧s.2.2.length≤900∧R=rdF l s.1 s.2.1 s.2.2)
   (inv:=fun s=>gp [(0,S l),(6,.slc 0 0 (lxr s.2.2).length (JbF (lxr s.2.2))),(0,.int .i64 (Yu l s.2.1:Nat))] 45) (hp:=fun s=>[.arr 3 (lxr s.2.2)]) (μ:=fun s=>s.1) (l.length+1,0,[]) [0] ⟨by simp,by simp,by simp,hR⟩ rfl ?_ rfl ?_
  ·simp[forget,JA,ren,Jl,gp,lxr,JbF]
  ·rintro ⟨n,b,acc⟩ ⟨h1,h2,h3,hinv⟩
   dsimp only at h1 h2 h3 hinv ⊢
   have hge:=gapE_ge l b
   by_cases hlt:Yu l b < l.length
   ·have d1:(((Yu l b:Nat):Int) < (l.length:Int))=True:=Jo
    obtain ⟨n,rfl⟩:∃ n',n=n' + 1:=⟨n-1,by omega⟩
    rw[rdF,if_pos hlt]at hinv
    have hT:=refAt l (Yu l b) hlt hl
    have htl:=tk_len hlt
    have hte:=tk_end hlt
    generalize Yu l b=at_ at *
    simp -implicitDefEqProofs only[go_sem,d1]
    refine JR hT ?_
    clear hT
    generalize tkL l at_=T at hinv htl hte ⊢
    obtain ⟨k,x,ok⟩:=T
    dsimp only at hinv htl hte ⊢
    cases ok with
    |false=>
     rw[if_neg (by simp)]at hinv
     rw[hinv]
     simp -implicitDefEqProofs only[go_sem,lxz,splice]
     exact .inr ⟨2,3,[],rfl,rfl,Jc3 rfl rfl rfl⟩
    |true=>
     rw[if_pos rfl]at hinv
     by_cases h9:acc.length=900
     ·have d2:(((lxr acc).length:Int) == 900)=true:=by rw[beq_iff_eq,QD]; omega
      rw[if_pos h9]at hinv
      rw[hinv]
      simp -implicitDefEqProofs only[go_sem,lxz,splice,d2]
      exact .inr ⟨2,3,[],rfl,rfl,Jc3 rfl rfl rfl⟩
     ·have d2:(((lxr acc).length:Int) == 900)=false:=by rw[beq_eq_false_iff_ne,QD]; omega
      rw[if_neg h9]at hinv
      simp -implicitDefEqProofs only[go_sem,lxz,splice,d2,Jr]
      refine ⟨⟨by rw[QD]; omega,by rw[QD]; omega⟩,?_⟩
      have hG:=refGap l (at_+x.length) hte hl
      refine JR hG ?_
      simp -implicitDefEqProofs only[go_sem]
      have hpos:=htl rfl
      have hac:JbF (lxr (acc++[(k,x,at_)]))=none:=by rw[lxr_app,Y2]
      have hal:(lxr acc).length+1=(lxr (acc++[(k,x,at_)])).length:=by simp[QD]
      refine ⟨(n,at_+x.length,acc++[(k,x,at_)]),[3],⟨hte,by simp only; omega,by simp; omega,hinv⟩,by simp only; omega,rfl,?_,?_⟩
      ·simp only[Ke,Gl,Gu,go_sem,Ji]
       have hc:=Ja (ρ:=[3]) (Jcw (acc++[(k,x,at_)]))
       rw[lxr_app]at hc ⊢
       simp only[lxz]at hc ⊢
       rw[hc]
      ·simp only[hac,hal]
       simp[forget,JA,ren,Jl]
   ·have d1:(((Yu l b:Nat):Int) < (l.length:Int))=False:=Jn
    have hR2:R=(acc,0,0):=by
     rw[hinv]
     cases n with
     |zero=>rfl
     |succ n=>rw[rdF,if_neg hlt]
    rw[hR2]
    simp -implicitDefEqProofs only[go_sem,d1]
    exact .inr ⟨0,3,lxr acc,rfl,Jcw _,Jc3 rfl rfl rfl⟩
theorem refKind (l:List UInt8) (hl:l.length≤1000000):Fn Gb 99 [S l] (.int .u8 (kindR l)):=by
 refine Jb c99_ok rfl rfl fun N=>?_
 simp -implicitDefEqProofs only[c99,go_sem]
 refine JR (refRead l hl) ?_
 simp -implicitDefEqProofs only[go_sem]
 unfold kindR
 obtain ⟨ts,p,e⟩:=Jar l
 simp only
 cases he:(e != 0) with
 |true=>
  have he2:e≠0:=by simpa using he
  simp -implicitDefEqProofs only[go_sem]
  split
  ·rename_i h; cases h; rw[if_neg (fun h=>he2 h.1)]; rfl
  ·rfl
 |false=>
  have he2:e=0:=by simpa using he
  subst he2
  match ts with
  |[]=>
   simp -implicitDefEqProofs only[go_sem,QD,GI]
  |t::u::r=>
   have hn:(((r.length+1+1:Nat):Int) != 1)=true:=by rw[bne_iff_ne]; omega
   simp -implicitDefEqProofs only[go_sem,QD,hn]
  |[t]=>
   obtain ⟨k,x,a⟩:=t
   by_cases hx:x=l
   ·have e1:(x == l)=true:=by simp[hx]
    simp -implicitDefEqProofs only[go_sem,lxr,lxz,Gl,Gu,e1,show (((1:Nat):Int) != 1)=false from rfl]
    simp[hx]
   ·have e1:(x == l)=false:=by simp[hx]
    simp -implicitDefEqProofs only[go_sem,lxr,lxz,Gl,Gu,e1,show (((1:Nat):Int) != 1)=false from rfl]
    simp[hx]
end
theorem Jbc (n a b:Int):Fn Gb 42 [.int .i64 n,.int .i64 a,.int .i64 b] (.bool (inI a b n)):=by
 refine Jb c42_ok rfl rfl fun N=>?_
 simp +contextual -implicitDefEqProofs only[c42,go_sem,inI]
def inN (a b k:Nat):Bool:=decide (a≤k) && decide (k≤b)
theorem natle (a k:Nat):decide ((a:Int)≤(k:Int))=decide (a≤k):=decide_eq_decide.2 (by omega)
theorem JcV (a k:Nat):((k:Int) == (a:Int))=(k == a):=by
 rw[Gh]; simp; omega
theorem refIsExpr (k:Nat):Fn Gb 25 [.int .u8 k] (.bool (inN 1 29 k)):=by
 refine Jb c25_ok rfl rfl fun N=>?_
 have h1:=natle 1 k
 have h2:=natle k 29
 simp only[Ga]at h1 h2
 simp +contextual -implicitDefEqProofs only[c25,go_sem,inN]
 refine ⟨fun h=>?_,fun h=>?_⟩
 ·congr 1; rw[Gh]; simp; omega
 ·congr 1; rw[Gh]; simp; omega
theorem refIsType (k:Nat):Fn Gb 160 [.int .u8 k] (.bool (inN 60 63 k)):=by
 refine Jb c160_ok rfl rfl fun N=>?_
 simp +contextual -implicitDefEqProofs only[c160,go_sem,inN]
 refine ⟨fun h=>?_,fun h=>?_⟩
 ·congr 1; rw[Gh]; simp; omega
 ·congr 1; rw[Gh]; simp; omega
theorem refIsPart (k:Nat):Fn Gb 161 [.int .u8 k] (.bool (k == 46 || k == 47)):=by
 refine Jb c161_ok rfl rfl fun N=>?_
 simp +contextual -implicitDefEqProofs only[c161,go_sem]
 refine ⟨fun h=>?_,fun h=>?_⟩
 ·congr 1; rw[Gh]; simp at h ⊢; omega
 ·congr 1; rw[Gh]; simp at h ⊢; omega
def isR (k c:Nat):Bool:=if c=200 then inN 1 29 k else if c=201 then inN 60 63 k else if c=202 then (k == 46 || k == 47) else k == c
theorem refIs (t:Tr) (n:Int) (c:Nat) (h0:0≤n) (h1:n < t.nodes.length):Fn Gb 130 [t.cv,.int .i64 n,.int .u8 c] (.bool (isR (Jq t.nodes n) c)):=by
 have hlt:n.toNat < t.nodes.length:=by omega
 have hk:Jq t.nodes n=(t.nodes.getD n.toNat default).k:=rfl
 refine Jb c130_ok rfl rfl fun N=>?_
 simp +contextual -implicitDefEqProofs only[c130,go_sem,Tr.cv,Tr.row,Jc]
 rw[KQ hlt]
 refine ⟨by omega,?_⟩
 simp +contextual -implicitDefEqProofs only[go_sem,Nd.cv]
 rw[← hk]
 generalize Jq t.nodes n=k
 have q0:=JcV 200 c
 have q1:=JcV 201 c
 have q2:=JcV 202 c
 simp only[Ga]at q0 q1 q2
 unfold isR
 by_cases e0:c=200
 ·subst e0
  simp +contextual -implicitDefEqProofs only[go_sem,Ga]
  refine JR (refIsExpr k) ?_
  simp +contextual -implicitDefEqProofs only[go_sem]
 ·have q0':((c:Int) == 200)=false:=by rw[q0]; simpa using e0
  rw[if_neg e0]
  by_cases e1:c=201
  ·subst e1
   simp +contextual -implicitDefEqProofs only[go_sem,Ga]
   refine JR (refIsType k) ?_
   simp +contextual -implicitDefEqProofs only[go_sem]
  ·have q1':((c:Int) == 201)=false:=by rw[q1]; simpa using e1
   rw[if_neg e1]
   by_cases e2:c=202
   ·subst e2
    simp +contextual -implicitDefEqProofs only[go_sem,Ga]
    refine JR (refIsPart k) ?_
    simp +contextual -implicitDefEqProofs only[go_sem]
   ·have q2':((c:Int) == 202)=false:=by rw[q2]; simpa using e2
    rw[if_neg e2]
    have q3:=JcV c k
    simp +contextual -implicitDefEqProofs only[go_sem,q0',q1',q2',q3]
def kinds (l:List Nd) (x:Nd):List Nat:=x.kids.map (Jq l)
theorem kinds_get {l:List Nd}{x:Nd}{j:Nat}(h:j < x.kids.length):(kinds l x)[j]? = some (Jq l (x.kids.getD j 0)):=by
 simp[kinds,Gf,Gg h]
def kidsR (ks:List Nat) (a b:Int) (c:Nat):Bool:=decide (0≤a) && decide (a≤b) && decide (b≤ks.length) && ((ks.take b.toNat).drop a.toNat).all fun k=>isR k c
theorem refKids (t:Tr) (x:Nd) (hx:x.Fit) (hm:t.nodes.length≤1400) (hk:∀ k∈x.kids,0≤k∧k < t.nodes.length) (a b:Int) (c:Nat) :
  Fn Gb 98 [t.cv,.agg x.cv,.int .i64 a,.int .i64 b,.int .u8 c] (.bool (kidsR (kinds t.nodes x) a b c)):=by
 have hkl:(kinds t.nodes x).length=x.kids.length:=by simp[kinds]
 have hkn:=hx.kidn
 refine Jb c98_ok rfl rfl fun N=>?_
 by_cases hA:a < 0∨b < a∨(x.kids.length:Int) < b
 ·have hr:kidsR (kinds t.nodes x) a b c=false:=by
   unfold kidsR
   rw[hkl]
   rw[Bool.eq_false_iff]
   intro h
   simp only[Gj,decide_eq_true_eq]at h
   omega
  rw[hr]
  by_cases h1:a < 0
  ·have d1:(a < 0)=True:=eq_true h1
   simp +contextual -implicitDefEqProofs only[c98,go_sem,Tr.cv,Tr.row,Nd.cv,d1]
  ·have d1:(a < 0)=False:=eq_false h1
   by_cases h2:b < a
   ·have d2:(b < a)=True:=eq_true h2
    simp +contextual -implicitDefEqProofs only[c98,go_sem,Tr.cv,Tr.row,Nd.cv,d1,d2]
   ·have d2:(b < a)=False:=eq_false h2
    have d3:((x.kids.length:Int) < b)=True:=Jo
    simp +contextual -implicitDefEqProofs only[c98,go_sem,Tr.cv,Tr.row,Nd.cv,d1,d2,Jf,d3]
 ·have d1:(a < 0)=False:=Jn
  have d2:(b < a)=False:=Jn
  have d3:((x.kids.length:Int) < b)=False:=Jn
  have hr:kidsR (kinds t.nodes x) a b c=((kinds t.nodes x).take b.toNat |>.drop a.toNat).all fun k=>isR k c:=by
   unfold kidsR
   rw[hkl,decide_eq_true (show 0≤a by omega),decide_eq_true (show a≤b by omega),decide_eq_true (show b≤(x.kids.length:Int) by omega)]
   rfl
  rw[hr]
  simp +contextual -implicitDefEqProofs only[c98,go_sem,Tr.cv,Tr.row,Nd.cv,Jf,d1,d2,d3]
  refine Je (id:=0) (z:=2) (els:=[t.row]) rfl rfl ?_
  simp only[go_sem,JS,Ki,frz,KP]
  refine Je (id:=1) (z:=5) (els:=[x.cv]) rfl rfl ?_
  simp only[go_sem,JS,Ki,frz,KP]
  generalize hL:(kinds t.nodes x).take b.toNat=L
  have hLl:L.length=b.toNat:=by rw[← hL]; simp[hkl]; omega
  refine JC (I:=fun i:Nat=>a.toNat≤i∧i≤b.toNat∧(L.drop a.toNat).all (fun k=>isR k c)=(L.drop i).all fun k=>isR k c) (inv:=fun i=>gp [(3,.int .i64 b),(0,.int .u8 c),(0,.rptr t.row),(0,.rptr x.cv),(4,.int .i64 i)] 29) (hp:=fun _=>[.dead,.dead]) (μ:=fun i=>b.toNat-i) a.toNat ⟨by omega,by omega,rfl⟩ ?_ rfl ?_
  ·have:((a.toNat:Nat):Int)=a:=by omega
   simp[forget,gp,this]
  ·rintro i ⟨h1,h2,hinv⟩
   by_cases hlt:i < b.toNat
   ·have d4:((i:Int) < b)=True:=Jo
    have hik:i < x.kids.length:=by omega
    have hmem:x.kids.getD i 0∈x.kids:=by
     rw[Gf,Gg hik]; exact Gq hik
    have hb:=hk _ hmem
    have hLi:L[i]? = some (Jq t.nodes (x.kids.getD i 0)):=by
     rw[← hL,GA,if_pos hlt,kinds_get hik]
    have hLlt:=(Gm.1 hLi).1
    rw[Gi hLlt,(Gm.1 hLi).2,List.all_cons]at hinv
    simp +contextual -implicitDefEqProofs only[go_sem,d4]
    refine JQ Jz (by decide) ?_
    simp only[go_sem,Tr.row,Nd.cv,Jf]
    rw[JP hik]
    refine ⟨by omega,?_⟩
    simp only[go_sem]
    refine J4 (.inl rfl) (refIs t _ c hb.1 hb.2) ?_
    simp only[go_sem]
    cases hq:isR (Jq t.nodes (x.kids.getD i 0)) c with
    |false=>
     rw[hq]at hinv
     simp +contextual -implicitDefEqProofs only[go_sem]
     rw[hinv]; rfl
    |true=>
     rw[hq]at hinv
     simp +contextual -implicitDefEqProofs only[go_sem]
     refine ⟨Jj,i+1,⟨by omega,by omega,by simpa using hinv⟩,by omega,?_⟩
     simp[forget]
   ·have d4:((i:Int) < b)=False:=Jn
    simp +contextual -implicitDefEqProofs only[go_sem,d4]
    rw[hinv,Gn (by omega)]; rfl
theorem refLimits (t:Tr):Fn Gb 38 [t.cv] (.bool (decide (¬ (700 < t.nodes.length∨20 < t.items.length)))):=by
 refine Jb c38_ok rfl rfl fun N=>?_
 simp +contextual -implicitDefEqProofs only[c38,go_sem,Tr.cv,Tr.row,Jf,Jc]
 refine ⟨fun h=>?_,fun h=>?_⟩
 ·congr 1
  exact decide_eq_decide.2 (by omega)
 ·congr 1
  symm
  rw[decide_eq_false_iff_not]
  omega
theorem refMany (t:Tr) (x:Nd) (hx:x.Fit) (hk:∀ k∈x.kids,0≤k∧k < t.nodes.length) (c:Nat) :
  Fn Gb 93 [t.cv,.agg x.cv,.int .u8 c] (.int .i64 ((kinds t.nodes x).count c:Nat)):=by
 have hkl:(kinds t.nodes x).length=x.kids.length:=by simp[kinds]
 have hkn:=hx.kidn
 refine Jb c93_ok rfl rfl fun N=>?_
 simp +contextual -implicitDefEqProofs only[c93,go_sem,Tr.cv,Tr.row,Nd.cv]
 refine Je (id:=0) (z:=2) (els:=[t.row]) rfl rfl ?_
 simp only[go_sem,JS,Ki,frz,KP]
 refine Je (id:=1) (z:=5) (els:=[x.cv]) rfl rfl ?_
 simp only[go_sem,JS,Ki,frz,KP]
 generalize hL:kinds t.nodes x=L at hkl
 refine JC (I:=fun i:Nat=>i≤L.length) (inv:=fun i=>gp [(2,.int .u8 c),(0,.rptr t.row),(0,.rptr x.cv),(2,.int .i64 ((L.take i).count c:Nat)),(0,.int .i64 i)] 22) (hp:=fun _=>[.dead,.dead]) (μ:=fun i=>L.length-i) 0 (by omega) ?_ rfl ?_
 ·simp[forget,gp]
 ·intro i hi
  have hc:=List.count_le_length (a:=c) (l:=L.take i)
  rw[Gr]at hc
  by_cases hlt:i < x.kids.length
  ·have d4:((i:Int) < (x.kids.length:Int))=True:=Jo
   have hmem:x.kids.getD i 0∈x.kids:=by
    rw[Gf,Gg hlt]; exact Gq hlt
   have hb:=hk _ hmem
   have hLi:L[i]? = some (Jq t.nodes (x.kids.getD i 0)):=by rw[← hL,kinds_get hlt]
   have hLlt:=(Gm.1 hLi).1
   have hcs:(L.take (i+1)).count c=(L.take i).count c+if Jq t.nodes (x.kids.getD i 0) == c then 1 else 0:=by
    rw[List.take_add_one,hLi,List.count_append]
    simp[List.count_singleton]
   simp +contextual -implicitDefEqProofs only[go_sem,Nd.cv,Jf,d4]
   refine JQ Jz (by decide) ?_
   simp only[go_sem,Tr.row,Nd.cv,Jf,Jc]
   rw[JP hlt]
   refine ⟨by omega,?_⟩
   simp only[go_sem,Jc]
   rw[KQ (by omega)]
   refine ⟨by omega,?_⟩
   simp only[go_sem,Nd.cv]
   rw[show ((t.nodes.getD (x.kids.getD i 0).toNat default).k:Int)=(Jq t.nodes (x.kids.getD i 0):Int) from rfl,JcV]
   cases hq:(Jq t.nodes (x.kids.getD i 0) == c) with
   |false=>
    rw[hq]at hcs
    simp +contextual -implicitDefEqProofs only[go_sem]
    refine ⟨Jj,i+1,by omega,by omega,?_⟩
    rw[hcs]
    simp[forget]
   |true=>
    rw[hq]at hcs
    simp +contextual -implicitDefEqProofs only[go_sem]
    refine ⟨Jj,Jj,i+1,by omega,by omega,?_⟩
    rw[hcs]
    simp[forget]
  ·have d4:((i:Int) < (x.kids.length:Int))=False:=Jn
   have:i=L.length:=by omega
   subst this
   simp +contextual -implicitDefEqProofs only[go_sem,Nd.cv,Jf,d4,Gp]
theorem JfU (t:Tr) {m:Nat}{o:List Int}(ho:Jt ((Js t.nodes).take m) []=some o) (hm:m≤t.nodes.length) (n:Nat) (hn:n < m) :
  Fn Gb 75 [t.cv,.int .i64 (n:Int)] (.int .i64 (fs o n)):=by
 refine Jb c75_ok rfl rfl fun N=>?_
 simp +contextual -implicitDefEqProofs only[c75,go_sem,Tr.cv,Tr.row]
 refine Je (id:=0) (z:=2) (els:=[t.row]) rfl rfl ?_
 simp only[go_sem,JS,Ki,frz,KP]
 refine JC (I:=fun i:Nat=>i < m∧fs o n=fs o i) (inv:=fun i=>gp [(1,.int .i64 (i:Int)),(0,.rptr t.row)] 19) (hp:=fun _=>[.dead]) (μ:=fun i=>i) n ⟨hn,rfl⟩ ?_ rfl ?_
 ·simp[forget,gp]
 ·rintro i ⟨hi,hinv⟩
  have hlt:i < t.nodes.length:=by omega
  have hK:((Js t.nodes).take m)[i]? = some (t.nodes.getD i default).kids:=by
   rw[GA,if_pos hi,JK hlt]
  have hg:=KQ hlt
  generalize t.nodes.getD i default=x at hK hg
  simp +contextual -implicitDefEqProofs only[go_sem,Tr.row,Jc,hg,Nd.cv,Jf]
  refine ⟨by omega,?_⟩
  cases hk:x.kids with
  |nil=>
   rw[hk]at hK
   have:=firstsF_leaf ho hK
   simp +contextual -implicitDefEqProofs only[go_sem]
   rw[hinv]
   unfold fs
   rw[Gx,this]
  |cons k ks=>
   rw[hk]at hK
   obtain ⟨h1,h2⟩:=firstsF_kid ho hK
   have h3:=QM ho hK k (by simp)
   have d4:((0:Int) < ((ks.length+1:Nat):Int))=True:=Jo
   simp +contextual -implicitDefEqProofs only[go_sem,d4,Jc,hg,Nd.cv,hk,iz,Gl]
   have hkn:((k.toNat:Nat):Int)=k:=by omega
   refine ⟨by omega,k.toNat,⟨by omega,?_⟩,by omega,?_⟩
   ·rw[hinv]
    unfold fs
    rw[Gx,Gx,h1]
   ·rw[hkn]
    simp[forget]
theorem JeY (t:Tr) {m:Nat}{o:List Int}(ho:Jt ((Js t.nodes).take m) []=some o) (hm:m≤t.nodes.length) (hm2:t.nodes.length≤1400) (l:List Int) (hl:l.length≤1000) (e:Nat) (he:e≤m) :
  Fn Gb 43 [t.cv,.rslc 1 (iz l) none,.int .i64 (e:Int)] (.tup [.int .i64 (Jex (fs o) l.reverse e).1,.bool (Jex (fs o) l.reverse e).2]):=by
 have hok:=Qh _ _ _ QG.nil ho
 have hol:=Qn _ _ _ ho
 simp only[GI,Gw,Gr,Js,List.length_map]at hol
 refine Jb c43_ok rfl rfl fun N=>?_
 simp +contextual -implicitDefEqProofs only[c43,go_sem,Tr.cv,Tr.row,Jf]
 refine ⟨Jj,?_⟩
 refine Je (id:=0) (z:=2) (els:=[t.row]) rfl rfl ?_
 simp only[go_sem,JS,Ki,frz,KP]
 refine JC (σ:=Nat×Nat) (I:=fun s=>s.1≤l.length∧s.2≤m∧Jex (fs o) l.reverse e=Jex (fs o) (l.take s.1).reverse s.2) (inv:=fun s=>gp [(1,.rslc 1 (iz l) none),(0,.int .i64 (s.2:Int)),(0,.rptr t.row),(4,.int .i64 ((s.1:Int)-1))] 29) (hp:=fun _=>[.dead]) (μ:=fun s=>s.1) (l.length,e) ⟨by simp,he,by simp⟩ ?_ rfl ?_
 ·simp[forget,gp]
 ·rintro ⟨j,q⟩ ⟨hj,hq,hinv⟩
  dsimp only at hj hq hinv
  cases j with
  |zero=>
   simp only[List.take_zero,List.reverse_nil,Jex]at hinv
   have d1:((0:Int)≤((0:Nat):Int)-1)=False:=Jn
   simp +contextual -implicitDefEqProofs only[go_sem,d1,hinv]
  |succ j=>
   have hjl:j < l.length:=by omega
   have hlast:(l.take (j+1)).reverse=l.getD j 0::(l.take j).reverse:=by
    rw[Gy hjl,List.reverse_append,Gf,Gg hjl]; rfl
   rw[hlast,Jex]at hinv
   have hti:(((j+1:Nat):Int)-1).toNat=j:=by omega
   have d1:((0:Int)≤((j+1:Nat):Int)-1)=True:=Jo
   have hgi:=JP hjl
   generalize l.getD j 0=k at hinv hgi
   by_cases hc:k≠(q:Int)-1∨k < 0
   ·rw[if_pos hc]at hinv
    by_cases hc1:k=(q:Int)-1
    ·have e1:(k != (q:Int)-1)=false:=by simp[hc1]
     have e2:(k < 0)=True:=Jo
     simp +contextual -implicitDefEqProofs only[go_sem,d1,Jf,hti,hgi,e1,e2,hinv]
     exact ⟨by omega,Jj,by omega⟩
    ·have e1:(k != (q:Int)-1)=true:=by simp[hc1]
     simp +contextual -implicitDefEqProofs only[go_sem,d1,Jf,hti,hgi,e1,hinv]
     exact ⟨by omega,Jj⟩
   ·rw[if_neg hc]at hinv
    have hc1:k=(q:Int)-1:=by omega
    have e1:(k != (q:Int)-1)=false:=by simp[hc1]
    have e2:(k < 0)=False:=Jn
    have hkl:k.toNat < m:=by omega
    have hk0:((k.toNat:Nat):Int)=k:=by omega
    have hf:=Jgg hok (i:=k) (by omega) (by rw[hol]; omega)
    have hfn:((fs o k).toNat:Int)=fs o k:=by omega
    simp +contextual -implicitDefEqProofs only[go_sem,d1,Jf,hti,hgi,e1,e2]
    refine ⟨by omega,Jj,by omega,?_⟩
    refine JQ Jz (by decide) ?_
    simp only[go_sem,Tr.row,Jf,hti,hgi]
    refine ⟨by omega,?_⟩
    have hF:=JfU t ho hm k.toNat hkl
    rw[hk0]at hF
    refine J4 (.inl rfl) hF ?_
    simp +contextual -implicitDefEqProofs only[go_sem]
    refine ⟨Jj,(j,(fs o k).toNat),⟨by simp only; omega,by simp only; omega,?_⟩,by simp only; omega,?_⟩
    ·rw[hinv]; simp only[hfn]
    ·simp only[hfn]
     simp[forget]
theorem let_all:∀ k:Fin 256,(Jey k.val=83↔k.val=41)∧(Jey k.val=78↔k.val=44):=by decide +kernel
theorem Jd9 {l:List Nd}{x:Nd}(hn:∀ y∈l,y.k < 256) (hk:∀ k∈x.kids,0≤k∧k < l.length) {c:Nat}{b:UInt8}(h:∀ k:Nat,k < 256→(Jey k=b↔k=c)):(kinds l x).count c=K9 b (lets l x):=by
 unfold kinds lets K9
 have:∀ ks:List Int,(∀ k∈ks,0≤k∧k < l.length)→(ks.map (Jq l)).count c=(ks.map fun k=>Jey (Jq l k)).count b:=by
  intro ks
  induction ks with
  |nil=>intro _; rfl
  |cons k ks ih=>
   intro hks
   have hr:=hks k (by simp)
   have hlt:k.toNat < l.length:=by omega
   have hkk:Jq l k < 256:=by
    unfold Jq
    rw[Gf,Gg hlt]
    exact hn _ (Gq hlt)
   have he:=h _ hkk
   rw[Gl,Gl,GJ,GJ,ih (fun q hq=>hks q (by simp[hq]))]
   congr 1
   by_cases e:Jq l k=c
   ·rw[if_pos (by simp[e]),if_pos (by simp[he.2 e])]
   ·rw[if_neg (by simp[e]),if_neg (by simp; exact fun h2=>e (he.1 h2))]
 exact this x.kids hk
theorem refSized (t:Tr) (i:Nat) (hi:i < t.nodes.length) (hm:t.nodes.length≤1400) (hx:(t.nodes.getD i default).Fit) (hn:∀ y∈t.nodes,y.k < 256) (hk:∀ k∈(t.nodes.getD i default).kids,0≤k∧k < t.nodes.length) :
  Fn Gb 40 [t.cv,.int .i64 (i:Int)] (.bool (K8 (t.nodes.getD i default).k (t.nodes.getD i default).n (lets t.nodes (t.nodes.getD i default)))):=by
 have hg:=KQ hi
 generalize hxe:t.nodes.getD i default=x at hx hk hg ⊢
 have hkn:=hx.kidn
 have hll:=QK (l:=t.nodes) (x:=x)
 have hc1:=Jd9 hn hk (c:=41) (b:=83) (fun k h=>(let_all ⟨k,h⟩).1)
 have hc2:=Jd9 hn hk (c:=44) (b:=78) (fun k h=>(let_all ⟨k,h⟩).2)
 have hM1:=refMany t x hx hk 41
 have hM2:=refMany t x hx hk 44
 rw[hc1]at hM1
 rw[hc2]at hM2
 simp only[Ga]at hM1 hM2
 have hnr:=hx.n
 obtain ⟨k,text,n,kids,pl⟩:=x
 generalize lets t.nodes ⟨k,text,n,kids,pl⟩=hv at hll hM1 hM2 ⊢
 simp only[Nd.cv]at hg hM1 hM2 hkn hll hnr ⊢
 rcases (show (k=65∨k=26∨k=40∨k=45∨k=41∨k=28∨k=29∨k=48∨k=47)∨(k≠65∧k≠26∧k≠40∧k≠45∧k≠41∧k≠28∧k≠29∧k≠48∧k≠47) by omega) with (rfl | rfl | rfl | rfl | rfl | rfl | rfl | rfl | rfl) | rest
 ·refine Jb c40_ok rfl rfl fun N=>?_
  simp (maxSteps:=2000000) -implicitDefEqProofs only[c40,go_sem,Tr.cv,Tr.row,Jc,Jf,hg,Ga]
  refine ⟨⟨by omega,by omega⟩,?_⟩
  refine JR (Jbc n 0 5) ?_
  cases hb:inI 0 5 n with
  |false=>simp (maxSteps:=2000000) -implicitDefEqProofs only[go_sem]; simp[K8,hb]
  |true=>
   have hb2:=hb
   simp only[inI,Gj,decide_eq_true_eq]at hb2
   simp (maxSteps:=2000000) -implicitDefEqProofs only[go_sem,Jc,Jf,hg]
   refine ⟨Jj,Jj,?_⟩
   refine JV (gok rfl) (Jbc _ 1 4) ?_
   simp (maxSteps:=2000000) -implicitDefEqProofs only[go_sem]
   simp[K8,hb,hll]
 ·refine Jb c40_ok rfl rfl fun N=>?_
  simp (maxSteps:=2000000) -implicitDefEqProofs only[c40,go_sem,Tr.cv,Tr.row,Jc,Jf,hg,Ga]
  refine ⟨⟨by omega,by omega⟩,?_⟩
  congr 1
  simp only[K8]
  rw[Gh]; simp; omega
 ·refine Jb c40_ok rfl rfl fun N=>?_
  simp (maxSteps:=2000000) -implicitDefEqProofs only[c40,go_sem,Tr.cv,Tr.row,Jc,Jf,hg,Ga]
  refine ⟨⟨by omega,by omega⟩,?_⟩
  refine JR (Jbc n 0 12) ?_
  cases hb:inI 0 12 n with
  |false=>simp (maxSteps:=2000000) -implicitDefEqProofs only[go_sem]; simp[K8,hb]
  |true=>
   have hb2:=hb
   simp only[inI,Gj,decide_eq_true_eq]at hb2
   simp (maxSteps:=2000000) -implicitDefEqProofs only[go_sem,Jc,Jf,hg]
   refine ⟨Jj,?_⟩
   refine JV (gok rfl) (Jbc _ 1 4) ?_
   simp (maxSteps:=2000000) -implicitDefEqProofs only[go_sem]
   simp[K8,hb,hll]
 ·refine Jb c40_ok rfl rfl fun N=>?_
  simp (maxSteps:=2000000) -implicitDefEqProofs only[c40,go_sem,Tr.cv,Tr.row,Jc,Jf,hg,Ga]
  refine ⟨⟨by omega,by omega⟩,?_⟩
  refine JR (Jbc _ 1 4) ?_
  simp (maxSteps:=2000000) -implicitDefEqProofs only[go_sem]
  simp[K8,hll]
 ·refine Jb c40_ok rfl rfl fun N=>?_
  simp (maxSteps:=2000000) -implicitDefEqProofs only[c40,go_sem,Tr.cv,Tr.row,Jc,Jf,hg,Ga]
  refine ⟨⟨by omega,by omega⟩,?_⟩
  refine JR (Jbc n 1 4) ?_
  simp (maxSteps:=2000000) -implicitDefEqProofs only[go_sem]
  simp[K8,hll]
 ·refine Jb c40_ok rfl rfl fun N=>?_
  simp (maxSteps:=2000000) -implicitDefEqProofs only[c40,go_sem,Tr.cv,Tr.row,Jc,Jf,hg,Ga]
  refine ⟨⟨by omega,by omega⟩,?_⟩
  refine JR (Jbc n 1 5) ?_
  cases hb:inI 1 5 n with
  |false=>simp (maxSteps:=2000000) -implicitDefEqProofs only[go_sem]; simp[K8,hb]
  |true=>
   simp (maxSteps:=2000000) -implicitDefEqProofs only[go_sem,Jc,Jf,hg]
   refine JV (gok rfl) hM1 ?_
   by_cases h12:(K9 83 hv:Int)≤12
   ·have d1:((K9 83 hv:Int)≤12)=True:=eq_true h12
    simp (maxSteps:=2000000) -implicitDefEqProofs only[go_sem,d1]
    refine JV (gok rfl) hM2 ?_
    simp (maxSteps:=2000000) -implicitDefEqProofs only[go_sem]
    simp[K8,hb,d1]
   ·have d1:((K9 83 hv:Int)≤12)=False:=eq_false h12
    simp (maxSteps:=2000000) -implicitDefEqProofs only[go_sem,d1]
    simp[K8,hb,d1]
 ·refine Jb c40_ok rfl rfl fun N=>?_
  simp (maxSteps:=2000000) -implicitDefEqProofs only[c40,go_sem,Tr.cv,Tr.row,Jc,Jf,hg,Ga]
  refine ⟨⟨by omega,by omega⟩,?_⟩
  refine JR (Jbc n 0 100) ?_
  cases hb:inI 0 100 n with
  |false=>simp (maxSteps:=2000000) -implicitDefEqProofs only[go_sem]; simp[K8,hb]
  |true=>
   simp (maxSteps:=2000000) -implicitDefEqProofs only[go_sem,Jc,Jf,hg]
   refine ⟨Jj,?_⟩
   refine JV (gok rfl) (Jbc _ 1 8) ?_
   simp (maxSteps:=2000000) -implicitDefEqProofs only[go_sem]
   simp[K8,hb,hll]
 ·refine Jb c40_ok rfl rfl fun N=>?_
  simp (maxSteps:=2000000) -implicitDefEqProofs only[c40,go_sem,Tr.cv,Tr.row,Jc,Jf,hg,Ga]
  refine ⟨⟨by omega,by omega⟩,?_⟩
  refine JR (Jbc n 0 100) ?_
  simp (maxSteps:=2000000) -implicitDefEqProofs only[go_sem]
  simp[K8,hll]
 ·refine Jb c40_ok rfl rfl fun N=>?_
  simp (maxSteps:=2000000) -implicitDefEqProofs only[c40,go_sem,Tr.cv,Tr.row,Jc,Jf,hg,Ga]
  refine ⟨⟨by omega,by omega⟩,?_⟩
  refine JR (Jbc n 1 9) ?_
  simp (maxSteps:=2000000) -implicitDefEqProofs only[go_sem]
  simp[K8,hll]
 ·obtain ⟨r1,r2,r3,r4,r5,r6,r7,r8,r9⟩:=rest
  have hE:K8 k n hv=true:=by
   simp only[K8]
   rw[if_neg (by omega),if_neg (by omega),if_neg (by omega),if_neg (by omega),if_neg (by omega),if_neg (by omega),if_neg (by omega),if_neg (by omega),if_neg (by omega)]
  rw[hE]
  have e65:=kb (m:=65) (k:=k) (by omega)
  simp only[Ga]at e65
  have e26:=kb (m:=26) (k:=k) (by omega)
  simp only[Ga]at e26
  have e40:=kb (m:=40) (k:=k) (by omega)
  simp only[Ga]at e40
  have e45:=kb (m:=45) (k:=k) (by omega)
  simp only[Ga]at e45
  have e41:=kb (m:=41) (k:=k) (by omega)
  simp only[Ga]at e41
  have e28:=kb (m:=28) (k:=k) (by omega)
  simp only[Ga]at e28
  have e29:=kb (m:=29) (k:=k) (by omega)
  simp only[Ga]at e29
  have e48:=kb (m:=48) (k:=k) (by omega)
  simp only[Ga]at e48
  have e47:=kb (m:=47) (k:=k) (by omega)
  simp only[Ga]at e47
  refine Jb c40_ok rfl rfl fun N=>?_
  simp (maxSteps:=2000000) -implicitDefEqProofs only[c40,go_sem,Tr.cv,Tr.row,Jc,Jf,hg,Ga,e65,e26,e40,e45,e41,e28,e29,e48,e47]
  exact ⟨by omega,by omega⟩
end Go.Cm
end
end
