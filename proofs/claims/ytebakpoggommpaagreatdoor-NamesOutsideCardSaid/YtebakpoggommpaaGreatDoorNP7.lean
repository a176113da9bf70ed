/-
  A part of the proof. Conditions: none.
-/
import Derived.Test.YtebakpoggommpaaGreatDoorNP3
set_option linter.unusedSimpArgs false
set_option linter.unusedVariables false
open List renaming getD_eq_getElem?_getD→Gf,getElem?_eq_getElem→Gg,drop_eq_getElem_cons→Gi,getElem?_eq_some_iff→Gm,drop_eq_nil_of_le→Gn,take_length→Gp,getElem_mem→Gq,map_cons→Gl,length_take→Gr,take_succ_eq_append_getElem→Gy,map_nil→Gu,length_pos_iff→Gz,getElem?_take→GA,getElem?_set→GD,length_drop→GG,all_eq_true→GH,length_nil→GI,count_cons→GJ,drop_zero→GK,length→GL
open Bool renaming eq_iff_iff→Gh,and_eq_true→Gj,or_eq_false_iff→Gs,true_or→Gt,or_false→Gv,not_eq_true'→GM
open Nat renaming le_of_lt→Gc,le_refl→Gd,zero_add→Gw
open Go.Proofs.Tryz renaming prog→Gb
open Int renaming cast_ofNat_Int→Ga,toNat_natCast→Gx
noncomputable section
section
set_option maxRecDepth 100000
set_option maxHeartbeats 20000000
open Go.Proofs
namespace Go.Cm
def Jfm:Bool→List UInt8→Nat
 |_,[]=>0
 |false,c::l=>if isBk c=true then Jfm false l+1 else if c=126 then Jfm true l+1 else 0
 |true,c::l=>if c=10 then Jfm false l+1 else Jfm true l+1
def Yk (l:List UInt8) (a:Nat):Nat:=a+Jfm false (l.drop a)
theorem gapE_ge (l:List UInt8) (a:Nat):a≤Yk l a:=by unfold Yk; omega
theorem Jfn {l:List UInt8}{a:Nat}(h:l.length≤a):Yk l a=a:=by
 unfold Yk; rw[Gn h]; simp[Jfm]
def badB (c:UInt8):Bool:=!(c == 10) && (decide (c.toNat < 32) || decide (126 < c.toNat))
def badE (l:List UInt8) (i:Nat):Nat×Int:=match l with
 |[]=>(0,0)
 |c::r=>if badB c=true then (i,4) else badE r (i+1)
def Xx (l:List UInt8):Nat×Int:=if 2500 < l.length then (0,5) else badE l 0
def rdF (l:List UInt8):Nat→Nat→List (Nat×List UInt8×Nat)→List (Nat×List UInt8×Nat)×Nat×Int
 |0,_,acc=>(acc,0,0)
 |n+1,a,acc=>
  if Yk l a < l.length then
   (if (tkL l (Yk l a)).2.2=true then (if acc.length=900 then ([],Yk l a,5) else rdF l n (Yk l a+(tkL l (Yk l a)).2.1.length) (acc++[((tkL l (Yk l a)).1,(tkL l (Yk l a)).2.1,Yk l a)])) else ([],Yk l a,4))
  else (acc,0,0)
def Y3 (l:List UInt8):List (Nat×List UInt8×Nat)×Nat×Int:=if (Xx l).2≠0 then ([],(Xx l).1,(Xx l).2) else rdF l (l.length+1) 0 []
def kindR (l:List UInt8):Nat:=match Y3 l with
 |([t],_,e)=>if e=0∧t.2.1=l then t.1 else 0
 |_=>0
theorem rdF_pre {l:List UInt8}:∀ (n a:Nat) (acc r:List (Nat×List UInt8×Nat)) (p:Nat),rdF l n a acc=(r,p,0)→∃ s,r=acc++s
 |0,a,acc,r,p,h=>by
  simp only[rdF,Prod.mk.injEq]at h
  exact ⟨[],by rw[← h.1]; simp⟩
 |n+1,a,acc,r,p,h=>by
  simp only[rdF]at h
  split at h
  ·split at h
   ·split at h
    ·simp at h
    ·obtain ⟨s,hs⟩:=rdF_pre n _ _ r p h
     exact ⟨_,by rw[hs,List.append_assoc]⟩
   ·simp at h
  ·simp only[Prod.mk.injEq]at h
   exact ⟨[],by rw[← h.1]; simp⟩
theorem badB_alnum {c:UInt8}(h:KJ c=true):badB c=false:=by
 simp only[KJ,isLt,QO,Bool.or_eq_true,Gj,decide_eq_true_eq]at h
 have h1:¬ c.toNat < 32:=by omega
 have h2:¬ 126 < c.toNat:=by omega
 simp[badB,h1,h2]
theorem badE_none:∀ (l:List UInt8) (i:Nat),(∀ c∈l,badB c=false)→badE l i=(0,0)
 |[],i,_=>rfl
 |c::l,i,h=>by
  simp only[badE]
  rw[if_neg (by rw[h c (by simp)]; simp)]
  exact badE_none l (i+1) fun x hx=>h x (by simp[hx])
theorem tk_name {l:List UInt8}{a:Nat}(h:(tkL l a).1=2):isLt (l.getD a 0)=true∧tkL l a=(2,cut l a (QB KJ l a),decide ((cut l a (QB KJ l a)).length≤12))∧kws.contains (cut l a (QB KJ l a))=false:=by
 unfold tkL at h ⊢
 by_cases h1:isLt (l.getD a 0)=true
 ·rw[if_pos h1]at h ⊢
  by_cases h2:kws.contains (cut l a (QB KJ l a))=true
  ·rw[if_pos h2]at h; simp at h
  ·rw[if_neg h2]
   exact ⟨h1,rfl,by simpa using h2⟩
 ·rw[if_neg h1]at h
  split at h <;> simp at h
theorem kindR_name (l:List UInt8):(kindR l == 2)=Jck l:=by
 rw[Gh,beq_iff_eq]
 constructor
 ·intro h
  unfold kindR at h
  split at h
  ·rename_i t p e he
   split at h
   ·rename_i hc
    obtain ⟨he0,ht⟩:=hc
    subst he0
    unfold Y3 at he
    split at he
    ·simp only[Prod.mk.injEq]at he
     simp at he
    ·simp only[rdF]at he
     split at he
     ·rename_i hlt
      split at he
      ·rename_i hok
       split at he
       ·simp at he
       ·obtain ⟨s,hs⟩:=rdF_pre _ _ _ _ _ he
        simp only[List.nil_append,List.cons_append,List.cons.injEq]at hs
        obtain ⟨rfl,-⟩:=hs
        dsimp only at ht h
        obtain ⟨k1,k2,k3⟩:=tk_name h
        rw[k2]at ht hok
        dsimp only at ht hok
        have hE:=Yg (q:=KJ) (Gc hlt)
        have hge:Yk l 0≤QB KJ l (Yk l 0):=by unfold QB; omega
        have hcl:=Jah hge hE
        rw[ht]at hcl k3 hok
        have h0:Yk l 0=0:=by omega
        rw[h0]at ht k1
        have hal:=Jbf.1 ht
        have hne:l≠[]:=by rintro rfl; simp at hlt
        unfold Jck
        rw[k1,hal,k3,hok]
        simp[hne]
      ·simp at he
     ·simp at he
   ·simp at h
  ·simp at h
 ·intro h
  unfold Jck at h
  simp only[Gj,GM,beq_eq_false_iff_ne,decide_eq_true_eq]at h
  obtain ⟨⟨⟨⟨h1,h2⟩,h3⟩,h4⟩,h5⟩:=h
  have hb:Xx l=(0,0):=by
   unfold Xx
   rw[if_neg (by omega)]
   exact badE_none l 0 fun c hc=>badB_alnum (GH.1 h2 c hc)
  have hpos:0 < l.length:=Gz.2 h5
  have hg:Yk l 0=0:=by
   unfold Yk
   cases l with
   |nil=>rfl
   |cons c r=>
    have hg:=lt_gp (c:=c) (by simpa using h1)
    simp only[isGp,Gs,beq_eq_false_iff_ne]at hg
    simp only[GK,Jfm,hg.1,Bool.false_eq_true,if_false,if_neg hg.2]
  have hcut:cut l 0 (QB KJ l 0)=l:=Jbf.2 h2
  have hT:tkL l 0=(2,l,true):=by
   unfold tkL
   rw[if_pos h1,hcut,if_neg (by rw[h3]; simp),decide_eq_true h4]
  have hend:Yk l l.length=l.length:=Jfn (Gd _)
  have hr:Y3 l=([(2,l,0)],0,0):=by
   unfold Y3
   rw[hb,if_neg (by simp)]
   obtain ⟨n,hn⟩:∃ n,l.length=n+1:=⟨l.length-1,by omega⟩
   have e1:rdF l (l.length+1) 0 []=rdF l l.length (0+l.length) ([]++[(2,l,0)]):=by
    rw[rdF,hg,if_pos hpos,hT,if_pos rfl,if_neg (by simp)]
   have e2:rdF l (n+1) (0+l.length) ([]++[(2,l,0)])=([(2,l,0)],0,0):=by
    rw[rdF,Gw,hend,if_neg (by omega)]
    rfl
   rw[e1,← e2,← hn]
  unfold kindR
  rw[hr]
  simp
theorem Kc (c:UInt8):Fn Gb 115 [.int .u8 c.toNat] (.bool (isLt c)):=by
 refine Jb c115_ok rfl rfl fun N=>?_
 have h1:=dle 97 c
 have h2:=dge 122 c
 simp only[Ga]at h1 h2
 simp +contextual only[c115,go_sem,h1,h2,isLt]
theorem K9 (c:UInt8):Fn Gb 114 [.int .u8 c.toNat] (.bool (QO c)):=by
 refine Jb c114_ok rfl rfl fun N=>?_
 have h1:=dle 48 c
 have h2:=dge 57 c
 simp only[Ga]at h1 h2
 simp +contextual only[c114,go_sem,h1,h2,QO]
theorem refHas (l:List (List UInt8)) (s:List UInt8) (hl:l.length≤100000):Fn Gb 118 [.rslc 1 (sz l) none,S s] (.bool (l.contains s)):=by
 refine Jb c118_ok rfl rfl fun N=>?_
 simp -implicitDefEqProofs only[c118,go_sem]
 refine JA (I:=fun i:Nat=>i≤l.length∧l.contains s=(l.drop i).contains s) (inv:=fun i=>gp [(0,.rslc 1 (sz l) none),(0,S s),(3,.int .i64 (i:Int))] 12) (hp:=fun _=>[]) (μ:=fun i=>l.length-i) 0 ⟨by omega,rfl⟩ ?_ rfl ?_
 ·simp[forget,gp]
 ·rintro i ⟨hi,hinv⟩
  by_cases hlt:i < l.length
  ·have d1:((i:Int) < (l.length:Int))=True:=Jo
   simp -implicitDefEqProofs only[go_sem,YN,d1]
   rw[sz_get hlt]
   refine ⟨by omega,?_⟩
   rw[Gi hlt,List.contains_cons]at hinv
   rw[show l.getD i []=l[i] by rw[Gf,Gg hlt]; rfl]
   generalize l[i]=x at hinv ⊢
   have hsym:(x == s)=(s == x):=by rw[Gh,beq_iff_eq,beq_iff_eq]; exact eq_comm
   cases hx:(x == s) with
   |true=>
    rw[← hsym,hx,Gt]at hinv
    simp -implicitDefEqProofs only[go_sem,hx,hinv]
   |false=>
    rw[← hsym,hx,Bool.false_or]at hinv
    simp -implicitDefEqProofs only[go_sem,hx]
    refine ⟨Jj,i+1,⟨by omega,hinv⟩,by omega,?_⟩
    simp[forget]
  ·have d1:((i:Int) < (l.length:Int))=False:=Jn
   rw[Gn (by omega)]at hinv
   simp -implicitDefEqProofs only[go_sem,YN,d1,hinv]
   try rfl
theorem refLexCheck (l:List UInt8) (hl:l.length≤1000000):Fn Gb 83 [S l] (.tup [.int .i64 ((Xx l).1:Nat),.int .i64 (Xx l).2]):=by
 refine Jb c83_ok rfl rfl fun N=>?_
 by_cases hbig:2500 < l.length
 ·have d0:((2500:Int) < (l.length:Int))=True:=Jo
  have hc:Xx l=(0,5):=by unfold Xx; rw[if_pos hbig]
  simp -implicitDefEqProofs only[c83,go_sem,d0,hc]
  try rfl
 ·have d0:((2500:Int) < (l.length:Int))=False:=Jn
  have hc:Xx l=badE l 0:=by unfold Xx; rw[if_neg hbig]
  simp -implicitDefEqProofs only[c83,go_sem,d0,hc]
  refine JA (I:=fun i:Nat=>i≤l.length∧badE l 0=badE (l.drop i) i) (inv:=fun i=>gp [(0,S l),(3,.int .i64 (i:Int))] 26) (hp:=fun _=>[]) (μ:=fun i=>l.length-i) 0 ⟨by omega,rfl⟩ ?_ rfl ?_
  ·simp[forget,gp]
  ·rintro i ⟨hi,hinv⟩
   by_cases hlt:i < l.length
   ·have d1:((i:Int) < (l.length:Int))=True:=Jo
    rw[Gi hlt,badE]at hinv
    have hg:l.getD i 0=l[i]:=by rw[Gf,Gg hlt]; rfl
    rw[← hg]at hinv
    simp -implicitDefEqProofs only[go_sem,d1]
    generalize l.getD i 0=c at hinv ⊢
    have hne:=deq 10 (by decide) c
    simp only[Ga]at hne
    refine ⟨by omega,?_⟩
    by_cases h10:c=10
    ·have e1:((c.toNat:Int) != 10)=false:=by rw[bne,hne]; simp[h10]
     rw[if_neg (by simp[badB,h10])]at hinv
     simp -implicitDefEqProofs only[go_sem,e1]
     refine ⟨Jj,i+1,⟨by omega,hinv⟩,by omega,?_⟩
     simp[forget]
    ·have e1:((c.toNat:Int) != 10)=true:=by rw[bne,hne]; simp[h10]
     by_cases h32:c.toNat < 32
     ·have e2:((c.toNat:Int) < 32)=True:=Jo
      rw[if_pos (by simp[badB,h10,h32])]at hinv
      simp -implicitDefEqProofs only[go_sem,e1,e2,hinv]
      omega
     ·have e2:((c.toNat:Int) < 32)=False:=Jn
      by_cases h126:126 < c.toNat
      ·have e3:((126:Int) < (c.toNat:Int))=True:=Jo
       rw[if_pos (by simp[badB,h10,h126])]at hinv
       simp -implicitDefEqProofs only[go_sem,e1,e2,e3,hinv]
       omega
      ·have e3:((126:Int) < (c.toNat:Int))=False:=Jn
       rw[if_neg (by simp[badB,h32,h126])]at hinv
       simp -implicitDefEqProofs only[go_sem,e1,e2,e3]
       refine ⟨by omega,by omega,Jj,i+1,⟨by omega,hinv⟩,by omega,?_⟩
       simp[forget]
   ·have d1:((i:Int) < (l.length:Int))=False:=Jn
    rw[Gn (by omega)]at hinv
    simp -implicitDefEqProofs only[go_sem,d1,hinv,badE]
    try rfl
theorem refGap (l:List UInt8) (a:Nat) (ha:a≤l.length) (hl:l.length≤1000000):Fn Gb 84 [S l,.int .i64 (a:Int)] (.int .i64 (Yk l a:Nat)):=by
 refine Jb c84_ok rfl rfl fun N=>?_
 simp -implicitDefEqProofs only[c84,go_sem]
 refine JA (I:=fun i:Nat=>i≤l.length∧Yk l a=Yk l i) (inv:=fun i=>gp [(0,S l),(0,.int .i64 (i:Int))] 39) (hp:=fun _=>[]) (μ:=fun i=>l.length-i) a ⟨ha,rfl⟩ ?_ rfl ?_
 ·simp[forget,gp]
 ·rintro i ⟨hi,hinv⟩
  by_cases hlt:i < l.length
  ·have d1:((i:Int) < (l.length:Int))=True:=Jo
   have hg:l.getD i 0=l[i]:=by rw[Gf,Gg hlt]; rfl
   have hstep:Yk l i=i+Jfm false (l.getD i 0::l.drop (i+1)):=by unfold Yk; rw[Gi hlt,hg]
   simp -implicitDefEqProofs only[go_sem,d1]
   obtain ⟨c,hc⟩:∃ c,c=l.getD i 0:=⟨_,rfl⟩
   rw[← hc]at hstep ⊢
   have q1:=deq 32 (by decide) c
   have q2:=deq 10 (by decide) c
   have q3:=deq 126 (by decide) c
   simp only[Ga]at q1 q2 q3
   refine ⟨by omega,?_⟩
   by_cases h32:c=32
   ·have e1:((c.toNat:Int) == 32)=true:=by rw[q1]; simp[h32]
    have hs:Yk l i=Yk l (i+1):=by
     rw[hstep,Jfm,if_pos (by simp[isBk,h32])]; unfold Yk; omega
    simp -implicitDefEqProofs only[go_sem,e1]
    refine ⟨Jj,i+1,⟨by omega,by rw[hinv,hs]⟩,by omega,?_⟩
    simp[forget]
   ·have e1:((c.toNat:Int) == 32)=false:=by rw[q1]; simp[h32]
    by_cases h10:c=10
    ·have e2:((c.toNat:Int) == 10)=true:=by rw[q2]; simp[h10]
     have hs:Yk l i=Yk l (i+1):=by
      rw[hstep,Jfm,if_pos (by simp[isBk,h10])]; unfold Yk; omega
     simp -implicitDefEqProofs only[go_sem,e1,e2,← hc]
     refine ⟨by omega,Jj,i+1,⟨by omega,by rw[hinv,hs]⟩,by omega,?_⟩
     simp[forget]
    ·have e2:((c.toNat:Int) == 10)=false:=by rw[q2]; simp[h10]
     by_cases h126:c=126
     ·have e3:((c.toNat:Int) == 126)=true:=by rw[q3]; simp[h126]
      have hs:Yk l i=i+Jfm true (l.drop i):=by
       rw[hstep,Gi hlt,← hg,← hc,Jfm,if_neg (by simp[isBk,h126]),if_pos h126,Jfm,if_neg h10]
      simp -implicitDefEqProofs only[go_sem,e1,e2,e3,← hc]
      refine ⟨by omega,by omega,?_⟩
      refine JA (I:=fun j:Nat=>i≤j∧j≤l.length∧Yk l i=j+Jfm true (l.drop j)) (inv:=fun j=>gp [(0,S l),(0,.int .i64 (j:Int))] 39) (hp:=fun _=>[]) (μ:=fun j=>l.length-j) i ⟨by omega,by omega,hs⟩ ?_ rfl ?_
      ·simp[forget,gp]
      ·rintro j ⟨hij,hj,hjv⟩
       by_cases hjl:j < l.length
       ·have d2:((j:Int) < (l.length:Int))=True:=Jo
        have hgj:l.getD j 0=l[j]:=by rw[Gf,Gg hjl]; rfl
        rw[Gi hjl,← hgj]at hjv
        simp -implicitDefEqProofs only[go_sem,d2]
        have hji:j=i→l.getD j 0≠10:=by rintro rfl; rw[← hc]; exact h10
        obtain ⟨x,hxe⟩:∃ x,x=l.getD j 0:=⟨_,rfl⟩
        rw[← hxe]at hjv hji ⊢
        have q4:=deq 10 (by decide) x
        simp only[Ga]at q4
        refine ⟨by omega,?_⟩
        by_cases hx:x=10
        ·have e4:((x.toNat:Int) != 10)=false:=by rw[bne,q4]; simp[hx]
         rw[Jfm,if_pos hx]at hjv
         have hne:j≠i:=fun h=>hji h hx
         have hs2:Yk l i=Yk l j:=by
          rw[hjv]; unfold Yk
          rw[Gi hjl,← hgj,← hxe,Jfm,if_pos (by simp[isBk,hx])]
         simp -implicitDefEqProofs only[go_sem,e4]
         refine ⟨j,⟨by omega,by rw[hinv,hs2]⟩,by omega,?_⟩
         simp[forget]
        ·have e4:((x.toNat:Int) != 10)=true:=by rw[bne,q4]; simp[hx]
         rw[Jfm,if_neg hx]at hjv
         simp -implicitDefEqProofs only[go_sem,e4]
         refine ⟨Jj,j+1,⟨by omega,by omega,by omega⟩,by omega,?_⟩
         simp[forget]
       ·have d2:((j:Int) < (l.length:Int))=False:=Jn
        have hje:j=l.length:=by omega
        simp -implicitDefEqProofs only[go_sem,d2]
        refine ⟨j,⟨by omega,?_⟩,by omega,?_⟩
        ·rw[hinv,hjv,Jfn (by omega),Gn (by omega)]; simp[Jfm]
        ·simp[forget]
     ·have e3:((c.toNat:Int) == 126)=false:=by rw[q3]; simp[h126]
      have hs:Yk l i=i:=by
       rw[hstep,Jfm,if_neg (by simp[isBk,h32,h10]),if_neg h126]; rfl
      simp -implicitDefEqProofs only[go_sem,e1,e2,e3,← hc]
      refine ⟨by omega,by omega,?_⟩
      rw[hinv,hs]
  ·have d1:((i:Int) < (l.length:Int))=False:=Jn
   simp -implicitDefEqProofs only[go_sem,d1]
   rw[hinv,Jfn (by omega)]
theorem decA_take {l:List UInt8}{i:Nat}(h:i < l.length):Ja8 0 (l.take (i+1))=Ja8 0 (l.take i)*10+((l.getD i 0).toNat-48):=by
 rw[Gy h,JfF,Jag]
 rw[show l.getD i 0=l[i] by rw[Gf,Gg h]; rfl]
 rfl
theorem decA_pre {l:List UInt8}(i:Nat):Ja8 0 (l.take i)≤JbB l:=by
 have:JbB l=Ja8 (Ja8 0 (l.take i)) (l.drop i):=by rw[← JfF,List.take_append_drop]; rfl
 rw[this]; exact JfE _ _
def numV (l:List UInt8):Int:=if Ja1 l=true then (JbB l:Int) else -1
theorem numV_ok (l:List UInt8):decide (0≤numV l)=Ja1 l:=by
 unfold numV
 split
 ·rename_i h; rw[h]; simp
 ·rename_i h; simp at h; rw[h]; rfl
theorem refNumber (l:List UInt8) (hd:l.all QO=true) (hl:l.length≤1000000):Fn Gb 117 [S l] (.int .i64 (numV l)):=by
 refine Jb c117_ok rfl rfl fun N=>?_
 simp -implicitDefEqProofs only[c117,go_sem]
 refine JA (I:=fun i:Nat=>i≤l.length∧Ja8 0 (l.take i)≤1000000000) (inv:=fun i=>gp [(0,S l),(2,.int .i64 (Ja8 0 (l.take i):Nat)),(0,.int .i64 (i:Int))] 25) (hp:=fun _=>[]) (μ:=fun i=>l.length-i) 0 ⟨by omega,by simp[Ja8]⟩ ?_ rfl ?_
 ·simp[forget,gp,Ja8]
 ·rintro i ⟨hi,hinv⟩
  by_cases hlt:i < l.length
  ·have d1:((i:Int) < (l.length:Int))=True:=Jo
   have hdc:QO (l.getD i 0)=true:=by
    rw[Gf,Gg hlt]
    exact GH.1 hd _ (Gq hlt)
   have hst:=decA_take hlt
   have hpre:=decA_pre (l:=l) (i+1)
   simp only[QO,Gj,decide_eq_true_eq]at hdc
   simp -implicitDefEqProofs only[go_sem,d1]
   generalize l.getD i 0=c at hdc hst ⊢
   generalize Ja8 0 (l.take i)=v at hinv hst ⊢
   rw[hst]at hpre
   refine ⟨Jj,by omega,⟨by show (0:Int)≤_; omega,by show _≤(255:Int); omega⟩,Jj,Jj,?_⟩
   by_cases hbig:1000000000 < v*10+(c.toNat-48)
   ·have d2:((1000000000:Int) < 10*(v:Int)+((c.toNat:Int)-48))=True:=Jo
    have hn:numV l = -1:=by
     unfold numV
     rw[if_neg]
     unfold Ja1
     rw[decide_eq_false (by omega)]; simp
    simp -implicitDefEqProofs only[go_sem,d2,hn]
   ·have d2:((1000000000:Int) < 10*(v:Int)+((c.toNat:Int)-48))=False:=Jn
    simp -implicitDefEqProofs only[go_sem,d2]
    refine ⟨Jj,i+1,⟨by omega,by omega⟩,by omega,?_⟩
    have e:((v*10+(c.toNat-48):Nat):Int)=10*(v:Int)+((c.toNat:Int)-48):=by omega
    rw[hst,e]
    simp[forget]
  ·have d1:((i:Int) < (l.length:Int))=False:=Jn
   have hie:i=l.length:=by omega
   subst hie
   rw[Gp]at hinv
   have hv:Ja8 0 l=JbB l:=rfl
   by_cases h1:1 < l.length
   ·have d2:((1:Int) < (l.length:Int))=True:=Jo
    simp -implicitDefEqProofs only[go_sem,d1,d2,Gp]
    have hq:=deq 48 (by decide) (l.getD 0 0)
    simp only[Ga]at hq
    have hh:l.head? = some (l.getD 0 0):=by cases l with
     |nil=>simp at h1
     |cons a r=>rfl
    by_cases h48:l.getD 0 0=48
    ·have e1:(((l.getD 0 0).toNat:Int) == 48)=true:=by rw[hq,h48]; rfl
     have hn:numV l = -1:=by
      unfold numV
      rw[if_neg]
      unfold Ja1
      rw[hh,h48]
      have:¬ (l.length=1∨some (48:UInt8)≠some 48):=by simp; omega
      rw[decide_eq_false this]; simp
     refine ⟨by omega,?_⟩
     simp -implicitDefEqProofs only[go_sem,e1,hn]
    ·have e1:(((l.getD 0 0).toNat:Int) == 48)=false:=by rw[hq]; exact beq_eq_false_iff_ne.2 h48
     have hn:numV l=JbB l:=by
      unfold numV
      rw[if_pos]
      unfold Ja1
      rw[hh]
      have:(l.length=1∨some (l.getD 0 0)≠some (48:UInt8)):=.inr (by simpa using h48)
      rw[decide_eq_true this,decide_eq_true (by omega)]; rfl
     refine ⟨by omega,?_⟩
     simp -implicitDefEqProofs only[go_sem,e1,hn,hv]
   ·have d2:((1:Int) < (l.length:Int))=False:=Jn
    have hn:numV l=JbB l:=by
     unfold numV
     rw[if_pos]
     unfold Ja1
     have:(l.length=1∨l.head?≠some (48:UInt8)):=by
      cases l with
      |nil=>right; simp
      |cons a r=>left; simp at h1; simp[h1]
     rw[decide_eq_true this,decide_eq_true (by omega)]; rfl
    simp -implicitDefEqProofs only[go_sem,d1,d2,Gp,hn,hv]
theorem cut_take (l:List UInt8) (a n:Nat):cut l a (a+n)=(l.drop a).take n:=by
 unfold cut; rw[List.drop_take,Nat.add_sub_cancel_left]
theorem refSign (l:List UInt8) (a:Nat) (ha:a < l.length) (hl:l.length≤1000000):Fn Gb 116 [S l,.int .i64 (a:Int)] (.tup [.agg (lxz 4 (sgnL (l.drop a)) a),.int .i64 ((a+(sgnL (l.drop a)).length:Nat):Int),.bool (!(sgnL (l.drop a) == []))]):=by
 refine Jb c116_ok rfl rfl fun N=>?_
 simp -implicitDefEqProofs only[c116,go_sem]
 refine JM apiSigns ?_
 simp -implicitDefEqProofs only[go_sem]
 have hsl:sgs.length=26:=rfl
 have hbl:=sgnF_len (r:=l.drop a) sgs [] (by simp) sgs_len
 have hend:(sgnL (l.drop a)).length≤2:=hbl
 refine JA (σ:=Nat×List UInt8) (I:=fun s=>s.1≤sgs.length∧sgnL (l.drop a)=sgnF (l.drop a) (sgs.drop s.1) s.2) (inv:=fun s=>gp [(0,S l),(0,.int .i64 (a:Int)),(2,.ptr 0 0 0),(2,S s.2),(0,.rslc 1 (sz sgs) none),(0,.int .i64 (s.1:Int))] 51) (hp:=fun s=>[.arr 3 [[.int .u8 0,S [],.int .i64 0]]]) (μ:=fun s=>sgs.length-s.1) (0,[]) ⟨by omega,rfl⟩ ?_ rfl ?_
 ·simp[forget,gp]
 ·rintro ⟨i,b⟩ ⟨hi,hinv⟩
  simp only at hi hinv
  by_cases hlt:i < sgs.length
  ·have d1:((i:Int) < (sgs.length:Int))=True:=Jo
   simp -implicitDefEqProofs only[go_sem,YN,d1]
   have hgs:=sz_get hlt
   have hsl2:=sgs_len _ (Gq hlt)
   rw[Gi hlt,sgnF]at hinv
   rw[show sgs.getD i []=sgs[i] by rw[Gf,Gg hlt]; rfl]at hgs
   generalize sgs[i]=s at hinv hgs hsl2 ⊢
   rw[hgs]
   refine ⟨by omega,?_⟩
   simp -implicitDefEqProofs only[go_sem]
   refine JK Jz (by decide) ?_
   by_cases hb:b.length < s.length
   ·have d2:((b.length:Int) < (s.length:Int))=True:=Jo
    by_cases hin:a+s.length≤l.length
    ·have d3:((a:Int)+(s.length:Int)≤(l.length:Int))=True:=Jo
     have htn:((a:Int)+(s.length:Int)).toNat=a+s.length:=by omega
     have hcut:List.drop a (List.take (a+s.length) l)=(l.drop a).take s.length:=cut_take l a s.length
     by_cases hp:(l.drop a).take s.length=s
     ·have e1:((l.drop a).take s.length == s)=true:=beq_iff_eq.2 hp
      rw[if_pos ⟨hp,hb⟩]at hinv
      simp -implicitDefEqProofs only[go_sem,YN,d2,d3,hgs,htn,hcut,e1]
      refine ⟨Jj,Jj,by omega,by omega,by omega,Jj,(i+1,s),⟨by simp only; omega,hinv⟩,by simp only; omega,?_⟩
      simp[forget]
     ·have e1:((l.drop a).take s.length == s)=false:=beq_eq_false_iff_ne.2 hp
      rw[if_neg (fun h=>hp h.1)]at hinv
      simp -implicitDefEqProofs only[go_sem,YN,d2,d3,hgs,htn,hcut,e1]
      refine ⟨Jj,Jj,by omega,by omega,Jj,(i+1,b),⟨by simp only; omega,hinv⟩,by simp only; omega,?_⟩
      simp[forget]
    ·have d3:((a:Int)+(s.length:Int)≤(l.length:Int))=False:=Jn
     have hp:(l.drop a).take s.length≠s:=by
      intro e
      have:=congrArg GL e
      rw[Gr,GG]at this
      omega
     rw[if_neg (fun h=>hp h.1)]at hinv
     simp -implicitDefEqProofs only[go_sem,YN,d2,d3,hgs]
     refine ⟨Jj,Jj,(i+1,b),⟨by simp only; omega,hinv⟩,by simp only; omega,?_⟩
     simp[forget]
   ·have d2:((b.length:Int) < (s.length:Int))=False:=Jn
    rw[if_neg (fun h=>hb h.2)]at hinv
    simp -implicitDefEqProofs only[go_sem,YN,d2,hgs]
    refine ⟨Jj,(i+1,b),⟨by simp only; omega,hinv⟩,by simp only; omega,?_⟩
    simp[forget]
  ·have d1:((i:Int) < (sgs.length:Int))=False:=Jn
   have:i=sgs.length:=by omega
   subst this
   rw[List.drop_length,sgnF]at hinv
   rw[hinv]at hend ⊢
   simp -implicitDefEqProofs only[go_sem,YN,d1]
   refine ⟨Jj,?_⟩
   simp only[lxz]
   rfl
def qAt (c:UInt8):UInt8→Bool:=if isLt c=true then KJ else QO
section
theorem Je2 {q:UInt8→Bool}{l:List UInt8}:∀ (n a i:Nat),n=i-a→a≤i→i < QB q l a→i < l.length→q (l.getD i 0)=true
 |0,a,i,hn,h1,h2,h3=>by
  have:a=i:=by omega
  subst this
  cases hq:q (l.getD a 0) with
  |true=>rfl
  |false=>rw[JcM h3 hq]at h2; omega
 |n+1,a,i,hn,h1,h2,h3=>by
  cases hq:q (l.getD a 0) with
  |true=>rw[Jcp (by omega) hq]at h2; exact Je2 n (a+1) i (by omega) (by omega) h2 h3
  |false=>rw[JcM (by omega) hq]at h2; omega
theorem Jcq {q:UInt8→Bool}{l:List UInt8}:∀ (n a:Nat),n=l.length-a→QB q l a < l.length→q (l.getD (QB q l a) 0)=false
 |0,a,hn,h=>by
  have:a≤QB q l a:=by unfold QB; omega
  omega
 |n+1,a,hn,h=>by
  have:a≤QB q l a:=by unfold QB; omega
  cases hq:q (l.getD a 0) with
  |true=>rw[Jcp (by omega) hq]at h ⊢; exact Jcq n (a+1) (by omega) h
  |false=>rw[JcM (by omega) hq]; exact hq
theorem lt_dg {c:UInt8}(h:isLt c=true):QO c=false:=by
 simp only[isLt,Gj,decide_eq_true_eq]at h
 have:¬ c.toNat≤57:=by omega
 simp[QO,this]
section
variable {P:Program}{E:Env}{H:List CObj}{T:List CV}
theorem hs_st {d:Option Nat}{n:Nat}{a v:IArg}{id i off z:Nat}{els:List (List CV)}{cs:List CV}(ha:J9 T a=.ptr id i off) (hv:(J9 T v).cells=some cs) (hH:H[id]? = some (.arr z els)) (hn:cs.length=n∧QA cs=true) (hc:i+1≤els.length∧off+n≤(els.getD i []).length) :
  HS P E ⟨d,.store n a v,none⟩ T H .un (H.set id (.arr z (els.set i (splice (els.getD i []) off cs)))) (.on [id+1],.on [id+1]):=by
 refine ⟨fun x hx=>?_,fun T2 H2 hag hx=>?_⟩
 ·cases x with
  |zero=>simp[hat]
  |succ x=>
   have hne:¬ id=x:=fun e=>hx (by simp[Foot.has,e])
   simp[hat,GD,hne]
 ·have hH2:H2[id]? = some (.arr z els):=by
   have:=hx (id+1) (by simp[Foot.has])
   simpa [hat,hH]using this
  refine ⟨H2.set id (.arr z (els.set i (splice (els.getD i []) off cs))),fun x hx=>?_,fun x hx=>?_,fun _ _ _ _ _ hok=>ok_op (.inl rfl) (c:=.and (.le (i+1) els.length) (.le (off+n) (els.getD i []).length)) (v:=.un) ?_ hc hok⟩
  ·simp only[Foot.has,List.mem_cons,List.not_mem_nil,or_false]at hx
   subst hx
   have h1:=(Gm.1 hH).1
   have h2:=(Gm.1 hH2).1
   simp[hat,h1,h2]
  ·cases x with
   |zero=>simp[hat]
   |succ x=>
    have hne:¬ id=x:=fun e=>hx (by simp[Foot.has,e])
    simp[hat,GD,hne]
  ·rw[← XE (Jl hag).2]
   simp only[exec,ha,hv,hH2]
   rw[if_pos hn]
end
theorem refAtS (l:List UInt8) (a:Nat) (ha:a < l.length) (hl:l.length≤1000000) (h1:isLt (l.getD a 0)=false) (h2:QO (l.getD a 0)=false):Fn Gb 85 [S l,.int .i64 (a:Int)] (.tup [.agg (lxz (tkL l a).1 (tkL l a).2.1 a),.int .i64 ((a+(tkL l a).2.1.length:Nat):Int),.bool (tkL l a).2.2]):=by
 refine Jb c85_ok rfl rfl fun N=>?_
 simp -implicitDefEqProofs only[c85,go_sem]
 obtain ⟨c0,hc0⟩:∃ c,c=l.getD a 0:=⟨_,rfl⟩
 obtain ⟨q,hq⟩:∃ q,q=qAt c0:=⟨_,rfl⟩
 have hq2:q=QO:=by rw[hq,qAt,hc0]; first | rw[if_pos h1] | rw[if_neg (by rw[h1]; simp)]
 obtain ⟨E,hE⟩:∃ E,E=QB q l a:=⟨_,rfl⟩
 have hEl:E≤l.length:=by rw[hE]; exact Yg (Gc ha)
 have hEg:a≤E:=by rw[hE]; unfold QB; omega
 have hin:∀ i,a≤i→i < E→q (l.getD i 0)=true:=fun i h1 h2=>Je2 _ a i rfl h1 (by rw[← hE]; exact h2) (by omega)
 have hout:E < l.length→q (l.getD E 0)=false:=fun h=>by rw[hE]at h ⊢; exact Jcq _ a rfl h
 have hEa:E=a:=by rw[hE,hq2]; exact JcM ha h2
 have hT:tkL l a=(4,sgnL (l.drop a),!(sgnL (l.drop a) == [])):=by
  unfold tkL; rw[if_neg (by rw[h1]; simp),if_neg (by rw[h2]; simp)]
 rw[hT]
 have hia:((E:Int) == (a:Int))=true:=by rw[hEa]; simp
 refine JA (I:=fun i:Nat=>a≤i∧i≤E) (inv:=fun i=>gp [(0,S l),(0,.int .i64 (a:Int)),(2,.ptr 0 0 0),(2,.int .i64 (i:Int))] 69) (hp:=fun _=>[.arr 3 [[.int .u8 0,S [],.int .i64 0]]]) (μ:=fun i=>l.length-i) a ⟨by omega,by omega⟩ ?_ rfl ?_
 ·simp[forget,gp]
 ·rintro i ⟨hai,hi⟩
  by_cases hgo:i < E
  ·have hlt:i < l.length:=by omega
   have d1:((i:Int) < (l.length:Int))=True:=Jo
   have hqi:=hin i hai hgo
   simp -implicitDefEqProofs only[go_sem,d1]
   refine ⟨by omega,?_⟩
   refine JP (gok rfl) (K9 _) ?_
   cases hdg:QO (l.getD i 0) with
   |true=>
    simp -implicitDefEqProofs only[go_sem]
    refine ⟨Jj,i+1,⟨by omega,by omega⟩,by omega,?_⟩
    simp[forget]
   |false=>
    rw[hq,qAt]at hqi
    by_cases hl0:isLt c0=true
    ·rw[if_pos hl0]at hqi
     simp only[KJ,hdg,Gv]at hqi
     simp -implicitDefEqProofs only[go_sem]
     refine ⟨by omega,?_⟩
     refine JP (gok rfl) (Kc _) ?_
     simp -implicitDefEqProofs only[go_sem,hqi]
     refine ⟨by omega,?_⟩
     rw[← hc0]
     refine JP (gok rfl) (Kc _) ?_
     simp -implicitDefEqProofs only[go_sem,hl0]
     refine ⟨Jj,i+1,⟨by omega,by omega⟩,by omega,?_⟩
     simp[forget]
    ·rw[if_neg hl0,hdg]at hqi; cases hqi
  ·have hie:i=E:=by omega
   subst hie
   rcases (show l.length≤i∨(i < l.length∧QO (l.getD i 0)=false∧isLt (l.getD i 0)=false)∨(i < l.length∧QO (l.getD i 0)=false∧isLt (l.getD i 0)=true∧isLt c0=false) from by
    by_cases h1:i < l.length
    ·have h2:=hout h1
     rw[hq,qAt]at h2
     by_cases hl0:isLt c0=true
     ·rw[if_pos hl0]at h2
      simp only[KJ,Gs]at h2
      exact .inr (.inl ⟨h1,h2.2,h2.1⟩)
     ·rw[if_neg hl0]at h2
      cases h3:isLt (l.getD i 0) with
      |true=>exact .inr (.inr ⟨h1,h2,rfl,by simpa using hl0⟩)
      |false=>exact .inr (.inl ⟨h1,h2,rfl⟩)
    ·exact .inl (by omega)) with hw | ⟨hw1,hw2,hw3⟩ | ⟨hw1,hw2,hw3,hw4⟩
   case' inl=>
    have d1:((i:Int) < (l.length:Int))=False:=Jn
    simp -implicitDefEqProofs only[go_sem,d1,hia]
   case' inr.inl=>
    have d1:((i:Int) < (l.length:Int))=True:=Jo
    simp -implicitDefEqProofs only[go_sem,d1]
    refine ⟨by omega,?_⟩
    refine JP (gok rfl) (K9 _) ?_
    simp -implicitDefEqProofs only[go_sem,hw2]
    refine ⟨by omega,?_⟩
    refine JP (gok rfl) (Kc _) ?_
    simp -implicitDefEqProofs only[go_sem,hw3,hia]
   case' inr.inr=>
    have d1:((i:Int) < (l.length:Int))=True:=Jo
    simp -implicitDefEqProofs only[go_sem,d1]
    refine ⟨by omega,?_⟩
    refine JP (gok rfl) (K9 _) ?_
    simp -implicitDefEqProofs only[go_sem,hw2]
    refine ⟨by omega,?_⟩
    refine JP (gok rfl) (Kc _) ?_
    simp -implicitDefEqProofs only[go_sem,hw3]
    refine ⟨by omega,?_⟩
    rw[← hc0]
    refine JP (gok rfl) (Kc _) ?_
    simp -implicitDefEqProofs only[go_sem,hw4,hia]
   all_goals (
    refine ⟨by omega,?_⟩
    refine JM (refSign l a ha hl) ?_
    simp -implicitDefEqProofs only[go_sem,lxz,splice]
   )
theorem refAtL (l:List UInt8) (a:Nat) (ha:a < l.length) (hl:l.length≤1000000) (h1:isLt (l.getD a 0)=true):Fn Gb 85 [S l,.int .i64 (a:Int)] (.tup [.agg (lxz (tkL l a).1 (tkL l a).2.1 a),.int .i64 ((a+(tkL l a).2.1.length:Nat):Int),.bool (tkL l a).2.2]):=by
 refine Jb c85_ok rfl rfl fun N=>?_
 simp -implicitDefEqProofs only[c85,go_sem]
 obtain ⟨c0,hc0⟩:∃ c,c=l.getD a 0:=⟨_,rfl⟩
 obtain ⟨q,hq⟩:∃ q,q=qAt c0:=⟨_,rfl⟩
 have hq2:q=KJ:=by rw[hq,qAt,hc0]; first | rw[if_pos h1] | rw[if_neg (by rw[h1]; simp)]
 obtain ⟨E,hE⟩:∃ E,E=QB q l a:=⟨_,rfl⟩
 have hEl:E≤l.length:=by rw[hE]; exact Yg (Gc ha)
 have hEg:a≤E:=by rw[hE]; unfold QB; omega
 have hin:∀ i,a≤i→i < E→q (l.getD i 0)=true:=fun i h1 h2=>Je2 _ a i rfl h1 (by rw[← hE]; exact h2) (by omega)
 have hout:E < l.length→q (l.getD E 0)=false:=fun h=>by rw[hE]at h ⊢; exact Jcq _ a rfl h
 have h2:=lt_dg h1
 have hEa:a < E:=by rw[hE,hq2]; exact JaX ha (by simp only[KJ,h1,Gt])
 have hT:tkL l a=if kws.contains (cut l a E)=true then (1,cut l a E,true) else (2,cut l a E,decide ((cut l a E).length≤12)):=by
  unfold tkL; rw[if_pos h1,hE,hq2]
 have hcl:=Jah hEg hEl
 have hcut:(l.take E).drop a=cut l a E:=rfl
 rw[hT]
 have hia:((E:Int) == (a:Int))=false:=by rw[beq_eq_false_iff_ne]; omega
 refine JA (I:=fun i:Nat=>a≤i∧i≤E) (inv:=fun i=>gp [(0,S l),(0,.int .i64 (a:Int)),(2,.ptr 0 0 0),(2,.int .i64 (i:Int))] 69) (hp:=fun _=>[.arr 3 [[.int .u8 0,S [],.int .i64 0]]]) (μ:=fun i=>l.length-i) a ⟨by omega,by omega⟩ ?_ rfl ?_
 ·simp[forget,gp]
 ·rintro i ⟨hai,hi⟩
  by_cases hgo:i < E
  ·have hlt:i < l.length:=by omega
   have d1:((i:Int) < (l.length:Int))=True:=Jo
   have hqi:=hin i hai hgo
   simp -implicitDefEqProofs only[go_sem,d1]
   refine ⟨by omega,?_⟩
   refine JP (gok rfl) (K9 _) ?_
   cases hdg:QO (l.getD i 0) with
   |true=>
    simp -implicitDefEqProofs only[go_sem]
    refine ⟨Jj,i+1,⟨by omega,by omega⟩,by omega,?_⟩
    simp[forget]
   |false=>
    rw[hq,qAt]at hqi
    by_cases hl0:isLt c0=true
    ·rw[if_pos hl0]at hqi
     simp only[KJ,hdg,Gv]at hqi
     simp -implicitDefEqProofs only[go_sem]
     refine ⟨by omega,?_⟩
     refine JP (gok rfl) (Kc _) ?_
     simp -implicitDefEqProofs only[go_sem,hqi]
     refine ⟨by omega,?_⟩
     rw[← hc0]
     refine JP (gok rfl) (Kc _) ?_
     simp -implicitDefEqProofs only[go_sem,hl0]
     refine ⟨Jj,i+1,⟨by omega,by omega⟩,by omega,?_⟩
     simp[forget]
    ·rw[if_neg hl0,hdg]at hqi; cases hqi
  ·have hie:i=E:=by omega
   subst hie
   rcases (show l.length≤i∨(i < l.length∧QO (l.getD i 0)=false∧isLt (l.getD i 0)=false)∨(i < l.length∧QO (l.getD i 0)=false∧isLt (l.getD i 0)=true∧isLt c0=false) from by
    by_cases h1:i < l.length
    ·have h2:=hout h1
     rw[hq,qAt]at h2
     by_cases hl0:isLt c0=true
     ·rw[if_pos hl0]at h2
      simp only[KJ,Gs]at h2
      exact .inr (.inl ⟨h1,h2.2,h2.1⟩)
     ·rw[if_neg hl0]at h2
      cases h3:isLt (l.getD i 0) with
      |true=>exact .inr (.inr ⟨h1,h2,rfl,by simpa using hl0⟩)
      |false=>exact .inr (.inl ⟨h1,h2,rfl⟩)
    ·exact .inl (by omega)) with hw | ⟨hw1,hw2,hw3⟩ | ⟨hw1,hw2,hw3,hw4⟩
   case' inl=>
    have d1:((i:Int) < (l.length:Int))=False:=Jn
    simp -implicitDefEqProofs only[go_sem,d1,hia,hcut]
   case' inr.inl=>
    have d1:((i:Int) < (l.length:Int))=True:=Jo
    simp -implicitDefEqProofs only[go_sem,d1]
    refine ⟨by omega,?_⟩
    refine JP (gok rfl) (K9 _) ?_
    simp -implicitDefEqProofs only[go_sem,hw2]
    refine ⟨by omega,?_⟩
    refine JP (gok rfl) (Kc _) ?_
    simp -implicitDefEqProofs only[go_sem,hw3,hia,hcut]
   case' inr.inr=>
    have d1:((i:Int) < (l.length:Int))=True:=Jo
    simp -implicitDefEqProofs only[go_sem,d1]
    refine ⟨by omega,?_⟩
    refine JP (gok rfl) (K9 _) ?_
    simp -implicitDefEqProofs only[go_sem,hw2]
    refine ⟨by omega,?_⟩
    refine JP (gok rfl) (Kc _) ?_
    simp -implicitDefEqProofs only[go_sem,hw3]
    refine ⟨by omega,?_⟩
    rw[← hc0]
    refine JP (gok rfl) (Kc _) ?_
    simp -implicitDefEqProofs only[go_sem,hw4,hia,hcut]
   all_goals (
    refine ⟨by omega,by omega,?_⟩
    refine JM (K9 _) ?_
    simp -implicitDefEqProofs only[go_sem,h2]
    generalize hx:cut l a i=x at hcl ⊢
    have hkw:=refHas kws x (by decide)
    refine Jar [Foot.no,Foot.no,(.on [2],.on []),Foot.no,Foot.no] Jz (by decide +kernel) ?_
    refine ⟨_,_,hs_f (.inl rfl) Jdz,_,_,Yi rfl rfl trivial,_,_,hs_ld (id:=1) (i:=0) (off:=1) rfl rfl ⟨Gd 1,(by decide:2≤3)⟩,_,_,hs_f (.inl rfl) hkw,_,_,Yi rfl rfl trivial,?_⟩
    simp -implicitDefEqProofs only[vdf,go_sem,splice]
    cases hk:kws.contains x with
    |true=>
     simp -implicitDefEqProofs only[go_sem,splice]
     rw[show a+x.length=i by omega]
     rfl
    |false=>
     have e12:decide ((x.length:Int)≤12)=decide (x.length≤12):=decide_eq_decide.2 (by omega)
     simp -implicitDefEqProofs only[go_sem,splice]
     refine Jar [(.on [2],.on []),Foot.no,Foot.no,(.on [2],.on []),Foot.no,Foot.no,(.on [1],.on [1]),Foot.no,Foot.no] Jz (by decide +kernel) ?_
     refine ⟨_,_,hs_ld (id:=1) (i:=0) (off:=0) rfl rfl ⟨Gd 1,Gd 3⟩,_,_,Yi rfl rfl trivial,_,_,Yi rfl rfl trivial,_,_,hs_ld (id:=1) (i:=0) (off:=1) rfl rfl ⟨Gd 1,(by decide:2≤3)⟩,_,_,Yi rfl rfl trivial,_,_,Yi rfl rfl trivial,_,_,hs_st (id:=0) (i:=0) (off:=0) rfl rfl rfl ⟨rfl,rfl⟩ ⟨Gd 1,Gd 3⟩,_,_,Yi rfl rfl trivial,_,_,Yi rfl rfl trivial,?_⟩
     simp -implicitDefEqProofs only[vdf,go_sem,splice,e12]
     rw[show a+x.length=i by omega]
     rfl
   )
theorem refAtD (l:List UInt8) (a:Nat) (ha:a < l.length) (hl:l.length≤1000000) (h1:isLt (l.getD a 0)=false) (h2:QO (l.getD a 0)=true):Fn Gb 85 [S l,.int .i64 (a:Int)] (.tup [.agg (lxz (tkL l a).1 (tkL l a).2.1 a),.int .i64 ((a+(tkL l a).2.1.length:Nat):Int),.bool (tkL l a).2.2]):=by
 refine Jb c85_ok rfl rfl fun N=>?_
 simp -implicitDefEqProofs only[c85,go_sem]
 obtain ⟨c0,hc0⟩:∃ c,c=l.getD a 0:=⟨_,rfl⟩
 obtain ⟨q,hq⟩:∃ q,q=qAt c0:=⟨_,rfl⟩
 have hq2:q=QO:=by rw[hq,qAt,hc0]; first | rw[if_pos h1] | rw[if_neg (by rw[h1]; simp)]
 obtain ⟨E,hE⟩:∃ E,E=QB q l a:=⟨_,rfl⟩
 have hEl:E≤l.length:=by rw[hE]; exact Yg (Gc ha)
 have hEg:a≤E:=by rw[hE]; unfold QB; omega
 have hin:∀ i,a≤i→i < E→q (l.getD i 0)=true:=fun i h1 h2=>Je2 _ a i rfl h1 (by rw[← hE]; exact h2) (by omega)
 have hout:E < l.length→q (l.getD E 0)=false:=fun h=>by rw[hE]at h ⊢; exact Jcq _ a rfl h
 have hEa:a < E:=by rw[hE,hq2]; exact JaX ha h2
 have hT:tkL l a=(3,cut l a E,Ja1 (cut l a E)):=by
  unfold tkL; rw[if_neg (by rw[h1]; simp),if_pos h2,hE,hq2]
 have hcl:=Jah hEg hEl
 have hcut:(l.take E).drop a=cut l a E:=rfl
 have hall:=run_all (q:=QO) (Gc ha)
 rw[show QB QO l a=E by rw[hE,hq2]]at hall
 rw[hT]
 have hia:((E:Int) == (a:Int))=false:=by rw[beq_eq_false_iff_ne]; omega
 refine JA (I:=fun i:Nat=>a≤i∧i≤E) (inv:=fun i=>gp [(0,S l),(0,.int .i64 (a:Int)),(2,.ptr 0 0 0),(2,.int .i64 (i:Int))] 69) (hp:=fun _=>[.arr 3 [[.int .u8 0,S [],.int .i64 0]]]) (μ:=fun i=>l.length-i) a ⟨by omega,by omega⟩ ?_ rfl ?_
 ·simp[forget,gp]
 ·rintro i ⟨hai,hi⟩
  by_cases hgo:i < E
  ·have hlt:i < l.length:=by omega
   have d1:((i:Int) < (l.length:Int))=True:=Jo
   have hqi:=hin i hai hgo
   simp -implicitDefEqProofs only[go_sem,d1]
   refine ⟨by omega,?_⟩
   refine JP (gok rfl) (K9 _) ?_
   cases hdg:QO (l.getD i 0) with
   |true=>
    simp -implicitDefEqProofs only[go_sem]
    refine ⟨Jj,i+1,⟨by omega,by omega⟩,by omega,?_⟩
    simp[forget]
   |false=>
    rw[hq,qAt]at hqi
    by_cases hl0:isLt c0=true
    ·rw[if_pos hl0]at hqi
     simp only[KJ,hdg,Gv]at hqi
     simp -implicitDefEqProofs only[go_sem]
     refine ⟨by omega,?_⟩
     refine JP (gok rfl) (Kc _) ?_
     simp -implicitDefEqProofs only[go_sem,hqi]
     refine ⟨by omega,?_⟩
     rw[← hc0]
     refine JP (gok rfl) (Kc _) ?_
     simp -implicitDefEqProofs only[go_sem,hl0]
     refine ⟨Jj,i+1,⟨by omega,by omega⟩,by omega,?_⟩
     simp[forget]
    ·rw[if_neg hl0,hdg]at hqi; cases hqi
  ·have hie:i=E:=by omega
   subst hie
   rcases (show l.length≤i∨(i < l.length∧QO (l.getD i 0)=false∧isLt (l.getD i 0)=false)∨(i < l.length∧QO (l.getD i 0)=false∧isLt (l.getD i 0)=true∧isLt c0=false) from by
    by_cases h1:i < l.length
    ·have h2:=hout h1
     rw[hq,qAt]at h2
     by_cases hl0:isLt c0=true
     ·rw[if_pos hl0]at h2
      simp only[KJ,Gs]at h2
      exact .inr (.inl ⟨h1,h2.2,h2.1⟩)
     ·rw[if_neg hl0]at h2
      cases h3:isLt (l.getD i 0) with
      |true=>exact .inr (.inr ⟨h1,h2,rfl,by simpa using hl0⟩)
      |false=>exact .inr (.inl ⟨h1,h2,rfl⟩)
    ·exact .inl (by omega)) with hw | ⟨hw1,hw2,hw3⟩ | ⟨hw1,hw2,hw3,hw4⟩
   case' inl=>
    have d1:((i:Int) < (l.length:Int))=False:=Jn
    simp -implicitDefEqProofs only[go_sem,d1,hia,hcut]
   case' inr.inl=>
    have d1:((i:Int) < (l.length:Int))=True:=Jo
    simp -implicitDefEqProofs only[go_sem,d1]
    refine ⟨by omega,?_⟩
    refine JP (gok rfl) (K9 _) ?_
    simp -implicitDefEqProofs only[go_sem,hw2]
    refine ⟨by omega,?_⟩
    refine JP (gok rfl) (Kc _) ?_
    simp -implicitDefEqProofs only[go_sem,hw3,hia,hcut]
   case' inr.inr=>
    have d1:((i:Int) < (l.length:Int))=True:=Jo
    simp -implicitDefEqProofs only[go_sem,d1]
    refine ⟨by omega,?_⟩
    refine JP (gok rfl) (K9 _) ?_
    simp -implicitDefEqProofs only[go_sem,hw2]
    refine ⟨by omega,?_⟩
    refine JP (gok rfl) (Kc _) ?_
    simp -implicitDefEqProofs only[go_sem,hw3]
    refine ⟨by omega,?_⟩
    rw[← hc0]
    refine JP (gok rfl) (Kc _) ?_
    simp -implicitDefEqProofs only[go_sem,hw4,hia,hcut]
   all_goals (
    refine ⟨by omega,by omega,?_⟩
    refine JM (K9 _) ?_
    simp -implicitDefEqProofs only[go_sem,h2]
    generalize hx:cut l a i=x at hcl hall ⊢
    have hnum:=refNumber x hall (by omega)
    have hnv:=numV_ok x
    refine Jar [(.on [2],.on []),Foot.no,Foot.no,(.on [2],.on []),Foot.no,Foot.no,(.on [1],.on [1]),Foot.no,Foot.no] Jz (by decide +kernel) ?_
    refine ⟨_,_,hs_ld (id:=1) (i:=0) (off:=0) rfl rfl ⟨Gd 1,Gd 3⟩,_,_,Yi rfl rfl trivial,_,_,Yi rfl rfl trivial,_,_,hs_ld (id:=1) (i:=0) (off:=1) rfl rfl ⟨Gd 1,(by decide:2≤3)⟩,_,_,hs_f (.inl rfl) hnum,_,_,Yi rfl rfl trivial,_,_,hs_st (id:=0) (i:=0) (off:=0) rfl rfl rfl ⟨rfl,rfl⟩ ⟨Gd 1,Gd 3⟩,_,_,Yi rfl rfl trivial,_,_,Yi rfl rfl trivial,?_⟩
    simp -implicitDefEqProofs only[vdf,go_sem,splice,hnv]
    rw[show a+x.length=i by omega]
    rfl
   )
theorem refAt (l:List UInt8) (a:Nat) (ha:a < l.length) (hl:l.length≤1000000):Fn Gb 85 [S l,.int .i64 (a:Int)] (.tup [.agg (lxz (tkL l a).1 (tkL l a).2.1 a),.int .i64 ((a+(tkL l a).2.1.length:Nat):Int),.bool (tkL l a).2.2]):=by
 cases h1:isLt (l.getD a 0) with
 |true=>exact refAtL l a ha hl h1
 |false=>cases h2:QO (l.getD a 0) with
  |true=>exact refAtD l a ha hl h1 h2
  |false=>exact refAtS l a ha hl h1 h2
end
section
def lxr (l:List (Nat×List UInt8×Nat)):List (List CV):=l.map fun t=>lxz t.1 t.2.1 t.2.2
theorem Qp {l:List (Nat×List UInt8×Nat)}:(lxr l).length=l.length:=by simp[lxr]
theorem JbU:∀ (l:List (Nat×List UInt8×Nat)),Jw (lxr l)=true
 |[]=>rfl
 |x::l=>by simp[lxr,lxz,Jw,Jr,CV.closed]; exact JbU l
theorem lxr_app {l:List (Nat×List UInt8×Nat)}{t:Nat×List UInt8×Nat}:lxr (l++[t])=lxr l++[lxz t.1 t.2.1 t.2.2]:=by simp[lxr]
theorem tk_len {l:List UInt8}{a:Nat}(ha:a < l.length) (h:(tkL l a).2.2=true):0 < (tkL l a).2.1.length:=by
 unfold tkL at h ⊢
 by_cases h1:isLt (l.getD a 0)=true
 ·have h2:=JaX (q:=KJ) ha (by simp only[KJ,h1,Gt])
  have h3:=Jah (Gc h2) (Yg (q:=KJ) (Gc ha))
  rw[if_pos h1]at h ⊢
  split <;> (simp only; omega)
 ·rw[if_neg h1]at h ⊢
  by_cases h2:QO (l.getD a 0)=true
  ·have h4:=JaX (q:=QO) ha h2
   have h3:=Jah (Gc h4) (Yg (q:=QO) (Gc ha))
   rw[if_pos h2]at h ⊢
   simp only; omega
  ·rw[if_neg h2]at h ⊢
   simp only[GM,beq_eq_false_iff_ne]at h ⊢
   exact Gz.2 h
theorem sgn_in {r:List UInt8}:∀ (L:List (List UInt8)) (b:List UInt8),b.length≤r.length→(sgnF r L b).length≤r.length
 |[],b,h=>h
 |s::L,b,h=>by
  simp only[sgnF]
  refine sgn_in L _ ?_
  split
  ·rename_i hc
   have:=congrArg GL hc.1
   rw[Gr]at this
   omega
  ·exact h
theorem tk_end {l:List UInt8}{a:Nat}(ha:a < l.length):a+(tkL l a).2.1.length≤l.length:=by
 unfold tkL
 by_cases h1:isLt (l.getD a 0)=true
 ·have h2:=JaX (q:=KJ) ha (by simp only[KJ,h1,Gt])
  have h4:=Yg (q:=KJ) (Gc ha)
  have h3:=Jah (Gc h2) h4
  rw[if_pos h1]
  split <;> (simp only; omega)
 ·rw[if_neg h1]
  by_cases h2:QO (l.getD a 0)=true
  ·have h5:=JaX (q:=QO) ha h2
   have h4:=Yg (q:=QO) (Gc ha)
   have h3:=Jah (Gc h5) h4
   rw[if_pos h2]
   simp only; omega
  ·rw[if_neg h2]
   have:=sgn_in (r:=l.drop a) sgs [] (by simp)
   rw[GG]at this
   show a+(sgnF (l.drop a) sgs []).length≤l.length
   omega
section
variable {P:Program}
theorem JdP {l l':List CV}(h:wks l l'):wk (.tup l) (.tup l'):=by
 rintro own imm v ⟨vs,rfl,hr⟩
 exact ⟨vs,rfl,Jaq h hr⟩
theorem Jcx {l l':List CV}(h:wks l l'):wk (.agg l) (.agg l'):=by
 rintro own imm v ⟨vs,rfl,hr⟩
 exact ⟨vs,rfl,Jaq h hr⟩
theorem Jbt {f:Nat}{args:List CV}{v0:CV}(h:CallsC P Env.none f args [] fun v H'=>wk v v0∨∃ id z els,H'[id]? = some (.arr z els)∧Jw els=true∧wk (frz id z els v) v0) (ha:Jr args=true) (hv:v0.closed=true):Fn P f args v0:=by
 refine fn_of ?_ ha hv
 intro m w vs hs hvs
 refine (h m w vs hs hvs).mono ?_
 rintro e w' ⟨r,m',v,H',h1,h2,h3,h4,g⟩
 rcases g with g | ⟨id,z,els,g1,hc,g⟩
 ·exact ⟨r,m',v0,H',h1,h2,h3,g _ _ _ h4,rfl⟩
 ·obtain ⟨imm',hs',he,hf⟩:=Sim.freeze (n0:=([]:List CObj).length) h3 g1 hc
  exact ⟨r,_,_,_,h1,h2.trans he,hs',g _ _ _ (hf _ _ h4),rfl⟩
end
theorem Jcr {z:Nat}{els:List (List CV)}{id n:Nat}{cap:Option Nat}{x y:CV}(hx:x.closed=true) (hy:y.closed=true) (hn:n=els.length):wk (frz id z els (.tup [.slc id 0 n cap,x,y])) (.tup [.rslc z els none,x,y]):=by
 subst hn
 simp only[frz,JS,if_true,Gw,Gd,GK,Gp,Xb x hx,Xb y hy]
 exact JdP ⟨wk.rslc,wk.refl _,wk.refl _,trivial⟩
theorem refRead (l:List UInt8) (hl:l.length≤1000000):Fn Gb 36 [S l] (.tup [.rslc 3 (lxr (Y3 l).1) none,.int .i64 ((Y3 l).2.1:Nat),.int .i64 (Y3 l).2.2]):=by
 refine Jbt ?_ rfl rfl
 refine J8 c36_ok fun N=>?_
 simp -implicitDefEqProofs only[c36,go_sem]
 refine JM (refLexCheck l hl) ?_
 simp -implicitDefEqProofs only[go_sem]
 cases he:((Xx l).2 != 0) with
 |true=>
  have he2:(Xx l).2≠0:=by simpa using he
  have hr:Y3 l=([],(Xx l).1,(Xx l).2):=by unfold Y3; rw[if_pos he2]
  rw[hr]
  simp -implicitDefEqProofs only[go_sem]
  exact .inr ⟨0,3,[],rfl,rfl,Jcr rfl rfl rfl⟩
 |false=>
  have he2:(Xx l).2=0:=by simpa using he
  have hr:Y3 l=rdF l (l.length+1) 0 []:=by unfold Y3; rw[if_neg (by simp[he2])]
  rw[hr]
  obtain ⟨R,hR⟩:∃ R,R=rdF l (l.length+1) 0 []:=⟨_,rfl⟩
  rw[← hR]
  simp -implicitDefEqProofs only[go_sem]
  refine JM (refGap l 0 (Nat.zero_le _) hl) ?_
  simp -implicitDefEqProofs only[go_sem]
  refine Jv (σ:=Nat×Nat×List (Nat×List UInt8×Nat)) (I:=fun s=>s.2.1≤l.length∧l.length+1≤s.1+s.2.1∧s.2.2.length≤900∧R=rdF l s.1 s.2.1 s.2.2)
   (inv:=fun s=>gp [(0,S l),(6,.slc 0 0 (lxr s.2.2).length (JeB (lxr s.2.2))),(0,.int .i64 (Yk l s.2.1:Nat))] 45) (hp:=fun s=>[.arr 3 (lxr s.2.2)]) (μ:=fun s=>s.1) (l.length+1,0,[]) [0] ⟨by simp,by simp,by simp,hR⟩ rfl ?_ rfl ?_
  ·simp[forget,Jy,ren,Jk,gp,lxr,JeB]
  ·rintro ⟨n,b,acc⟩ ⟨h1,h2,h3,hinv⟩
   dsimp only at h1 h2 h3 hinv ⊢
   have hge:=gapE_ge l b
   by_cases hlt:Yk l b < l.length
   ·have d1:(((Yk l b:Nat):Int) < (l.length:Int))=True:=Jo
    obtain ⟨n,rfl⟩:∃ n',n=n' + 1:=⟨n-1,by omega⟩
    rw[rdF,if_pos hlt]at hinv
    have hT:=refAt l (Yk l b) hlt hl
    have htl:=tk_len hlt
    have hte:=tk_end hlt
    generalize Yk l b=at_ at *
    simp -implicitDefEqProofs only[go_sem,d1]
    refine JM hT ?_
    clear hT
    generalize tkL l at_=T at hinv htl hte ⊢
    obtain ⟨k,x,ok⟩:=T
    dsimp only at hinv htl hte ⊢
    cases ok with
    |false=>
     rw[if_neg (by simp)]at hinv
     rw[hinv]
     simp -implicitDefEqProofs only[go_sem,lxz,splice]
     exact .inr ⟨2,3,[],rfl,rfl,Jcr rfl rfl rfl⟩
    |true=>
     rw[if_pos rfl]at hinv
     by_cases h9:acc.length=900
     ·have d2:(((lxr acc).length:Int) == 900)=true:=by rw[beq_iff_eq,Qp]; omega
      rw[if_pos h9]at hinv
      rw[hinv]
      simp -implicitDefEqProofs only[go_sem,lxz,splice,d2]
      exact .inr ⟨2,3,[],rfl,rfl,Jcr rfl rfl rfl⟩
     ·have d2:(((lxr acc).length:Int) == 900)=false:=by rw[beq_eq_false_iff_ne,Qp]; omega
      rw[if_neg h9]at hinv
      simp -implicitDefEqProofs only[go_sem,lxz,splice,d2,Jt]
      refine ⟨⟨by rw[Qp]; omega,by rw[Qp]; omega⟩,?_⟩
      have hG:=refGap l (at_+x.length) hte hl
      refine JM hG ?_
      simp -implicitDefEqProofs only[go_sem]
      have hpos:=htl rfl
      have hac:JeB (lxr (acc++[(k,x,at_)]))=none:=by rw[lxr_app,JaB]
      have hal:(lxr acc).length+1=(lxr (acc++[(k,x,at_)])).length:=by simp[Qp]
      refine ⟨(n,at_+x.length,acc++[(k,x,at_)]),[3],⟨hte,by simp only; omega,by simp; omega,hinv⟩,by simp only; omega,rfl,?_,?_⟩
      ·simp only[J5,Gl,Gu,go_sem,Ji]
       have hc:=Ja (ρ:=[3]) (JbU (acc++[(k,x,at_)]))
       rw[lxr_app]at hc ⊢
       simp only[lxz]at hc ⊢
       rw[hc]
      ·simp only[hac,hal]
       simp[forget,Jy,ren,Jk]
   ·have d1:(((Yk l b:Nat):Int) < (l.length:Int))=False:=Jn
    have hR2:R=(acc,0,0):=by
     rw[hinv]
     cases n with
     |zero=>rfl
     |succ n=>rw[rdF,if_neg hlt]
    rw[hR2]
    simp -implicitDefEqProofs only[go_sem,d1]
    exact .inr ⟨0,3,lxr acc,rfl,JbU _,Jcr rfl rfl rfl⟩
theorem refKind (l:List UInt8) (hl:l.length≤1000000):Fn Gb 99 [S l] (.int .u8 (kindR l)):=by
 refine Jb c99_ok rfl rfl fun N=>?_
 simp -implicitDefEqProofs only[c99,go_sem]
 refine JM (refRead l hl) ?_
 simp -implicitDefEqProofs only[go_sem]
 unfold kindR
 obtain ⟨ts,p,e⟩:=Y3 l
 simp only
 cases he:(e != 0) with
 |true=>
  have he2:e≠0:=by simpa using he
  simp -implicitDefEqProofs only[go_sem]
  split
  ·rename_i h; cases h; rw[if_neg (fun h=>he2 h.1)]; rfl
  ·rfl
 |false=>
  have he2:e=0:=by simpa using he
  subst he2
  match ts with
  |[]=>
   simp -implicitDefEqProofs only[go_sem,Qp,GI]
  |t::u::r=>
   have hn:(((r.length+1+1:Nat):Int) != 1)=true:=by rw[bne_iff_ne]; omega
   simp -implicitDefEqProofs only[go_sem,Qp,hn]
  |[t]=>
   obtain ⟨k,x,a⟩:=t
   by_cases hx:x=l
   ·have e1:(x == l)=true:=by simp[hx]
    simp -implicitDefEqProofs only[go_sem,lxr,lxz,Gl,Gu,e1,show (((1:Nat):Int) != 1)=false from rfl]
    simp[hx]
   ·have e1:(x == l)=false:=by simp[hx]
    simp -implicitDefEqProofs only[go_sem,lxr,lxz,Gl,Gu,e1,show (((1:Nat):Int) != 1)=false from rfl]
    simp[hx]
end
theorem JaI (n a b:Int):Fn Gb 42 [.int .i64 n,.int .i64 a,.int .i64 b] (.bool (inI a b n)):=by
 refine Jb c42_ok rfl rfl fun N=>?_
 simp +contextual -implicitDefEqProofs only[c42,go_sem,inI]
def inN (a b k:Nat):Bool:=decide (a≤k) && decide (k≤b)
theorem natle (a k:Nat):decide ((a:Int)≤(k:Int))=decide (a≤k):=decide_eq_decide.2 (by omega)
theorem JbT (a k:Nat):((k:Int) == (a:Int))=(k == a):=by
 rw[Gh]; simp; omega
theorem refIsExpr (k:Nat):Fn Gb 25 [.int .u8 k] (.bool (inN 1 29 k)):=by
 refine Jb c25_ok rfl rfl fun N=>?_
 have h1:=natle 1 k
 have h2:=natle k 29
 simp only[Ga]at h1 h2
 simp +contextual -implicitDefEqProofs only[c25,go_sem,inN]
 refine ⟨fun h=>?_,fun h=>?_⟩
 ·congr 1; rw[Gh]; simp; omega
 ·congr 1; rw[Gh]; simp; omega
theorem refIsType (k:Nat):Fn Gb 160 [.int .u8 k] (.bool (inN 60 63 k)):=by
 refine Jb c160_ok rfl rfl fun N=>?_
 simp +contextual -implicitDefEqProofs only[c160,go_sem,inN]
 refine ⟨fun h=>?_,fun h=>?_⟩
 ·congr 1; rw[Gh]; simp; omega
 ·congr 1; rw[Gh]; simp; omega
theorem refIsPart (k:Nat):Fn Gb 161 [.int .u8 k] (.bool (k == 46 || k == 47)):=by
 refine Jb c161_ok rfl rfl fun N=>?_
 simp +contextual -implicitDefEqProofs only[c161,go_sem]
 refine ⟨fun h=>?_,fun h=>?_⟩
 ·congr 1; rw[Gh]; simp at h ⊢; omega
 ·congr 1; rw[Gh]; simp at h ⊢; omega
def isR (k c:Nat):Bool:=if c=200 then inN 1 29 k else if c=201 then inN 60 63 k else if c=202 then (k == 46 || k == 47) else k == c
theorem refIs (t:Tr) (n:Int) (c:Nat) (h0:0≤n) (h1:n < t.nodes.length):Fn Gb 130 [t.cv,.int .i64 n,.int .u8 c] (.bool (isR (Ju t.nodes n) c)):=by
 have hlt:n.toNat < t.nodes.length:=by omega
 have hk:Ju t.nodes n=(t.nodes.getD n.toNat default).k:=rfl
 refine Jb c130_ok rfl rfl fun N=>?_
 simp +contextual -implicitDefEqProofs only[c130,go_sem,Tr.cv,Tr.row,Jd]
 rw[Qb hlt]
 refine ⟨by omega,?_⟩
 simp +contextual -implicitDefEqProofs only[go_sem,Nd.cv]
 rw[← hk]
 generalize Ju t.nodes n=k
 have q0:=JbT 200 c
 have q1:=JbT 201 c
 have q2:=JbT 202 c
 simp only[Ga]at q0 q1 q2
 unfold isR
 by_cases e0:c=200
 ·subst e0
  simp +contextual -implicitDefEqProofs only[go_sem,Ga]
  refine JM (refIsExpr k) ?_
  simp +contextual -implicitDefEqProofs only[go_sem]
 ·have q0':((c:Int) == 200)=false:=by rw[q0]; simpa using e0
  rw[if_neg e0]
  by_cases e1:c=201
  ·subst e1
   simp +contextual -implicitDefEqProofs only[go_sem,Ga]
   refine JM (refIsType k) ?_
   simp +contextual -implicitDefEqProofs only[go_sem]
  ·have q1':((c:Int) == 201)=false:=by rw[q1]; simpa using e1
   rw[if_neg e1]
   by_cases e2:c=202
   ·subst e2
    simp +contextual -implicitDefEqProofs only[go_sem,Ga]
    refine JM (refIsPart k) ?_
    simp +contextual -implicitDefEqProofs only[go_sem]
   ·have q2':((c:Int) == 202)=false:=by rw[q2]; simpa using e2
    rw[if_neg e2]
    have q3:=JbT c k
    simp +contextual -implicitDefEqProofs only[go_sem,q0',q1',q2',q3]
def kinds (l:List Nd) (x:Nd):List Nat:=x.kids.map (Ju l)
theorem kinds_get {l:List Nd}{x:Nd}{j:Nat}(h:j < x.kids.length):(kinds l x)[j]? = some (Ju l (x.kids.getD j 0)):=by
 simp[kinds,Gf,Gg h]
def kidsR (ks:List Nat) (a b:Int) (c:Nat):Bool:=decide (0≤a) && decide (a≤b) && decide (b≤ks.length) && ((ks.take b.toNat).drop a.toNat).all fun k=>isR k c
theorem refKids (t:Tr) (x:Nd) (hx:x.Fit) (hm:t.nodes.length≤1400) (hk:∀ k∈x.kids,0≤k∧k < t.nodes.length) (a b:Int) (c:Nat) :
  Fn Gb 98 [t.cv,.agg x.cv,.int .i64 a,.int .i64 b,.int .u8 c] (.bool (kidsR (kinds t.nodes x) a b c)):=by
 have hkl:(kinds t.nodes x).length=x.kids.length:=by simp[kinds]
 have hkn:=hx.kidn
 refine Jb c98_ok rfl rfl fun N=>?_
 by_cases hA:a < 0∨b < a∨(x.kids.length:Int) < b
 ·have hr:kidsR (kinds t.nodes x) a b c=false:=by
   unfold kidsR
   rw[hkl]
   rw[Bool.eq_false_iff]
   intro h
   simp only[Gj,decide_eq_true_eq]at h
   omega
  rw[hr]
  by_cases h1:a < 0
  ·have d1:(a < 0)=True:=eq_true h1
   simp +contextual -implicitDefEqProofs only[c98,go_sem,Tr.cv,Tr.row,Nd.cv,d1]
  ·have d1:(a < 0)=False:=eq_false h1
   by_cases h2:b < a
   ·have d2:(b < a)=True:=eq_true h2
    simp +contextual -implicitDefEqProofs only[c98,go_sem,Tr.cv,Tr.row,Nd.cv,d1,d2]
   ·have d2:(b < a)=False:=eq_false h2
    have d3:((x.kids.length:Int) < b)=True:=Jo
    simp +contextual -implicitDefEqProofs only[c98,go_sem,Tr.cv,Tr.row,Nd.cv,d1,d2,Jf,d3]
 ·have d1:(a < 0)=False:=Jn
  have d2:(b < a)=False:=Jn
  have d3:((x.kids.length:Int) < b)=False:=Jn
  have hr:kidsR (kinds t.nodes x) a b c=((kinds t.nodes x).take b.toNat |>.drop a.toNat).all fun k=>isR k c:=by
   unfold kidsR
   rw[hkl,decide_eq_true (show 0≤a by omega),decide_eq_true (show a≤b by omega),decide_eq_true (show b≤(x.kids.length:Int) by omega)]
   rfl
  rw[hr]
  simp +contextual -implicitDefEqProofs only[c98,go_sem,Tr.cv,Tr.row,Nd.cv,Jf,d1,d2,d3]
  refine Je (id:=0) (z:=2) (els:=[t.row]) rfl rfl ?_
  simp only[go_sem,JS,Kb,frz,KI]
  refine Je (id:=1) (z:=5) (els:=[x.cv]) rfl rfl ?_
  simp only[go_sem,JS,Kb,frz,KI]
  generalize hL:(kinds t.nodes x).take b.toNat=L
  have hLl:L.length=b.toNat:=by rw[← hL]; simp[hkl]; omega
  refine JA (I:=fun i:Nat=>a.toNat≤i∧i≤b.toNat∧(L.drop a.toNat).all (fun k=>isR k c)=(L.drop i).all fun k=>isR k c) (inv:=fun i=>gp [(3,.int .i64 b),(0,.int .u8 c),(0,.rptr t.row),(0,.rptr x.cv),(4,.int .i64 i)] 29) (hp:=fun _=>[.dead,.dead]) (μ:=fun i=>b.toNat-i) a.toNat ⟨by omega,by omega,rfl⟩ ?_ rfl ?_
  ·have:((a.toNat:Nat):Int)=a:=by omega
   simp[forget,gp,this]
  ·rintro i ⟨h1,h2,hinv⟩
   by_cases hlt:i < b.toNat
   ·have d4:((i:Int) < b)=True:=Jo
    have hik:i < x.kids.length:=by omega
    have hmem:x.kids.getD i 0∈x.kids:=by
     rw[Gf,Gg hik]; exact Gq hik
    have hb:=hk _ hmem
    have hLi:L[i]? = some (Ju t.nodes (x.kids.getD i 0)):=by
     rw[← hL,GA,if_pos hlt,kinds_get hik]
    have hLlt:=(Gm.1 hLi).1
    rw[Gi hLlt,(Gm.1 hLi).2,List.all_cons]at hinv
    simp +contextual -implicitDefEqProofs only[go_sem,d4]
    refine JK Jz (by decide) ?_
    simp only[go_sem,Tr.row,Nd.cv,Jf]
    rw[JQ hik]
    refine ⟨by omega,?_⟩
    simp only[go_sem]
    refine JO (.inl rfl) (refIs t _ c hb.1 hb.2) ?_
    simp only[go_sem]
    cases hq:isR (Ju t.nodes (x.kids.getD i 0)) c with
    |false=>
     rw[hq]at hinv
     simp +contextual -implicitDefEqProofs only[go_sem]
     rw[hinv]; rfl
    |true=>
     rw[hq]at hinv
     simp +contextual -implicitDefEqProofs only[go_sem]
     refine ⟨Jj,i+1,⟨by omega,by omega,by simpa using hinv⟩,by omega,?_⟩
     simp[forget]
   ·have d4:((i:Int) < b)=False:=Jn
    simp +contextual -implicitDefEqProofs only[go_sem,d4]
    rw[hinv,Gn (by omega)]; rfl
theorem refLimits (t:Tr):Fn Gb 38 [t.cv] (.bool (decide (¬ (700 < t.nodes.length∨20 < t.items.length)))):=by
 refine Jb c38_ok rfl rfl fun N=>?_
 simp +contextual -implicitDefEqProofs only[c38,go_sem,Tr.cv,Tr.row,Jf,Jd]
 refine ⟨fun h=>?_,fun h=>?_⟩
 ·congr 1
  exact decide_eq_decide.2 (by omega)
 ·congr 1
  symm
  rw[decide_eq_false_iff_not]
  omega
theorem refMany (t:Tr) (x:Nd) (hx:x.Fit) (hk:∀ k∈x.kids,0≤k∧k < t.nodes.length) (c:Nat) :
  Fn Gb 93 [t.cv,.agg x.cv,.int .u8 c] (.int .i64 ((kinds t.nodes x).count c:Nat)):=by
 have hkl:(kinds t.nodes x).length=x.kids.length:=by simp[kinds]
 have hkn:=hx.kidn
 refine Jb c93_ok rfl rfl fun N=>?_
 simp +contextual -implicitDefEqProofs only[c93,go_sem,Tr.cv,Tr.row,Nd.cv]
 refine Je (id:=0) (z:=2) (els:=[t.row]) rfl rfl ?_
 simp only[go_sem,JS,Kb,frz,KI]
 refine Je (id:=1) (z:=5) (els:=[x.cv]) rfl rfl ?_
 simp only[go_sem,JS,Kb,frz,KI]
 generalize hL:kinds t.nodes x=L at hkl
 refine JA (I:=fun i:Nat=>i≤L.length) (inv:=fun i=>gp [(2,.int .u8 c),(0,.rptr t.row),(0,.rptr x.cv),(2,.int .i64 ((L.take i).count c:Nat)),(0,.int .i64 i)] 22) (hp:=fun _=>[.dead,.dead]) (μ:=fun i=>L.length-i) 0 (by omega) ?_ rfl ?_
 ·simp[forget,gp]
 ·intro i hi
  have hc:=List.count_le_length (a:=c) (l:=L.take i)
  rw[Gr]at hc
  by_cases hlt:i < x.kids.length
  ·have d4:((i:Int) < (x.kids.length:Int))=True:=Jo
   have hmem:x.kids.getD i 0∈x.kids:=by
    rw[Gf,Gg hlt]; exact Gq hlt
   have hb:=hk _ hmem
   have hLi:L[i]? = some (Ju t.nodes (x.kids.getD i 0)):=by rw[← hL,kinds_get hlt]
   have hLlt:=(Gm.1 hLi).1
   have hcs:(L.take (i+1)).count c=(L.take i).count c+if Ju t.nodes (x.kids.getD i 0) == c then 1 else 0:=by
    rw[List.take_add_one,hLi,List.count_append]
    simp[List.count_singleton]
   simp +contextual -implicitDefEqProofs only[go_sem,Nd.cv,Jf,d4]
   refine JK Jz (by decide) ?_
   simp only[go_sem,Tr.row,Nd.cv,Jf,Jd]
   rw[JQ hlt]
   refine ⟨by omega,?_⟩
   simp only[go_sem,Jd]
   rw[Qb (by omega)]
   refine ⟨by omega,?_⟩
   simp only[go_sem,Nd.cv]
   rw[show ((t.nodes.getD (x.kids.getD i 0).toNat default).k:Int)=(Ju t.nodes (x.kids.getD i 0):Int) from rfl,JbT]
   cases hq:(Ju t.nodes (x.kids.getD i 0) == c) with
   |false=>
    rw[hq]at hcs
    simp +contextual -implicitDefEqProofs only[go_sem]
    refine ⟨Jj,i+1,by omega,by omega,?_⟩
    rw[hcs]
    simp[forget]
   |true=>
    rw[hq]at hcs
    simp +contextual -implicitDefEqProofs only[go_sem]
    refine ⟨Jj,Jj,i+1,by omega,by omega,?_⟩
    rw[hcs]
    simp[forget]
  ·have d4:((i:Int) < (x.kids.length:Int))=False:=Jn
   have:i=L.length:=by omega
   subst this
   simp +contextual -implicitDefEqProofs only[go_sem,Nd.cv,Jf,d4,Gp]
theorem refFirst (t:Tr) {m:Nat}{o:List Int}(ho:Js ((JC t.nodes).take m) []=some o) (hm:m≤t.nodes.length) (n:Nat) (hn:n < m) :
  Fn Gb 75 [t.cv,.int .i64 (n:Int)] (.int .i64 (fs o n)):=by
 refine Jb c75_ok rfl rfl fun N=>?_
 simp +contextual -implicitDefEqProofs only[c75,go_sem,Tr.cv,Tr.row]
 refine Je (id:=0) (z:=2) (els:=[t.row]) rfl rfl ?_
 simp only[go_sem,JS,Kb,frz,KI]
 refine JA (I:=fun i:Nat=>i < m∧fs o n=fs o i) (inv:=fun i=>gp [(1,.int .i64 (i:Int)),(0,.rptr t.row)] 19) (hp:=fun _=>[.dead]) (μ:=fun i=>i) n ⟨hn,rfl⟩ ?_ rfl ?_
 ·simp[forget,gp]
 ·rintro i ⟨hi,hinv⟩
  have hlt:i < t.nodes.length:=by omega
  have hK:((JC t.nodes).take m)[i]? = some (t.nodes.getD i default).kids:=by
   rw[GA,if_pos hi,J3 hlt]
  have hg:=Qb hlt
  generalize t.nodes.getD i default=x at hK hg
  simp +contextual -implicitDefEqProofs only[go_sem,Tr.row,Jd,hg,Nd.cv,Jf]
  refine ⟨by omega,?_⟩
  cases hk:x.kids with
  |nil=>
   rw[hk]at hK
   have:=firstsF_leaf ho hK
   simp +contextual -implicitDefEqProofs only[go_sem]
   rw[hinv]
   unfold fs
   rw[Gx,this]
  |cons k ks=>
   rw[hk]at hK
   obtain ⟨h1,h2⟩:=firstsF_kid ho hK
   have h3:=Q3 ho hK k (by simp)
   have d4:((0:Int) < ((ks.length+1:Nat):Int))=True:=Jo
   simp +contextual -implicitDefEqProofs only[go_sem,d4,Jd,hg,Nd.cv,hk,iz,Gl]
   have hkn:((k.toNat:Nat):Int)=k:=by omega
   refine ⟨by omega,k.toNat,⟨by omega,?_⟩,by omega,?_⟩
   ·rw[hinv]
    unfold fs
    rw[Gx,Gx,h1]
   ·rw[hkn]
    simp[forget]
theorem Jd8 (t:Tr) {m:Nat}{o:List Int}(ho:Js ((JC t.nodes).take m) []=some o) (hm:m≤t.nodes.length) (hm2:t.nodes.length≤1400) (l:List Int) (hl:l.length≤1000) (e:Nat) (he:e≤m) :
  Fn Gb 43 [t.cv,.rslc 1 (iz l) none,.int .i64 (e:Int)] (.tup [.int .i64 (JdI (fs o) l.reverse e).1,.bool (JdI (fs o) l.reverse e).2]):=by
 have hok:=Qh _ _ _ Qz.nil ho
 have hol:=Qd _ _ _ ho
 simp only[GI,Gw,Gr,JC,List.length_map]at hol
 refine Jb c43_ok rfl rfl fun N=>?_
 simp +contextual -implicitDefEqProofs only[c43,go_sem,Tr.cv,Tr.row,Jf]
 refine ⟨Jj,?_⟩
 refine Je (id:=0) (z:=2) (els:=[t.row]) rfl rfl ?_
 simp only[go_sem,JS,Kb,frz,KI]
 refine JA (σ:=Nat×Nat) (I:=fun s=>s.1≤l.length∧s.2≤m∧JdI (fs o) l.reverse e=JdI (fs o) (l.take s.1).reverse s.2) (inv:=fun s=>gp [(1,.rslc 1 (iz l) none),(0,.int .i64 (s.2:Int)),(0,.rptr t.row),(4,.int .i64 ((s.1:Int)-1))] 29) (hp:=fun _=>[.dead]) (μ:=fun s=>s.1) (l.length,e) ⟨by simp,he,by simp⟩ ?_ rfl ?_
 ·simp[forget,gp]
 ·rintro ⟨j,q⟩ ⟨hj,hq,hinv⟩
  dsimp only at hj hq hinv
  cases j with
  |zero=>
   simp only[List.take_zero,List.reverse_nil,JdI]at hinv
   have d1:((0:Int)≤((0:Nat):Int)-1)=False:=Jn
   simp +contextual -implicitDefEqProofs only[go_sem,d1,hinv]
  |succ j=>
   have hjl:j < l.length:=by omega
   have hlast:(l.take (j+1)).reverse=l.getD j 0::(l.take j).reverse:=by
    rw[Gy hjl,List.reverse_append,Gf,Gg hjl]; rfl
   rw[hlast,JdI]at hinv
   have hti:(((j+1:Nat):Int)-1).toNat=j:=by omega
   have d1:((0:Int)≤((j+1:Nat):Int)-1)=True:=Jo
   have hgi:=JQ hjl
   generalize l.getD j 0=k at hinv hgi
   by_cases hc:k≠(q:Int)-1∨k < 0
   ·rw[if_pos hc]at hinv
    by_cases hc1:k=(q:Int)-1
    ·have e1:(k != (q:Int)-1)=false:=by simp[hc1]
     have e2:(k < 0)=True:=Jo
     simp +contextual -implicitDefEqProofs only[go_sem,d1,Jf,hti,hgi,e1,e2,hinv]
     exact ⟨by omega,Jj,by omega⟩
    ·have e1:(k != (q:Int)-1)=true:=by simp[hc1]
     simp +contextual -implicitDefEqProofs only[go_sem,d1,Jf,hti,hgi,e1,hinv]
     exact ⟨by omega,Jj⟩
   ·rw[if_neg hc]at hinv
    have hc1:k=(q:Int)-1:=by omega
    have e1:(k != (q:Int)-1)=false:=by simp[hc1]
    have e2:(k < 0)=False:=Jn
    have hkl:k.toNat < m:=by omega
    have hk0:((k.toNat:Nat):Int)=k:=by omega
    have hf:=Jfo hok (i:=k) (by omega) (by rw[hol]; omega)
    have hfn:((fs o k).toNat:Int)=fs o k:=by omega
    simp +contextual -implicitDefEqProofs only[go_sem,d1,Jf,hti,hgi,e1,e2]
    refine ⟨by omega,Jj,by omega,?_⟩
    refine JK Jz (by decide) ?_
    simp only[go_sem,Tr.row,Jf,hti,hgi]
    refine ⟨by omega,?_⟩
    have hF:=refFirst t ho hm k.toNat hkl
    rw[hk0]at hF
    refine JO (.inl rfl) hF ?_
    simp +contextual -implicitDefEqProofs only[go_sem]
    refine ⟨Jj,(j,(fs o k).toNat),⟨by simp only; omega,by simp only; omega,?_⟩,by simp only; omega,?_⟩
    ·rw[hinv]; simp only[hfn]
    ·simp only[hfn]
     simp[forget]
theorem let_all:∀ k:Fin 256,(JdJ k.val=83↔k.val=41)∧(JdJ k.val=78↔k.val=44):=by decide +kernel
theorem Jdp {l:List Nd}{x:Nd}(hn:∀ y∈l,y.k < 256) (hk:∀ k∈x.kids,0≤k∧k < l.length) {c:Nat}{b:UInt8}(h:∀ k:Nat,k < 256→(JdJ k=b↔k=c)):(kinds l x).count c=KV b (lets l x):=by
 unfold kinds lets KV
 have:∀ ks:List Int,(∀ k∈ks,0≤k∧k < l.length)→(ks.map (Ju l)).count c=(ks.map fun k=>JdJ (Ju l k)).count b:=by
  intro ks
  induction ks with
  |nil=>intro _; rfl
  |cons k ks ih=>
   intro hks
   have hr:=hks k (by simp)
   have hlt:k.toNat < l.length:=by omega
   have hkk:Ju l k < 256:=by
    unfold Ju
    rw[Gf,Gg hlt]
    exact hn _ (Gq hlt)
   have he:=h _ hkk
   rw[Gl,Gl,GJ,GJ,ih (fun q hq=>hks q (by simp[hq]))]
   congr 1
   by_cases e:Ju l k=c
   ·rw[if_pos (by simp[e]),if_pos (by simp[he.2 e])]
   ·rw[if_neg (by simp[e]),if_neg (by simp; exact fun h2=>e (he.1 h2))]
 exact this x.kids hk
theorem refSized (t:Tr) (i:Nat) (hi:i < t.nodes.length) (hm:t.nodes.length≤1400) (hx:(t.nodes.getD i default).Fit) (hn:∀ y∈t.nodes,y.k < 256) (hk:∀ k∈(t.nodes.getD i default).kids,0≤k∧k < t.nodes.length) :
  Fn Gb 40 [t.cv,.int .i64 (i:Int)] (.bool (KU (t.nodes.getD i default).k (t.nodes.getD i default).n (lets t.nodes (t.nodes.getD i default)))):=by
 have hg:=Qb hi
 generalize hxe:t.nodes.getD i default=x at hx hk hg ⊢
 have hkn:=hx.kidn
 have hll:=Qw (l:=t.nodes) (x:=x)
 have hc1:=Jdp hn hk (c:=41) (b:=83) (fun k h=>(let_all ⟨k,h⟩).1)
 have hc2:=Jdp hn hk (c:=44) (b:=78) (fun k h=>(let_all ⟨k,h⟩).2)
 have hM1:=refMany t x hx hk 41
 have hM2:=refMany t x hx hk 44
 rw[hc1]at hM1
 rw[hc2]at hM2
 simp only[Ga]at hM1 hM2
 have hnr:=hx.n
 obtain ⟨k,text,n,kids,pl⟩:=x
 generalize lets t.nodes ⟨k,text,n,kids,pl⟩=hv at hll hM1 hM2 ⊢
 simp only[Nd.cv]at hg hM1 hM2 hkn hll hnr ⊢
 rcases (show (k=65∨k=26∨k=40∨k=45∨k=41∨k=28∨k=29∨k=48∨k=47)∨(k≠65∧k≠26∧k≠40∧k≠45∧k≠41∧k≠28∧k≠29∧k≠48∧k≠47) by omega) with (rfl | rfl | rfl | rfl | rfl | rfl | rfl | rfl | rfl) | rest
 ·refine Jb c40_ok rfl rfl fun N=>?_
  simp (maxSteps:=2000000) -implicitDefEqProofs only[c40,go_sem,Tr.cv,Tr.row,Jd,Jf,hg,Ga]
  refine ⟨⟨by omega,by omega⟩,?_⟩
  refine JM (JaI n 0 5) ?_
  cases hb:inI 0 5 n with
  |false=>simp (maxSteps:=2000000) -implicitDefEqProofs only[go_sem]; simp[KU,hb]
  |true=>
   have hb2:=hb
   simp only[inI,Gj,decide_eq_true_eq]at hb2
   simp (maxSteps:=2000000) -implicitDefEqProofs only[go_sem,Jd,Jf,hg]
   refine ⟨Jj,Jj,?_⟩
   refine JP (gok rfl) (JaI _ 1 4) ?_
   simp (maxSteps:=2000000) -implicitDefEqProofs only[go_sem]
   simp[KU,hb,hll]
 ·refine Jb c40_ok rfl rfl fun N=>?_
  simp (maxSteps:=2000000) -implicitDefEqProofs only[c40,go_sem,Tr.cv,Tr.row,Jd,Jf,hg,Ga]
  refine ⟨⟨by omega,by omega⟩,?_⟩
  congr 1
  simp only[KU]
  rw[Gh]; simp; omega
 ·refine Jb c40_ok rfl rfl fun N=>?_
  simp (maxSteps:=2000000) -implicitDefEqProofs only[c40,go_sem,Tr.cv,Tr.row,Jd,Jf,hg,Ga]
  refine ⟨⟨by omega,by omega⟩,?_⟩
  refine JM (JaI n 0 12) ?_
  cases hb:inI 0 12 n with
  |false=>simp (maxSteps:=2000000) -implicitDefEqProofs only[go_sem]; simp[KU,hb]
  |true=>
   have hb2:=hb
   simp only[inI,Gj,decide_eq_true_eq]at hb2
   simp (maxSteps:=2000000) -implicitDefEqProofs only[go_sem,Jd,Jf,hg]
   refine ⟨Jj,?_⟩
   refine JP (gok rfl) (JaI _ 1 4) ?_
   simp (maxSteps:=2000000) -implicitDefEqProofs only[go_sem]
   simp[KU,hb,hll]
 ·refine Jb c40_ok rfl rfl fun N=>?_
  simp (maxSteps:=2000000) -implicitDefEqProofs only[c40,go_sem,Tr.cv,Tr.row,Jd,Jf,hg,Ga]
  refine ⟨⟨by omega,by omega⟩,?_⟩
  refine JM (JaI _ 1 4) ?_
  simp (maxSteps:=2000000) -implicitDefEqProofs only[go_sem]
  simp[KU,hll]
 ·refine Jb c40_ok rfl rfl fun N=>?_
  simp (maxSteps:=2000000) -implicitDefEqProofs only[c40,go_sem,Tr.cv,Tr.row,Jd,Jf,hg,Ga]
  refine ⟨⟨by omega,by omega⟩,?_⟩
  refine JM (JaI n 1 4) ?_
  simp (maxSteps:=2000000) -implicitDefEqProofs only[go_sem]
  simp[KU,hll]
 ·refine Jb c40_ok rfl rfl fun N=>?_
  simp (maxSteps:=2000000) -implicitDefEqProofs only[c40,go_sem,Tr.cv,Tr.row,Jd,Jf,hg,Ga]
  refine ⟨⟨by omega,by omega⟩,?_⟩
  refine JM (JaI n 1 5) ?_
  cases hb:inI 1 5 n with
  |false=>simp (maxSteps:=2000000) -implicitDefEqProofs only[go_sem]; simp[KU,hb]
  |true=>
   simp (maxSteps:=2000000) -implicitDefEqProofs only[go_sem,Jd,Jf,hg]
   refine JP (gok rfl) hM1 ?_
   by_cases h12:(KV 83 hv:Int)≤12
   ·have d1:((KV 83 hv:Int)≤12)=True:=eq_true h12
    simp (maxSteps:=2000000) -implicitDefEqProofs only[go_sem,d1]
    refine JP (gok rfl) hM2 ?_
    simp (maxSteps:=2000000) -implicitDefEqProofs only[go_sem]
    simp[KU,hb,d1]
   ·have d1:((KV 83 hv:Int)≤12)=False:=eq_false h12
    simp (maxSteps:=2000000) -implicitDefEqProofs only[go_sem,d1]
    simp[KU,hb,d1]
 ·refine Jb c40_ok rfl rfl fun N=>?_
  simp (maxSteps:=2000000) -implicitDefEqProofs only[c40,go_sem,Tr.cv,Tr.row,Jd,Jf,hg,Ga]
  refine ⟨⟨by omega,by omega⟩,?_⟩
  refine JM (JaI n 0 100) ?_
  cases hb:inI 0 100 n with
  |false=>simp (maxSteps:=2000000) -implicitDefEqProofs only[go_sem]; simp[KU,hb]
  |true=>
   simp (maxSteps:=2000000) -implicitDefEqProofs only[go_sem,Jd,Jf,hg]
   refine ⟨Jj,?_⟩
   refine JP (gok rfl) (JaI _ 1 8) ?_
   simp (maxSteps:=2000000) -implicitDefEqProofs only[go_sem]
   simp[KU,hb,hll]
 ·refine Jb c40_ok rfl rfl fun N=>?_
  simp (maxSteps:=2000000) -implicitDefEqProofs only[c40,go_sem,Tr.cv,Tr.row,Jd,Jf,hg,Ga]
  refine ⟨⟨by omega,by omega⟩,?_⟩
  refine JM (JaI n 0 100) ?_
  simp (maxSteps:=2000000) -implicitDefEqProofs only[go_sem]
  simp[KU,hll]
 ·refine Jb c40_ok rfl rfl fun N=>?_
  simp (maxSteps:=2000000) -implicitDefEqProofs only[c40,go_sem,Tr.cv,Tr.row,Jd,Jf,hg,Ga]
  refine ⟨⟨by omega,by omega⟩,?_⟩
  refine JM (JaI n 1 9) ?_
  simp (maxSteps:=2000000) -implicitDefEqProofs only[go_sem]
  simp[KU,hll]
 ·obtain ⟨r1,r2,r3,r4,r5,r6,r7,r8,r9⟩:=rest
  have hE:KU k n hv=true:=by
   simp only[KU]
   rw[if_neg (by omega),if_neg (by omega),if_neg (by omega),if_neg (by omega),if_neg (by omega),if_neg (by omega),if_neg (by omega),if_neg (by omega),if_neg (by omega)]
  rw[hE]
  have e65:=kb (m:=65) (k:=k) (by omega)
  simp only[Ga]at e65
  have e26:=kb (m:=26) (k:=k) (by omega)
  simp only[Ga]at e26
  have e40:=kb (m:=40) (k:=k) (by omega)
  simp only[Ga]at e40
  have e45:=kb (m:=45) (k:=k) (by omega)
  simp only[Ga]at e45
  have e41:=kb (m:=41) (k:=k) (by omega)
  simp only[Ga]at e41
  have e28:=kb (m:=28) (k:=k) (by omega)
  simp only[Ga]at e28
  have e29:=kb (m:=29) (k:=k) (by omega)
  simp only[Ga]at e29
  have e48:=kb (m:=48) (k:=k) (by omega)
  simp only[Ga]at e48
  have e47:=kb (m:=47) (k:=k) (by omega)
  simp only[Ga]at e47
  refine Jb c40_ok rfl rfl fun N=>?_
  simp (maxSteps:=2000000) -implicitDefEqProofs only[c40,go_sem,Tr.cv,Tr.row,Jd,Jf,hg,Ga,e65,e26,e40,e45,e41,e28,e29,e48,e47]
  exact ⟨by omega,by omega⟩
end Go.Cm
end
end
