/-
  A part of the proof. Conditions: none.
-/
import Derived.Test.YtaiboeciecfgoaaGreatDoorRP3
set_option linter.unusedSimpArgs false
set_option linter.unusedVariables false
open List renaming getD_eq_getElem?_getD→Gd,drop_eq_getElem_cons→Gf,getElem?_eq_getElem→Gg,drop_eq_nil_of_le→Gi,take_length→Gj,getElem?_eq_some_iff→Gs,map_cons→Gp,map_nil→Gq,length_pos_iff→Gt,getElem?_set→Gu,length_take→Gv,length_drop→Gw,getElem_mem→Gx,all_eq_true→Gy,drop_zero→Gz,length→GA
open Bool renaming or_eq_false_iff→Gl,and_eq_true→Gm,true_or→Gn,or_false→Gr,not_eq_true'→GD,eq_iff_iff→GG
open Nat renaming le_of_lt→Ga,le_refl→Gb,zero_add→GH
open Go.Proofs.Tryz renaming prog→Gc
open Int renaming cast_ofNat_Int→Gh
noncomputable section
section
set_option maxRecDepth 100000
set_option maxHeartbeats 4000000
open Go.Proofs
namespace Go.Cm
def Jgt:Bool→List UInt8→Nat
 |_,[]=>0
 |false,c::l=>if isBk c=true then Jgt false l+1 else if c=126 then Jgt true l+1 else 0
 |true,c::l=>if c=10 then Jgt false l+1 else Jgt true l+1
def Yb (l:List UInt8) (a:Nat):Nat:=a+Jgt false (l.drop a)
theorem gapE_ge (l:List UInt8) (a:Nat):a≤Yb l a:=by unfold Yb; omega
theorem Jgu {l:List UInt8}{a:Nat}(h:l.length≤a):Yb l a=a:=by
 unfold Yb; rw[Gi h]; simp[Jgt]
def badB (c:UInt8):Bool:=!(c == 10) && (decide (c.toNat < 32) || decide (126 < c.toNat))
def badE (l:List UInt8) (i:Nat):Nat×Int:=match l with
 |[]=>(0,0)
 |c::r=>if badB c=true then (i,4) else badE r (i+1)
def Xx (l:List UInt8):Nat×Int:=if 2500 < l.length then (0,5) else badE l 0
def rdF (l:List UInt8):Nat→Nat→List (Nat×List UInt8×Nat)→List (Nat×List UInt8×Nat)×Nat×Int
 |0,_,acc=>(acc,0,0)
 |n+1,a,acc=>
  if Yb l a < l.length then
   (if (tkL l (Yb l a)).2.2=true then (if acc.length=900 then ([],Yb l a,5) else rdF l n (Yb l a+(tkL l (Yb l a)).2.1.length) (acc++[((tkL l (Yb l a)).1,(tkL l (Yb l a)).2.1,Yb l a)])) else ([],Yb l a,4))
  else (acc,0,0)
def JcU (l:List UInt8):List (Nat×List UInt8×Nat)×Nat×Int:=if (Xx l).2≠0 then ([],(Xx l).1,(Xx l).2) else rdF l (l.length+1) 0 []
def kindR (l:List UInt8):Nat:=match JcU l with
 |([t],_,e)=>if e=0∧t.2.1=l then t.1 else 0
 |_=>0
theorem rdF_pre {l:List UInt8}:∀ (n a:Nat) (acc r:List (Nat×List UInt8×Nat)) (p:Nat),rdF l n a acc=(r,p,0)→∃ s,r=acc++s
 |0,a,acc,r,p,h=>by
  simp only[rdF,Prod.mk.injEq]at h
  exact ⟨[],by rw[← h.1]; simp⟩
 |n+1,a,acc,r,p,h=>by
  simp only[rdF]at h
  split at h
  ·split at h
   ·split at h
    ·simp at h
    ·obtain ⟨s,hs⟩:=rdF_pre n _ _ r p h
     exact ⟨_,by rw[hs,List.append_assoc]⟩
   ·simp at h
  ·simp only[Prod.mk.injEq]at h
   exact ⟨[],by rw[← h.1]; simp⟩
theorem badB_alnum {c:UInt8}(h:Ku c=true):badB c=false:=by
 simp only[Ku,isLt,QT,Bool.or_eq_true,Gm,decide_eq_true_eq]at h
 have h1:¬ c.toNat < 32:=by omega
 have h2:¬ 126 < c.toNat:=by omega
 simp[badB,h1,h2]
theorem badE_none:∀ (l:List UInt8) (i:Nat),(∀ c∈l,badB c=false)→badE l i=(0,0)
 |[],i,_=>rfl
 |c::l,i,h=>by
  simp only[badE]
  rw[if_neg (by rw[h c (by simp)]; simp)]
  exact badE_none l (i+1) fun x hx=>h x (by simp[hx])
theorem tk_name {l:List UInt8}{a:Nat}(h:(tkL l a).1=2):isLt (l.getD a 0)=true∧tkL l a=(2,cut l a (Qy Ku l a),decide ((cut l a (Qy Ku l a)).length≤12))∧kws.contains (cut l a (Qy Ku l a))=false:=by
 unfold tkL at h ⊢
 by_cases h1:isLt (l.getD a 0)=true
 ·rw[if_pos h1]at h ⊢
  by_cases h2:kws.contains (cut l a (Qy Ku l a))=true
  ·rw[if_pos h2]at h; simp at h
  ·rw[if_neg h2]
   exact ⟨h1,rfl,by simpa using h2⟩
 ·rw[if_neg h1]at h
  split at h <;> simp at h
theorem Jcw (l:List UInt8):(kindR l == 2)=Y3 l:=by
 rw[GG,beq_iff_eq]
 constructor
 ·intro h
  unfold kindR at h
  split at h
  ·rename_i t p e he
   split at h
   ·rename_i hc
    obtain ⟨he0,ht⟩:=hc
    subst he0
    unfold JcU at he
    split at he
    ·simp only[Prod.mk.injEq]at he
     simp at he
    ·simp only[rdF]at he
     split at he
     ·rename_i hlt
      split at he
      ·rename_i hok
       split at he
       ·simp at he
       ·obtain ⟨s,hs⟩:=rdF_pre _ _ _ _ _ he
        simp only[List.nil_append,List.cons_append,List.cons.injEq]at hs
        obtain ⟨rfl,-⟩:=hs
        dsimp only at ht h
        obtain ⟨k1,k2,k3⟩:=tk_name h
        rw[k2]at ht hok
        dsimp only at ht hok
        have hE:=X6 (q:=Ku) (Ga hlt)
        have hge:Yb l 0≤Qy Ku l (Yb l 0):=by unfold Qy; omega
        have hcl:=Jan hge hE
        rw[ht]at hcl k3 hok
        have h0:Yb l 0=0:=by omega
        rw[h0]at ht k1
        have hal:=JbE.1 ht
        have hne:l≠[]:=by rintro rfl; simp at hlt
        unfold Y3
        rw[k1,hal,k3,hok]
        simp[hne]
      ·simp at he
     ·simp at he
   ·simp at h
  ·simp at h
 ·intro h
  unfold Y3 at h
  simp only[Gm,GD,beq_eq_false_iff_ne,decide_eq_true_eq]at h
  obtain ⟨⟨⟨⟨h1,h2⟩,h3⟩,h4⟩,h5⟩:=h
  have hb:Xx l=(0,0):=by
   unfold Xx
   rw[if_neg (by omega)]
   exact badE_none l 0 fun c hc=>badB_alnum (Gy.1 h2 c hc)
  have hpos:0 < l.length:=Gt.2 h5
  have hg:Yb l 0=0:=by
   unfold Yb
   cases l with
   |nil=>rfl
   |cons c r=>
    have hg:=lt_gp (c:=c) (by simpa using h1)
    simp only[isGp,Gl,beq_eq_false_iff_ne]at hg
    simp only[Gz,Jgt,hg.1,Bool.false_eq_true,if_false,if_neg hg.2]
  have hcut:cut l 0 (Qy Ku l 0)=l:=JbE.2 h2
  have hT:tkL l 0=(2,l,true):=by
   unfold tkL
   rw[if_pos h1,hcut,if_neg (by rw[h3]; simp),decide_eq_true h4]
  have hend:Yb l l.length=l.length:=Jgu (Gb _)
  have hr:JcU l=([(2,l,0)],0,0):=by
   unfold JcU
   rw[hb,if_neg (by simp)]
   obtain ⟨n,hn⟩:∃ n,l.length=n+1:=⟨l.length-1,by omega⟩
   have e1:rdF l (l.length+1) 0 []=rdF l l.length (0+l.length) ([]++[(2,l,0)]):=by
    rw[rdF,hg,if_pos hpos,hT,if_pos rfl,if_neg (by simp)]
   have e2:rdF l (n+1) (0+l.length) ([]++[(2,l,0)])=([(2,l,0)],0,0):=by
    rw[rdF,GH,hend,if_neg (by omega)]
    rfl
   rw[e1,← e2,← hn]
  unfold kindR
  rw[hr]
  simp
theorem JX (c:UInt8):Fn Gc 166 [.int .u8 c.toNat] (.bool (isLt c)):=by
 refine Ja c166_ok rfl rfl fun N=>?_
 have h1:=dle 97 c
 have h2:=dge 122 c
 simp only[Gh]at h1 h2
 simp +contextual only[c166,go_sem,h1,h2,isLt]
theorem KM (c:UInt8):Fn Gc 165 [.int .u8 c.toNat] (.bool (QT c)):=by
 refine Ja c165_ok rfl rfl fun N=>?_
 have h1:=dle 48 c
 have h2:=dge 57 c
 simp only[Gh]at h1 h2
 simp +contextual only[c165,go_sem,h1,h2,QT]
theorem refHas (l:List (List UInt8)) (s:List UInt8) (hl:l.length≤100000):Fn Gc 169 [.rslc 1 (sz l) none,S s] (.bool (l.contains s)):=by
 refine Ja c169_ok rfl rfl fun N=>?_
 simp -implicitDefEqProofs only[c169,go_sem]
 refine Jz (I:=fun i:Nat=>i≤l.length∧l.contains s=(l.drop i).contains s) (inv:=fun i=>gp [(0,.rslc 1 (sz l) none),(0,S s),(3,.int .i64 (i:Int))] 12) (hp:=fun _=>[]) (μ:=fun i=>l.length-i) 0 ⟨by omega,rfl⟩ ?_ rfl ?_
 ·simp[forget,gp]
 ·rintro i ⟨hi,hinv⟩
  by_cases hlt:i < l.length
  ·have d1:((i:Int) < (l.length:Int))=True:=Jn
   simp -implicitDefEqProofs only[go_sem,YZ,d1]
   rw[sz_get hlt]
   refine ⟨by omega,?_⟩
   rw[Gf hlt,List.contains_cons]at hinv
   rw[show l.getD i []=l[i] by rw[Gd,Gg hlt]; rfl]
   generalize l[i]=x at hinv ⊢
   have hsym:(x == s)=(s == x):=by rw[GG,beq_iff_eq,beq_iff_eq]; exact eq_comm
   cases hx:(x == s) with
   |true=>
    rw[← hsym,hx,Gn]at hinv
    simp -implicitDefEqProofs only[go_sem,hx,hinv]
   |false=>
    rw[← hsym,hx,Bool.false_or]at hinv
    simp -implicitDefEqProofs only[go_sem,hx]
    refine ⟨Ji,i+1,⟨by omega,hinv⟩,by omega,?_⟩
    simp[forget]
  ·have d1:((i:Int) < (l.length:Int))=False:=Jj
   rw[Gi (by omega)]at hinv
   simp -implicitDefEqProofs only[go_sem,YZ,d1,hinv]
   try rfl
theorem refLexCheck (l:List UInt8) (hl:l.length≤1000000):Fn Gc 131 [S l] (.tup [.int .i64 ((Xx l).1:Nat),.int .i64 (Xx l).2]):=by
 refine Ja c131_ok rfl rfl fun N=>?_
 by_cases hbig:2500 < l.length
 ·have d0:((2500:Int) < (l.length:Int))=True:=Jn
  have hc:Xx l=(0,5):=by unfold Xx; rw[if_pos hbig]
  simp -implicitDefEqProofs only[c131,go_sem,d0,hc]
  try rfl
 ·have d0:((2500:Int) < (l.length:Int))=False:=Jj
  have hc:Xx l=badE l 0:=by unfold Xx; rw[if_neg hbig]
  simp -implicitDefEqProofs only[c131,go_sem,d0,hc]
  refine Jz (I:=fun i:Nat=>i≤l.length∧badE l 0=badE (l.drop i) i) (inv:=fun i=>gp [(0,S l),(3,.int .i64 (i:Int))] 26) (hp:=fun _=>[]) (μ:=fun i=>l.length-i) 0 ⟨by omega,rfl⟩ ?_ rfl ?_
  ·simp[forget,gp]
  ·rintro i ⟨hi,hinv⟩
   by_cases hlt:i < l.length
   ·have d1:((i:Int) < (l.length:Int))=True:=Jn
    rw[Gf hlt,badE]at hinv
    have hg:l.getD i 0=l[i]:=by rw[Gd,Gg hlt]; rfl
    rw[← hg]at hinv
    simp -implicitDefEqProofs only[go_sem,d1]
    generalize l.getD i 0=c at hinv ⊢
    have hne:=deq 10 (by decide) c
    simp only[Gh]at hne
    refine ⟨by omega,?_⟩
    by_cases h10:c=10
    ·have e1:((c.toNat:Int) != 10)=false:=by rw[bne,hne]; simp[h10]
     rw[if_neg (by simp[badB,h10])]at hinv
     simp -implicitDefEqProofs only[go_sem,e1]
     refine ⟨Ji,i+1,⟨by omega,hinv⟩,by omega,?_⟩
     simp[forget]
    ·have e1:((c.toNat:Int) != 10)=true:=by rw[bne,hne]; simp[h10]
     by_cases h32:c.toNat < 32
     ·have e2:((c.toNat:Int) < 32)=True:=Jn
      rw[if_pos (by simp[badB,h10,h32])]at hinv
      simp -implicitDefEqProofs only[go_sem,e1,e2,hinv]
      omega
     ·have e2:((c.toNat:Int) < 32)=False:=Jj
      by_cases h126:126 < c.toNat
      ·have e3:((126:Int) < (c.toNat:Int))=True:=Jn
       rw[if_pos (by simp[badB,h10,h126])]at hinv
       simp -implicitDefEqProofs only[go_sem,e1,e2,e3,hinv]
       omega
      ·have e3:((126:Int) < (c.toNat:Int))=False:=Jj
       rw[if_neg (by simp[badB,h32,h126])]at hinv
       simp -implicitDefEqProofs only[go_sem,e1,e2,e3]
       refine ⟨by omega,by omega,Ji,i+1,⟨by omega,hinv⟩,by omega,?_⟩
       simp[forget]
   ·have d1:((i:Int) < (l.length:Int))=False:=Jj
    rw[Gi (by omega)]at hinv
    simp -implicitDefEqProofs only[go_sem,d1,hinv,badE]
    try rfl
theorem refGap (l:List UInt8) (a:Nat) (ha:a≤l.length) (hl:l.length≤1000000):Fn Gc 132 [S l,.int .i64 (a:Int)] (.int .i64 (Yb l a:Nat)):=by
 refine Ja c132_ok rfl rfl fun N=>?_
 simp -implicitDefEqProofs only[c132,go_sem]
 refine Jz (I:=fun i:Nat=>i≤l.length∧Yb l a=Yb l i) (inv:=fun i=>gp [(0,S l),(0,.int .i64 (i:Int))] 39) (hp:=fun _=>[]) (μ:=fun i=>l.length-i) a ⟨ha,rfl⟩ ?_ rfl ?_
 ·simp[forget,gp]
 ·rintro i ⟨hi,hinv⟩
  by_cases hlt:i < l.length
  ·have d1:((i:Int) < (l.length:Int))=True:=Jn
   have hg:l.getD i 0=l[i]:=by rw[Gd,Gg hlt]; rfl
   have hstep:Yb l i=i+Jgt false (l.getD i 0::l.drop (i+1)):=by unfold Yb; rw[Gf hlt,hg]
   simp -implicitDefEqProofs only[go_sem,d1]
   obtain ⟨c,hc⟩:∃ c,c=l.getD i 0:=⟨_,rfl⟩
   rw[← hc]at hstep ⊢
   have q1:=deq 32 (by decide) c
   have q2:=deq 10 (by decide) c
   have q3:=deq 126 (by decide) c
   simp only[Gh]at q1 q2 q3
   refine ⟨by omega,?_⟩
   by_cases h32:c=32
   ·have e1:((c.toNat:Int) == 32)=true:=by rw[q1]; simp[h32]
    have hs:Yb l i=Yb l (i+1):=by
     rw[hstep,Jgt,if_pos (by simp[isBk,h32])]; unfold Yb; omega
    simp -implicitDefEqProofs only[go_sem,e1]
    refine ⟨Ji,i+1,⟨by omega,by rw[hinv,hs]⟩,by omega,?_⟩
    simp[forget]
   ·have e1:((c.toNat:Int) == 32)=false:=by rw[q1]; simp[h32]
    by_cases h10:c=10
    ·have e2:((c.toNat:Int) == 10)=true:=by rw[q2]; simp[h10]
     have hs:Yb l i=Yb l (i+1):=by
      rw[hstep,Jgt,if_pos (by simp[isBk,h10])]; unfold Yb; omega
     simp -implicitDefEqProofs only[go_sem,e1,e2,← hc]
     refine ⟨by omega,Ji,i+1,⟨by omega,by rw[hinv,hs]⟩,by omega,?_⟩
     simp[forget]
    ·have e2:((c.toNat:Int) == 10)=false:=by rw[q2]; simp[h10]
     by_cases h126:c=126
     ·have e3:((c.toNat:Int) == 126)=true:=by rw[q3]; simp[h126]
      have hs:Yb l i=i+Jgt true (l.drop i):=by
       rw[hstep,Gf hlt,← hg,← hc,Jgt,if_neg (by simp[isBk,h126]),if_pos h126,Jgt,if_neg h10]
      simp -implicitDefEqProofs only[go_sem,e1,e2,e3,← hc]
      refine ⟨by omega,by omega,?_⟩
      refine Jz (I:=fun j:Nat=>i≤j∧j≤l.length∧Yb l i=j+Jgt true (l.drop j)) (inv:=fun j=>gp [(0,S l),(0,.int .i64 (j:Int))] 39) (hp:=fun _=>[]) (μ:=fun j=>l.length-j) i ⟨by omega,by omega,hs⟩ ?_ rfl ?_
      ·simp[forget,gp]
      ·rintro j ⟨hij,hj,hjv⟩
       by_cases hjl:j < l.length
       ·have d2:((j:Int) < (l.length:Int))=True:=Jn
        have hgj:l.getD j 0=l[j]:=by rw[Gd,Gg hjl]; rfl
        rw[Gf hjl,← hgj]at hjv
        simp -implicitDefEqProofs only[go_sem,d2]
        have hji:j=i→l.getD j 0≠10:=by rintro rfl; rw[← hc]; exact h10
        obtain ⟨x,hxe⟩:∃ x,x=l.getD j 0:=⟨_,rfl⟩
        rw[← hxe]at hjv hji ⊢
        have q4:=deq 10 (by decide) x
        simp only[Gh]at q4
        refine ⟨by omega,?_⟩
        by_cases hx:x=10
        ·have e4:((x.toNat:Int) != 10)=false:=by rw[bne,q4]; simp[hx]
         rw[Jgt,if_pos hx]at hjv
         have hne:j≠i:=fun h=>hji h hx
         have hs2:Yb l i=Yb l j:=by
          rw[hjv]; unfold Yb
          rw[Gf hjl,← hgj,← hxe,Jgt,if_pos (by simp[isBk,hx])]
         simp -implicitDefEqProofs only[go_sem,e4]
         refine ⟨j,⟨by omega,by rw[hinv,hs2]⟩,by omega,?_⟩
         simp[forget]
        ·have e4:((x.toNat:Int) != 10)=true:=by rw[bne,q4]; simp[hx]
         rw[Jgt,if_neg hx]at hjv
         simp -implicitDefEqProofs only[go_sem,e4]
         refine ⟨Ji,j+1,⟨by omega,by omega,by omega⟩,by omega,?_⟩
         simp[forget]
       ·have d2:((j:Int) < (l.length:Int))=False:=Jj
        have hje:j=l.length:=by omega
        simp -implicitDefEqProofs only[go_sem,d2]
        refine ⟨j,⟨by omega,?_⟩,by omega,?_⟩
        ·rw[hinv,hjv,Jgu (by omega),Gi (by omega)]; simp[Jgt]
        ·simp[forget]
     ·have e3:((c.toNat:Int) == 126)=false:=by rw[q3]; simp[h126]
      have hs:Yb l i=i:=by
       rw[hstep,Jgt,if_neg (by simp[isBk,h32,h10]),if_neg h126]; rfl
      simp -implicitDefEqProofs only[go_sem,e1,e2,e3,← hc]
      refine ⟨by omega,by omega,?_⟩
      rw[hinv,hs]
  ·have d1:((i:Int) < (l.length:Int))=False:=Jj
   simp -implicitDefEqProofs only[go_sem,d1]
   rw[hinv,Jgu (by omega)]
theorem decA_take {l:List UInt8}{i:Nat}(h:i < l.length):Jbk 0 (l.take (i+1))=Jbk 0 (l.take i)*10+((l.getD i 0).toNat-48):=by
 rw[List.take_succ_eq_append_getElem h,JgH,Jam]
 rw[show l.getD i 0=l[i] by rw[Gd,Gg h]; rfl]
 rfl
theorem decA_pre {l:List UInt8}(i:Nat):Jbk 0 (l.take i)≤Jb1 l:=by
 have:Jb1 l=Jbk (Jbk 0 (l.take i)) (l.drop i):=by rw[← JgH,List.take_append_drop]; rfl
 rw[this]; exact JgG _ _
def numV (l:List UInt8):Int:=if Jba l=true then (Jb1 l:Int) else -1
theorem numV_ok (l:List UInt8):decide (0≤numV l)=Jba l:=by
 unfold numV
 split
 ·rename_i h; rw[h]; simp
 ·rename_i h; simp at h; rw[h]; rfl
theorem refNumber (l:List UInt8) (hd:l.all QT=true) (hl:l.length≤1000000):Fn Gc 168 [S l] (.int .i64 (numV l)):=by
 refine Ja c168_ok rfl rfl fun N=>?_
 simp -implicitDefEqProofs only[c168,go_sem]
 refine Jz (I:=fun i:Nat=>i≤l.length∧Jbk 0 (l.take i)≤1000000000) (inv:=fun i=>gp [(0,S l),(2,.int .i64 (Jbk 0 (l.take i):Nat)),(0,.int .i64 (i:Int))] 25) (hp:=fun _=>[]) (μ:=fun i=>l.length-i) 0 ⟨by omega,by simp[Jbk]⟩ ?_ rfl ?_
 ·simp[forget,gp,Jbk]
 ·rintro i ⟨hi,hinv⟩
  by_cases hlt:i < l.length
  ·have d1:((i:Int) < (l.length:Int))=True:=Jn
   have hdc:QT (l.getD i 0)=true:=by
    rw[Gd,Gg hlt]
    exact Gy.1 hd _ (Gx hlt)
   have hst:=decA_take hlt
   have hpre:=decA_pre (l:=l) (i+1)
   simp only[QT,Gm,decide_eq_true_eq]at hdc
   simp -implicitDefEqProofs only[go_sem,d1]
   generalize l.getD i 0=c at hdc hst ⊢
   generalize Jbk 0 (l.take i)=v at hinv hst ⊢
   rw[hst]at hpre
   refine ⟨Ji,by omega,⟨by show (0:Int)≤_; omega,by show _≤(255:Int); omega⟩,Ji,Ji,?_⟩
   by_cases hbig:1000000000 < v*10+(c.toNat-48)
   ·have d2:((1000000000:Int) < 10*(v:Int)+((c.toNat:Int)-48))=True:=Jn
    have hn:numV l = -1:=by
     unfold numV
     rw[if_neg]
     unfold Jba
     rw[decide_eq_false (by omega)]; simp
    simp -implicitDefEqProofs only[go_sem,d2,hn]
   ·have d2:((1000000000:Int) < 10*(v:Int)+((c.toNat:Int)-48))=False:=Jj
    simp -implicitDefEqProofs only[go_sem,d2]
    refine ⟨Ji,i+1,⟨by omega,by omega⟩,by omega,?_⟩
    have e:((v*10+(c.toNat-48):Nat):Int)=10*(v:Int)+((c.toNat:Int)-48):=by omega
    rw[hst,e]
    simp[forget]
  ·have d1:((i:Int) < (l.length:Int))=False:=Jj
   have hie:i=l.length:=by omega
   subst hie
   rw[Gj]at hinv
   have hv:Jbk 0 l=Jb1 l:=rfl
   by_cases h1:1 < l.length
   ·have d2:((1:Int) < (l.length:Int))=True:=Jn
    simp -implicitDefEqProofs only[go_sem,d1,d2,Gj]
    have hq:=deq 48 (by decide) (l.getD 0 0)
    simp only[Gh]at hq
    have hh:l.head? = some (l.getD 0 0):=by cases l with
     |nil=>simp at h1
     |cons a r=>rfl
    by_cases h48:l.getD 0 0=48
    ·have e1:(((l.getD 0 0).toNat:Int) == 48)=true:=by rw[hq,h48]; rfl
     have hn:numV l = -1:=by
      unfold numV
      rw[if_neg]
      unfold Jba
      rw[hh,h48]
      have:¬ (l.length=1∨some (48:UInt8)≠some 48):=by simp; omega
      rw[decide_eq_false this]; simp
     refine ⟨by omega,?_⟩
     simp -implicitDefEqProofs only[go_sem,e1,hn]
    ·have e1:(((l.getD 0 0).toNat:Int) == 48)=false:=by rw[hq]; exact beq_eq_false_iff_ne.2 h48
     have hn:numV l=Jb1 l:=by
      unfold numV
      rw[if_pos]
      unfold Jba
      rw[hh]
      have:(l.length=1∨some (l.getD 0 0)≠some (48:UInt8)):=.inr (by simpa using h48)
      rw[decide_eq_true this,decide_eq_true (by omega)]; rfl
     refine ⟨by omega,?_⟩
     simp -implicitDefEqProofs only[go_sem,e1,hn,hv]
   ·have d2:((1:Int) < (l.length:Int))=False:=Jj
    have hn:numV l=Jb1 l:=by
     unfold numV
     rw[if_pos]
     unfold Jba
     have:(l.length=1∨l.head?≠some (48:UInt8)):=by
      cases l with
      |nil=>right; simp
      |cons a r=>left; simp at h1; simp[h1]
     rw[decide_eq_true this,decide_eq_true (by omega)]; rfl
    simp -implicitDefEqProofs only[go_sem,d1,d2,Gj,hn,hv]
theorem cut_take (l:List UInt8) (a n:Nat):cut l a (a+n)=(l.drop a).take n:=by
 unfold cut; rw[List.drop_take,Nat.add_sub_cancel_left]
theorem refSign (l:List UInt8) (a:Nat) (ha:a < l.length) (hl:l.length≤1000000):Fn Gc 167 [S l,.int .i64 (a:Int)] (.tup [.agg (lxz 4 (sgnL (l.drop a)) a),.int .i64 ((a+(sgnL (l.drop a)).length:Nat):Int),.bool (!(sgnL (l.drop a) == []))]):=by
 refine Ja c167_ok rfl rfl fun N=>?_
 simp -implicitDefEqProofs only[c167,go_sem]
 refine JV apiSigns ?_
 simp -implicitDefEqProofs only[go_sem]
 have hsl:sgs.length=26:=rfl
 have hbl:=sgnF_len (r:=l.drop a) sgs [] (by simp) sgs_len
 have hend:(sgnL (l.drop a)).length≤2:=hbl
 refine Jz (σ:=Nat×List UInt8) (I:=fun s=>s.1≤sgs.length∧sgnL (l.drop a)=sgnF (l.drop a) (sgs.drop s.1) s.2) (inv:=fun s=>gp [(0,S l),(0,.int .i64 (a:Int)),(2,.ptr 0 0 0),(2,S s.2),(0,.rslc 1 (sz sgs) none),(0,.int .i64 (s.1:Int))] 51) (hp:=fun s=>[.arr 3 [[.int .u8 0,S [],.int .i64 0]]]) (μ:=fun s=>sgs.length-s.1) (0,[]) ⟨by omega,rfl⟩ ?_ rfl ?_
 ·simp[forget,gp]
 ·rintro ⟨i,b⟩ ⟨hi,hinv⟩
  simp only at hi hinv
  by_cases hlt:i < sgs.length
  ·have d1:((i:Int) < (sgs.length:Int))=True:=Jn
   simp -implicitDefEqProofs only[go_sem,YZ,d1]
   have hgs:=sz_get hlt
   have hsl2:=sgs_len _ (Gx hlt)
   rw[Gf hlt,sgnF]at hinv
   rw[show sgs.getD i []=sgs[i] by rw[Gd,Gg hlt]; rfl]at hgs
   generalize sgs[i]=s at hinv hgs hsl2 ⊢
   rw[hgs]
   refine ⟨by omega,?_⟩
   simp -implicitDefEqProofs only[go_sem]
   refine JS JA (by decide) ?_
   by_cases hb:b.length < s.length
   ·have d2:((b.length:Int) < (s.length:Int))=True:=Jn
    by_cases hin:a+s.length≤l.length
    ·have d3:((a:Int)+(s.length:Int)≤(l.length:Int))=True:=Jn
     have htn:((a:Int)+(s.length:Int)).toNat=a+s.length:=by omega
     have hcut:List.drop a (List.take (a+s.length) l)=(l.drop a).take s.length:=cut_take l a s.length
     by_cases hp:(l.drop a).take s.length=s
     ·have e1:((l.drop a).take s.length == s)=true:=beq_iff_eq.2 hp
      rw[if_pos ⟨hp,hb⟩]at hinv
      simp -implicitDefEqProofs only[go_sem,YZ,d2,d3,hgs,htn,hcut,e1]
      refine ⟨Ji,Ji,by omega,by omega,by omega,Ji,(i+1,s),⟨by simp only; omega,hinv⟩,by simp only; omega,?_⟩
      simp[forget]
     ·have e1:((l.drop a).take s.length == s)=false:=beq_eq_false_iff_ne.2 hp
      rw[if_neg (fun h=>hp h.1)]at hinv
      simp -implicitDefEqProofs only[go_sem,YZ,d2,d3,hgs,htn,hcut,e1]
      refine ⟨Ji,Ji,by omega,by omega,Ji,(i+1,b),⟨by simp only; omega,hinv⟩,by simp only; omega,?_⟩
      simp[forget]
    ·have d3:((a:Int)+(s.length:Int)≤(l.length:Int))=False:=Jj
     have hp:(l.drop a).take s.length≠s:=by
      intro e
      have:=congrArg GA e
      rw[Gv,Gw]at this
      omega
     rw[if_neg (fun h=>hp h.1)]at hinv
     simp -implicitDefEqProofs only[go_sem,YZ,d2,d3,hgs]
     refine ⟨Ji,Ji,(i+1,b),⟨by simp only; omega,hinv⟩,by simp only; omega,?_⟩
     simp[forget]
   ·have d2:((b.length:Int) < (s.length:Int))=False:=Jj
    rw[if_neg (fun h=>hb h.2)]at hinv
    simp -implicitDefEqProofs only[go_sem,YZ,d2,hgs]
    refine ⟨Ji,(i+1,b),⟨by simp only; omega,hinv⟩,by simp only; omega,?_⟩
    simp[forget]
  ·have d1:((i:Int) < (sgs.length:Int))=False:=Jj
   have:i=sgs.length:=by omega
   subst this
   rw[List.drop_length,sgnF]at hinv
   rw[hinv]at hend ⊢
   simp -implicitDefEqProofs only[go_sem,YZ,d1]
   refine ⟨Ji,?_⟩
   simp only[lxz]
   rfl
def qAt (c:UInt8):UInt8→Bool:=if isLt c=true then Ku else QT
section
theorem Jf8 {q:UInt8→Bool}{l:List UInt8}:∀ (n a i:Nat),n=i-a→a≤i→i < Qy q l a→i < l.length→q (l.getD i 0)=true
 |0,a,i,hn,h1,h2,h3=>by
  have:a=i:=by omega
  subst this
  cases hq:q (l.getD a 0) with
  |true=>rfl
  |false=>rw[JdE h3 hq]at h2; omega
 |n+1,a,i,hn,h1,h2,h3=>by
  cases hq:q (l.getD a 0) with
  |true=>rw[Jc4 (by omega) hq]at h2; exact Jf8 n (a+1) i (by omega) (by omega) h2 h3
  |false=>rw[JdE (by omega) hq]at h2; omega
theorem Jc5 {q:UInt8→Bool}{l:List UInt8}:∀ (n a:Nat),n=l.length-a→Qy q l a < l.length→q (l.getD (Qy q l a) 0)=false
 |0,a,hn,h=>by
  have:a≤Qy q l a:=by unfold Qy; omega
  omega
 |n+1,a,hn,h=>by
  have:a≤Qy q l a:=by unfold Qy; omega
  cases hq:q (l.getD a 0) with
  |true=>rw[Jc4 (by omega) hq]at h ⊢; exact Jc5 n (a+1) (by omega) h
  |false=>rw[JdE (by omega) hq]; exact hq
theorem lt_dg {c:UInt8}(h:isLt c=true):QT c=false:=by
 simp only[isLt,Gm,decide_eq_true_eq]at h
 have:¬ c.toNat≤57:=by omega
 simp[QT,this]
section
variable {P:Program}{E:Env}{H:List CObj}{T:List CV}
theorem hs_st {d:Option Nat}{n:Nat}{a v:IArg}{id i off z:Nat}{els:List (List CV)}{cs:List CV}(ha:JQ T a=.ptr id i off) (hv:(JQ T v).cells=some cs) (hH:H[id]? = some (.arr z els)) (hn:cs.length=n∧KX cs=true) (hc:i+1≤els.length∧off+n≤(els.getD i []).length) :
  HS P E ⟨d,.store n a v,none⟩ T H .un (H.set id (.arr z (els.set i (splice (els.getD i []) off cs)))) (.on [id+1],.on [id+1]):=by
 refine ⟨fun x hx=>?_,fun T2 H2 hag hx=>?_⟩
 ·cases x with
  |zero=>simp[hat]
  |succ x=>
   have hne:¬ id=x:=fun e=>hx (by simp[Foot.has,e])
   simp[hat,Gu,hne]
 ·have hH2:H2[id]? = some (.arr z els):=by
   have:=hx (id+1) (by simp[Foot.has])
   simpa [hat,hH]using this
  refine ⟨H2.set id (.arr z (els.set i (splice (els.getD i []) off cs))),fun x hx=>?_,fun x hx=>?_,fun _ _ _ _ _ hok=>Jcr (.inl rfl) (c:=.and (.le (i+1) els.length) (.le (off+n) (els.getD i []).length)) (v:=.un) ?_ hc hok⟩
  ·simp only[Foot.has,List.mem_cons,List.not_mem_nil,or_false]at hx
   subst hx
   have h1:=(Gs.1 hH).1
   have h2:=(Gs.1 hH2).1
   simp[hat,h1,h2]
  ·cases x with
   |zero=>simp[hat]
   |succ x=>
    have hne:¬ id=x:=fun e=>hx (by simp[Foot.has,e])
    simp[hat,Gu,hne]
  ·rw[← Kt (Jh hag).2]
   simp only[exec,ha,hv,hH2]
   rw[if_pos hn]
end
theorem refAtS (l:List UInt8) (a:Nat) (ha:a < l.length) (hl:l.length≤1000000) (h1:isLt (l.getD a 0)=false) (h2:QT (l.getD a 0)=false):Fn Gc 133 [S l,.int .i64 (a:Int)] (.tup [.agg (lxz (tkL l a).1 (tkL l a).2.1 a),.int .i64 ((a+(tkL l a).2.1.length:Nat):Int),.bool (tkL l a).2.2]):=by
 refine Ja c133_ok rfl rfl fun N=>?_
 simp -implicitDefEqProofs only[c133,go_sem]
 obtain ⟨c0,hc0⟩:∃ c,c=l.getD a 0:=⟨_,rfl⟩
 obtain ⟨q,hq⟩:∃ q,q=qAt c0:=⟨_,rfl⟩
 have hq2:q=QT:=by rw[hq,qAt,hc0]; first | rw[if_pos h1] | rw[if_neg (by rw[h1]; simp)]
 obtain ⟨E,hE⟩:∃ E,E=Qy q l a:=⟨_,rfl⟩
 have hEl:E≤l.length:=by rw[hE]; exact X6 (Ga ha)
 have hEg:a≤E:=by rw[hE]; unfold Qy; omega
 have hin:∀ i,a≤i→i < E→q (l.getD i 0)=true:=fun i h1 h2=>Jf8 _ a i rfl h1 (by rw[← hE]; exact h2) (by omega)
 have hout:E < l.length→q (l.getD E 0)=false:=fun h=>by rw[hE]at h ⊢; exact Jc5 _ a rfl h
 have hEa:E=a:=by rw[hE,hq2]; exact JdE ha h2
 have hT:tkL l a=(4,sgnL (l.drop a),!(sgnL (l.drop a) == [])):=by
  unfold tkL; rw[if_neg (by rw[h1]; simp),if_neg (by rw[h2]; simp)]
 rw[hT]
 have hia:((E:Int) == (a:Int))=true:=by rw[hEa]; simp
 refine Jz (I:=fun i:Nat=>a≤i∧i≤E) (inv:=fun i=>gp [(0,S l),(0,.int .i64 (a:Int)),(2,.ptr 0 0 0),(2,.int .i64 (i:Int))] 69) (hp:=fun _=>[.arr 3 [[.int .u8 0,S [],.int .i64 0]]]) (μ:=fun i=>l.length-i) a ⟨by omega,by omega⟩ ?_ rfl ?_
 ·simp[forget,gp]
 ·rintro i ⟨hai,hi⟩
  by_cases hgo:i < E
  ·have hlt:i < l.length:=by omega
   have d1:((i:Int) < (l.length:Int))=True:=Jn
   have hqi:=hin i hai hgo
   simp -implicitDefEqProofs only[go_sem,d1]
   refine ⟨by omega,?_⟩
   refine JN (gok rfl) (KM _) ?_
   cases hdg:QT (l.getD i 0) with
   |true=>
    simp -implicitDefEqProofs only[go_sem]
    refine ⟨Ji,i+1,⟨by omega,by omega⟩,by omega,?_⟩
    simp[forget]
   |false=>
    rw[hq,qAt]at hqi
    by_cases hl0:isLt c0=true
    ·rw[if_pos hl0]at hqi
     simp only[Ku,hdg,Gr]at hqi
     simp -implicitDefEqProofs only[go_sem]
     refine ⟨by omega,?_⟩
     refine JN (gok rfl) (JX _) ?_
     simp -implicitDefEqProofs only[go_sem,hqi]
     refine ⟨by omega,?_⟩
     rw[← hc0]
     refine JN (gok rfl) (JX _) ?_
     simp -implicitDefEqProofs only[go_sem,hl0]
     refine ⟨Ji,i+1,⟨by omega,by omega⟩,by omega,?_⟩
     simp[forget]
    ·rw[if_neg hl0,hdg]at hqi; cases hqi
  ·have hie:i=E:=by omega
   subst hie
   rcases (show l.length≤i∨(i < l.length∧QT (l.getD i 0)=false∧isLt (l.getD i 0)=false)∨(i < l.length∧QT (l.getD i 0)=false∧isLt (l.getD i 0)=true∧isLt c0=false) from by
    by_cases h1:i < l.length
    ·have h2:=hout h1
     rw[hq,qAt]at h2
     by_cases hl0:isLt c0=true
     ·rw[if_pos hl0]at h2
      simp only[Ku,Gl]at h2
      exact .inr (.inl ⟨h1,h2.2,h2.1⟩)
     ·rw[if_neg hl0]at h2
      cases h3:isLt (l.getD i 0) with
      |true=>exact .inr (.inr ⟨h1,h2,rfl,by simpa using hl0⟩)
      |false=>exact .inr (.inl ⟨h1,h2,rfl⟩)
    ·exact .inl (by omega)) with hw | ⟨hw1,hw2,hw3⟩ | ⟨hw1,hw2,hw3,hw4⟩
   case' inl=>
    have d1:((i:Int) < (l.length:Int))=False:=Jj
    simp -implicitDefEqProofs only[go_sem,d1,hia]
   case' inr.inl=>
    have d1:((i:Int) < (l.length:Int))=True:=Jn
    simp -implicitDefEqProofs only[go_sem,d1]
    refine ⟨by omega,?_⟩
    refine JN (gok rfl) (KM _) ?_
    simp -implicitDefEqProofs only[go_sem,hw2]
    refine ⟨by omega,?_⟩
    refine JN (gok rfl) (JX _) ?_
    simp -implicitDefEqProofs only[go_sem,hw3,hia]
   case' inr.inr=>
    have d1:((i:Int) < (l.length:Int))=True:=Jn
    simp -implicitDefEqProofs only[go_sem,d1]
    refine ⟨by omega,?_⟩
    refine JN (gok rfl) (KM _) ?_
    simp -implicitDefEqProofs only[go_sem,hw2]
    refine ⟨by omega,?_⟩
    refine JN (gok rfl) (JX _) ?_
    simp -implicitDefEqProofs only[go_sem,hw3]
    refine ⟨by omega,?_⟩
    rw[← hc0]
    refine JN (gok rfl) (JX _) ?_
    simp -implicitDefEqProofs only[go_sem,hw4,hia]
   all_goals (
    refine ⟨by omega,?_⟩
    refine JV (refSign l a ha hl) ?_
    simp -implicitDefEqProofs only[go_sem,lxz,splice]
   )
theorem refAtL (l:List UInt8) (a:Nat) (ha:a < l.length) (hl:l.length≤1000000) (h1:isLt (l.getD a 0)=true):Fn Gc 133 [S l,.int .i64 (a:Int)] (.tup [.agg (lxz (tkL l a).1 (tkL l a).2.1 a),.int .i64 ((a+(tkL l a).2.1.length:Nat):Int),.bool (tkL l a).2.2]):=by
 refine Ja c133_ok rfl rfl fun N=>?_
 simp -implicitDefEqProofs only[c133,go_sem]
 obtain ⟨c0,hc0⟩:∃ c,c=l.getD a 0:=⟨_,rfl⟩
 obtain ⟨q,hq⟩:∃ q,q=qAt c0:=⟨_,rfl⟩
 have hq2:q=Ku:=by rw[hq,qAt,hc0]; first | rw[if_pos h1] | rw[if_neg (by rw[h1]; simp)]
 obtain ⟨E,hE⟩:∃ E,E=Qy q l a:=⟨_,rfl⟩
 have hEl:E≤l.length:=by rw[hE]; exact X6 (Ga ha)
 have hEg:a≤E:=by rw[hE]; unfold Qy; omega
 have hin:∀ i,a≤i→i < E→q (l.getD i 0)=true:=fun i h1 h2=>Jf8 _ a i rfl h1 (by rw[← hE]; exact h2) (by omega)
 have hout:E < l.length→q (l.getD E 0)=false:=fun h=>by rw[hE]at h ⊢; exact Jc5 _ a rfl h
 have h2:=lt_dg h1
 have hEa:a < E:=by rw[hE,hq2]; exact Ja3 ha (by simp only[Ku,h1,Gn])
 have hT:tkL l a=if kws.contains (cut l a E)=true then (1,cut l a E,true) else (2,cut l a E,decide ((cut l a E).length≤12)):=by
  unfold tkL; rw[if_pos h1,hE,hq2]
 have hcl:=Jan hEg hEl
 have hcut:(l.take E).drop a=cut l a E:=rfl
 rw[hT]
 have hia:((E:Int) == (a:Int))=false:=by rw[beq_eq_false_iff_ne]; omega
 refine Jz (I:=fun i:Nat=>a≤i∧i≤E) (inv:=fun i=>gp [(0,S l),(0,.int .i64 (a:Int)),(2,.ptr 0 0 0),(2,.int .i64 (i:Int))] 69) (hp:=fun _=>[.arr 3 [[.int .u8 0,S [],.int .i64 0]]]) (μ:=fun i=>l.length-i) a ⟨by omega,by omega⟩ ?_ rfl ?_
 ·simp[forget,gp]
 ·rintro i ⟨hai,hi⟩
  by_cases hgo:i < E
  ·have hlt:i < l.length:=by omega
   have d1:((i:Int) < (l.length:Int))=True:=Jn
   have hqi:=hin i hai hgo
   simp -implicitDefEqProofs only[go_sem,d1]
   refine ⟨by omega,?_⟩
   refine JN (gok rfl) (KM _) ?_
   cases hdg:QT (l.getD i 0) with
   |true=>
    simp -implicitDefEqProofs only[go_sem]
    refine ⟨Ji,i+1,⟨by omega,by omega⟩,by omega,?_⟩
    simp[forget]
   |false=>
    rw[hq,qAt]at hqi
    by_cases hl0:isLt c0=true
    ·rw[if_pos hl0]at hqi
     simp only[Ku,hdg,Gr]at hqi
     simp -implicitDefEqProofs only[go_sem]
     refine ⟨by omega,?_⟩
     refine JN (gok rfl) (JX _) ?_
     simp -implicitDefEqProofs only[go_sem,hqi]
     refine ⟨by omega,?_⟩
     rw[← hc0]
     refine JN (gok rfl) (JX _) ?_
     simp -implicitDefEqProofs only[go_sem,hl0]
     refine ⟨Ji,i+1,⟨by omega,by omega⟩,by omega,?_⟩
     simp[forget]
    ·rw[if_neg hl0,hdg]at hqi; cases hqi
  ·have hie:i=E:=by omega
   subst hie
   rcases (show l.length≤i∨(i < l.length∧QT (l.getD i 0)=false∧isLt (l.getD i 0)=false)∨(i < l.length∧QT (l.getD i 0)=false∧isLt (l.getD i 0)=true∧isLt c0=false) from by
    by_cases h1:i < l.length
    ·have h2:=hout h1
     rw[hq,qAt]at h2
     by_cases hl0:isLt c0=true
     ·rw[if_pos hl0]at h2
      simp only[Ku,Gl]at h2
      exact .inr (.inl ⟨h1,h2.2,h2.1⟩)
     ·rw[if_neg hl0]at h2
      cases h3:isLt (l.getD i 0) with
      |true=>exact .inr (.inr ⟨h1,h2,rfl,by simpa using hl0⟩)
      |false=>exact .inr (.inl ⟨h1,h2,rfl⟩)
    ·exact .inl (by omega)) with hw | ⟨hw1,hw2,hw3⟩ | ⟨hw1,hw2,hw3,hw4⟩
   case' inl=>
    have d1:((i:Int) < (l.length:Int))=False:=Jj
    simp -implicitDefEqProofs only[go_sem,d1,hia,hcut]
   case' inr.inl=>
    have d1:((i:Int) < (l.length:Int))=True:=Jn
    simp -implicitDefEqProofs only[go_sem,d1]
    refine ⟨by omega,?_⟩
    refine JN (gok rfl) (KM _) ?_
    simp -implicitDefEqProofs only[go_sem,hw2]
    refine ⟨by omega,?_⟩
    refine JN (gok rfl) (JX _) ?_
    simp -implicitDefEqProofs only[go_sem,hw3,hia,hcut]
   case' inr.inr=>
    have d1:((i:Int) < (l.length:Int))=True:=Jn
    simp -implicitDefEqProofs only[go_sem,d1]
    refine ⟨by omega,?_⟩
    refine JN (gok rfl) (KM _) ?_
    simp -implicitDefEqProofs only[go_sem,hw2]
    refine ⟨by omega,?_⟩
    refine JN (gok rfl) (JX _) ?_
    simp -implicitDefEqProofs only[go_sem,hw3]
    refine ⟨by omega,?_⟩
    rw[← hc0]
    refine JN (gok rfl) (JX _) ?_
    simp -implicitDefEqProofs only[go_sem,hw4,hia,hcut]
   all_goals (
    refine ⟨by omega,by omega,?_⟩
    refine JV (KM _) ?_
    simp -implicitDefEqProofs only[go_sem,h2]
    generalize hx:cut l a i=x at hcl ⊢
    have hkw:=refHas kws x (by decide)
    refine Yu [Foot.no,Foot.no,(.on [2],.on []),Foot.no,Foot.no] JA (by decide +kernel) ?_
    refine ⟨_,_,hs_f (.inl rfl) Jew,_,_,X9 rfl rfl trivial,_,_,hs_ld (id:=1) (i:=0) (off:=1) rfl rfl ⟨Gb 1,(by decide:2≤3)⟩,_,_,hs_f (.inl rfl) hkw,_,_,X9 rfl rfl trivial,?_⟩
    simp -implicitDefEqProofs only[vdf,go_sem,splice]
    cases hk:kws.contains x with
    |true=>
     simp -implicitDefEqProofs only[go_sem,splice]
     rw[show a+x.length=i by omega]
     rfl
    |false=>
     have e12:decide ((x.length:Int)≤12)=decide (x.length≤12):=decide_eq_decide.2 (by omega)
     simp -implicitDefEqProofs only[go_sem,splice]
     refine Yu [(.on [2],.on []),Foot.no,Foot.no,(.on [2],.on []),Foot.no,Foot.no,(.on [1],.on [1]),Foot.no,Foot.no] JA (by decide +kernel) ?_
     refine ⟨_,_,hs_ld (id:=1) (i:=0) (off:=0) rfl rfl ⟨Gb 1,Gb 3⟩,_,_,X9 rfl rfl trivial,_,_,X9 rfl rfl trivial,_,_,hs_ld (id:=1) (i:=0) (off:=1) rfl rfl ⟨Gb 1,(by decide:2≤3)⟩,_,_,X9 rfl rfl trivial,_,_,X9 rfl rfl trivial,_,_,hs_st (id:=0) (i:=0) (off:=0) rfl rfl rfl ⟨rfl,rfl⟩ ⟨Gb 1,Gb 3⟩,_,_,X9 rfl rfl trivial,_,_,X9 rfl rfl trivial,?_⟩
     simp -implicitDefEqProofs only[vdf,go_sem,splice,e12]
     rw[show a+x.length=i by omega]
     rfl
   )
theorem refAtD (l:List UInt8) (a:Nat) (ha:a < l.length) (hl:l.length≤1000000) (h1:isLt (l.getD a 0)=false) (h2:QT (l.getD a 0)=true):Fn Gc 133 [S l,.int .i64 (a:Int)] (.tup [.agg (lxz (tkL l a).1 (tkL l a).2.1 a),.int .i64 ((a+(tkL l a).2.1.length:Nat):Int),.bool (tkL l a).2.2]):=by
 refine Ja c133_ok rfl rfl fun N=>?_
 simp -implicitDefEqProofs only[c133,go_sem]
 obtain ⟨c0,hc0⟩:∃ c,c=l.getD a 0:=⟨_,rfl⟩
 obtain ⟨q,hq⟩:∃ q,q=qAt c0:=⟨_,rfl⟩
 have hq2:q=QT:=by rw[hq,qAt,hc0]; first | rw[if_pos h1] | rw[if_neg (by rw[h1]; simp)]
 obtain ⟨E,hE⟩:∃ E,E=Qy q l a:=⟨_,rfl⟩
 have hEl:E≤l.length:=by rw[hE]; exact X6 (Ga ha)
 have hEg:a≤E:=by rw[hE]; unfold Qy; omega
 have hin:∀ i,a≤i→i < E→q (l.getD i 0)=true:=fun i h1 h2=>Jf8 _ a i rfl h1 (by rw[← hE]; exact h2) (by omega)
 have hout:E < l.length→q (l.getD E 0)=false:=fun h=>by rw[hE]at h ⊢; exact Jc5 _ a rfl h
 have hEa:a < E:=by rw[hE,hq2]; exact Ja3 ha h2
 have hT:tkL l a=(3,cut l a E,Jba (cut l a E)):=by
  unfold tkL; rw[if_neg (by rw[h1]; simp),if_pos h2,hE,hq2]
 have hcl:=Jan hEg hEl
 have hcut:(l.take E).drop a=cut l a E:=rfl
 have hall:=run_all (q:=QT) (Ga ha)
 rw[show Qy QT l a=E by rw[hE,hq2]]at hall
 rw[hT]
 have hia:((E:Int) == (a:Int))=false:=by rw[beq_eq_false_iff_ne]; omega
 refine Jz (I:=fun i:Nat=>a≤i∧i≤E) (inv:=fun i=>gp [(0,S l),(0,.int .i64 (a:Int)),(2,.ptr 0 0 0),(2,.int .i64 (i:Int))] 69) (hp:=fun _=>[.arr 3 [[.int .u8 0,S [],.int .i64 0]]]) (μ:=fun i=>l.length-i) a ⟨by omega,by omega⟩ ?_ rfl ?_
 ·simp[forget,gp]
 ·rintro i ⟨hai,hi⟩
  by_cases hgo:i < E
  ·have hlt:i < l.length:=by omega
   have d1:((i:Int) < (l.length:Int))=True:=Jn
   have hqi:=hin i hai hgo
   simp -implicitDefEqProofs only[go_sem,d1]
   refine ⟨by omega,?_⟩
   refine JN (gok rfl) (KM _) ?_
   cases hdg:QT (l.getD i 0) with
   |true=>
    simp -implicitDefEqProofs only[go_sem]
    refine ⟨Ji,i+1,⟨by omega,by omega⟩,by omega,?_⟩
    simp[forget]
   |false=>
    rw[hq,qAt]at hqi
    by_cases hl0:isLt c0=true
    ·rw[if_pos hl0]at hqi
     simp only[Ku,hdg,Gr]at hqi
     simp -implicitDefEqProofs only[go_sem]
     refine ⟨by omega,?_⟩
     refine JN (gok rfl) (JX _) ?_
     simp -implicitDefEqProofs only[go_sem,hqi]
     refine ⟨by omega,?_⟩
     rw[← hc0]
     refine JN (gok rfl) (JX _) ?_
     simp -implicitDefEqProofs only[go_sem,hl0]
     refine ⟨Ji,i+1,⟨by omega,by omega⟩,by omega,?_⟩
     simp[forget]
    ·rw[if_neg hl0,hdg]at hqi; cases hqi
  ·have hie:i=E:=by omega
   subst hie
   rcases (show l.length≤i∨(i < l.length∧QT (l.getD i 0)=false∧isLt (l.getD i 0)=false)∨(i < l.length∧QT (l.getD i 0)=false∧isLt (l.getD i 0)=true∧isLt c0=false) from by
    by_cases h1:i < l.length
    ·have h2:=hout h1
     rw[hq,qAt]at h2
     by_cases hl0:isLt c0=true
     ·rw[if_pos hl0]at h2
      simp only[Ku,Gl]at h2
      exact .inr (.inl ⟨h1,h2.2,h2.1⟩)
     ·rw[if_neg hl0]at h2
      cases h3:isLt (l.getD i 0) with
      |true=>exact .inr (.inr ⟨h1,h2,rfl,by simpa using hl0⟩)
      |false=>exact .inr (.inl ⟨h1,h2,rfl⟩)
    ·exact .inl (by omega)) with hw | ⟨hw1,hw2,hw3⟩ | ⟨hw1,hw2,hw3,hw4⟩
   case' inl=>
    have d1:((i:Int) < (l.length:Int))=False:=Jj
    simp -implicitDefEqProofs only[go_sem,d1,hia,hcut]
   case' inr.inl=>
    have d1:((i:Int) < (l.length:Int))=True:=Jn
    simp -implicitDefEqProofs only[go_sem,d1]
    refine ⟨by omega,?_⟩
    refine JN (gok rfl) (KM _) ?_
    simp -implicitDefEqProofs only[go_sem,hw2]
    refine ⟨by omega,?_⟩
    refine JN (gok rfl) (JX _) ?_
    simp -implicitDefEqProofs only[go_sem,hw3,hia,hcut]
   case' inr.inr=>
    have d1:((i:Int) < (l.length:Int))=True:=Jn
    simp -implicitDefEqProofs only[go_sem,d1]
    refine ⟨by omega,?_⟩
    refine JN (gok rfl) (KM _) ?_
    simp -implicitDefEqProofs only[go_sem,hw2]
    refine ⟨by omega,?_⟩
    refine JN (gok rfl) (JX _) ?_
    simp -implicitDefEqProofs only[go_sem,hw3]
    refine ⟨by omega,?_⟩
    rw[← hc0]
    refine JN (gok rfl) (JX _) ?_
    simp -implicitDefEqProofs only[go_sem,hw4,hia,hcut]
   all_goals (
    refine ⟨by omega,by omega,?_⟩
    refine JV (KM _) ?_
    simp -implicitDefEqProofs only[go_sem,h2]
    generalize hx:cut l a i=x at hcl hall ⊢
    have hnum:=refNumber x hall (by omega)
    have hnv:=numV_ok x
    refine Yu [(.on [2],.on []),Foot.no,Foot.no,(.on [2],.on []),Foot.no,Foot.no,(.on [1],.on [1]),Foot.no,Foot.no] JA (by decide +kernel) ?_
    refine ⟨_,_,hs_ld (id:=1) (i:=0) (off:=0) rfl rfl ⟨Gb 1,Gb 3⟩,_,_,X9 rfl rfl trivial,_,_,X9 rfl rfl trivial,_,_,hs_ld (id:=1) (i:=0) (off:=1) rfl rfl ⟨Gb 1,(by decide:2≤3)⟩,_,_,hs_f (.inl rfl) hnum,_,_,X9 rfl rfl trivial,_,_,hs_st (id:=0) (i:=0) (off:=0) rfl rfl rfl ⟨rfl,rfl⟩ ⟨Gb 1,Gb 3⟩,_,_,X9 rfl rfl trivial,_,_,X9 rfl rfl trivial,?_⟩
    simp -implicitDefEqProofs only[vdf,go_sem,splice,hnv]
    rw[show a+x.length=i by omega]
    rfl
   )
theorem refAt (l:List UInt8) (a:Nat) (ha:a < l.length) (hl:l.length≤1000000):Fn Gc 133 [S l,.int .i64 (a:Int)] (.tup [.agg (lxz (tkL l a).1 (tkL l a).2.1 a),.int .i64 ((a+(tkL l a).2.1.length:Nat):Int),.bool (tkL l a).2.2]):=by
 cases h1:isLt (l.getD a 0) with
 |true=>exact refAtL l a ha hl h1
 |false=>cases h2:QT (l.getD a 0) with
  |true=>exact refAtD l a ha hl h1 h2
  |false=>exact refAtS l a ha hl h1 h2
end
section
def lxr (l:List (Nat×List UInt8×Nat)):List (List CV):=l.map fun t=>lxz t.1 t.2.1 t.2.2
theorem Jbc {l:List (Nat×List UInt8×Nat)}:(lxr l).length=l.length:=by simp[lxr]
theorem Jcu:∀ (l:List (Nat×List UInt8×Nat)),Jq (lxr l)=true
 |[]=>rfl
 |x::l=>by simp[lxr,lxz,Jq,Jm,CV.closed]; exact Jcu l
theorem lxr_app {l:List (Nat×List UInt8×Nat)}{t:Nat×List UInt8×Nat}:lxr (l++[t])=lxr l++[lxz t.1 t.2.1 t.2.2]:=by simp[lxr]
theorem tk_len {l:List UInt8}{a:Nat}(ha:a < l.length) (h:(tkL l a).2.2=true):0 < (tkL l a).2.1.length:=by
 unfold tkL at h ⊢
 by_cases h1:isLt (l.getD a 0)=true
 ·have h2:=Ja3 (q:=Ku) ha (by simp only[Ku,h1,Gn])
  have h3:=Jan (Ga h2) (X6 (q:=Ku) (Ga ha))
  rw[if_pos h1]at h ⊢
  split <;> (simp only; omega)
 ·rw[if_neg h1]at h ⊢
  by_cases h2:QT (l.getD a 0)=true
  ·have h4:=Ja3 (q:=QT) ha h2
   have h3:=Jan (Ga h4) (X6 (q:=QT) (Ga ha))
   rw[if_pos h2]at h ⊢
   simp only; omega
  ·rw[if_neg h2]at h ⊢
   simp only[GD,beq_eq_false_iff_ne]at h ⊢
   exact Gt.2 h
theorem sgn_in {r:List UInt8}:∀ (L:List (List UInt8)) (b:List UInt8),b.length≤r.length→(sgnF r L b).length≤r.length
 |[],b,h=>h
 |s::L,b,h=>by
  simp only[sgnF]
  refine sgn_in L _ ?_
  split
  ·rename_i hc
   have:=congrArg GA hc.1
   rw[Gv]at this
   omega
  ·exact h
theorem tk_end {l:List UInt8}{a:Nat}(ha:a < l.length):a+(tkL l a).2.1.length≤l.length:=by
 unfold tkL
 by_cases h1:isLt (l.getD a 0)=true
 ·have h2:=Ja3 (q:=Ku) ha (by simp only[Ku,h1,Gn])
  have h4:=X6 (q:=Ku) (Ga ha)
  have h3:=Jan (Ga h2) h4
  rw[if_pos h1]
  split <;> (simp only; omega)
 ·rw[if_neg h1]
  by_cases h2:QT (l.getD a 0)=true
  ·have h5:=Ja3 (q:=QT) ha h2
   have h4:=X6 (q:=QT) (Ga ha)
   have h3:=Jan (Ga h5) h4
   rw[if_pos h2]
   simp only; omega
  ·rw[if_neg h2]
   have:=sgn_in (r:=l.drop a) sgs [] (by simp)
   rw[Gw]at this
   show a+(sgnF (l.drop a) sgs []).length≤l.length
   omega
section
variable {P:Program}
theorem wk_tup {l l':List CV}(h:wks l l'):wk (.tup l) (.tup l'):=by
 rintro own imm v ⟨vs,rfl,hr⟩
 exact ⟨vs,rfl,Jby h hr⟩
theorem Jbz {l l':List CV}(h:wks l l'):wk (.agg l) (.agg l'):=by
 rintro own imm v ⟨vs,rfl,hr⟩
 exact ⟨vs,rfl,Jby h hr⟩
theorem Jai {f:Nat}{args:List CV}{v0:CV}(h:CallsC P Env.none f args [] fun v H'=>wk v v0∨∃ id z els,H'[id]? = some (.arr z els)∧Jq els=true∧wk (frz id z els v) v0) (ha:Jm args=true) (hv:v0.closed=true):Fn P f args v0:=by
 refine fn_of ?_ ha hv
 intro m w vs hs hvs
 refine (h m w vs hs hvs).mono ?_
 rintro e w' ⟨r,m',v,H',h1,h2,h3,h4,g⟩
 rcases g with g | ⟨id,z,els,g1,hc,g⟩
 ·exact ⟨r,m',v0,H',h1,h2,h3,g _ _ _ h4,rfl⟩
 ·obtain ⟨imm',hs',he,hf⟩:=Sim.freeze (n0:=([]:List CObj).length) h3 g1 hc
  exact ⟨r,_,_,_,h1,h2.trans he,hs',g _ _ _ (hf _ _ h4),rfl⟩
end
theorem Jc6 {z:Nat}{els:List (List CV)}{id n:Nat}{cap:Option Nat}{x y:CV}(hx:x.closed=true) (hy:y.closed=true) (hn:n=els.length):wk (frz id z els (.tup [.slc id 0 n cap,x,y])) (.tup [.rslc z els none,x,y]):=by
 subst hn
 simp only[frz,J2,if_true,GH,Gb,Gz,Gj,Xg x hx,Xg y hy]
 exact wk_tup ⟨wk.rslc,wk.refl _,wk.refl _,trivial⟩
theorem refRead (l:List UInt8) (hl:l.length≤1000000):Fn Gc 110 [S l] (.tup [.rslc 3 (lxr (JcU l).1) none,.int .i64 ((JcU l).2.1:Nat),.int .i64 (JcU l).2.2]):=by
 refine Jai ?_ rfl rfl
 refine KI c110_ok fun N=>?_
 simp -implicitDefEqProofs only[c110,go_sem]
 refine JV (refLexCheck l hl) ?_
 simp -implicitDefEqProofs only[go_sem]
 cases he:((Xx l).2 != 0) with
 |true=>
  have he2:(Xx l).2≠0:=by simpa using he
  have hr:JcU l=([],(Xx l).1,(Xx l).2):=by unfold JcU; rw[if_pos he2]
  rw[hr]
  simp -implicitDefEqProofs only[go_sem]
  exact .inr ⟨0,3,[],rfl,rfl,Jc6 rfl rfl rfl⟩
 |false=>
  have he2:(Xx l).2=0:=by simpa using he
  have hr:JcU l=rdF l (l.length+1) 0 []:=by unfold JcU; rw[if_neg (by simp[he2])]
  rw[hr]
  obtain ⟨R,hR⟩:∃ R,R=rdF l (l.length+1) 0 []:=⟨_,rfl⟩
  rw[← hR]
  simp -implicitDefEqProofs only[go_sem]
  refine JV (refGap l 0 (Nat.zero_le _) hl) ?_
  simp -implicitDefEqProofs only[go_sem]
  refine JG (σ:=Nat×Nat×List (Nat×List UInt8×Nat)) (I:=fun s=>s.2.1≤l.length∧l.length+1≤s.1+s.2.1∧s.2.2.length≤900∧R=rdF l s.1 s.2.1 s.2.2)
   (inv:=fun s=>gp [(0,S l),(6,.slc 0 0 (lxr s.2.2).length (Jcb (lxr s.2.2))),(0,.int .i64 (Yb l s.2.1:Nat))] 45) (hp:=fun s=>[.arr 3 (lxr s.2.2)]) (μ:=fun s=>s.1) (l.length+1,0,[]) [0] ⟨by simp,by simp,by simp,hR⟩ rfl ?_ rfl ?_
  ·simp[forget,JF,ren,Jo,gp,lxr,Jcb]
  ·rintro ⟨n,b,acc⟩ ⟨h1,h2,h3,hinv⟩
   dsimp only at h1 h2 h3 hinv ⊢
   have hge:=gapE_ge l b
   by_cases hlt:Yb l b < l.length
   ·have d1:(((Yb l b:Nat):Int) < (l.length:Int))=True:=Jn
    obtain ⟨n,rfl⟩:∃ n',n=n' + 1:=⟨n-1,by omega⟩
    rw[rdF,if_pos hlt]at hinv
    have hT:=refAt l (Yb l b) hlt hl
    have htl:=tk_len hlt
    have hte:=tk_end hlt
    generalize Yb l b=at_ at *
    simp -implicitDefEqProofs only[go_sem,d1]
    refine JV hT ?_
    clear hT
    generalize tkL l at_=T at hinv htl hte ⊢
    obtain ⟨k,x,ok⟩:=T
    dsimp only at hinv htl hte ⊢
    cases ok with
    |false=>
     rw[if_neg (by simp)]at hinv
     rw[hinv]
     simp -implicitDefEqProofs only[go_sem,lxz,splice]
     exact .inr ⟨2,3,[],rfl,rfl,Jc6 rfl rfl rfl⟩
    |true=>
     rw[if_pos rfl]at hinv
     by_cases h9:acc.length=900
     ·have d2:(((lxr acc).length:Int) == 900)=true:=by rw[beq_iff_eq,Jbc]; omega
      rw[if_pos h9]at hinv
      rw[hinv]
      simp -implicitDefEqProofs only[go_sem,lxz,splice,d2]
      exact .inr ⟨2,3,[],rfl,rfl,Jc6 rfl rfl rfl⟩
     ·have d2:(((lxr acc).length:Int) == 900)=false:=by rw[beq_eq_false_iff_ne,Jbc]; omega
      rw[if_neg h9]at hinv
      simp -implicitDefEqProofs only[go_sem,lxz,splice,d2,JJ]
      refine ⟨⟨by rw[Jbc]; omega,by rw[Jbc]; omega⟩,?_⟩
      have hG:=refGap l (at_+x.length) hte hl
      refine JV hG ?_
      simp -implicitDefEqProofs only[go_sem]
      have hpos:=htl rfl
      have hac:Jcb (lxr (acc++[(k,x,at_)]))=none:=by rw[lxr_app,JaL]
      have hal:(lxr acc).length+1=(lxr (acc++[(k,x,at_)])).length:=by simp[Jbc]
      refine ⟨(n,at_+x.length,acc++[(k,x,at_)]),[3],⟨hte,by simp only; omega,by simp; omega,hinv⟩,by simp only; omega,rfl,?_,?_⟩
      ·simp only[Kw,Gp,Gq,go_sem,Jp]
       have hc:=Jb (ρ:=[3]) (Jcu (acc++[(k,x,at_)]))
       rw[lxr_app]at hc ⊢
       simp only[lxz]at hc ⊢
       rw[hc]
      ·simp only[hac,hal]
       simp[forget,JF,ren,Jo]
   ·have d1:(((Yb l b:Nat):Int) < (l.length:Int))=False:=Jj
    have hR2:R=(acc,0,0):=by
     rw[hinv]
     cases n with
     |zero=>rfl
     |succ n=>rw[rdF,if_neg hlt]
    rw[hR2]
    simp -implicitDefEqProofs only[go_sem,d1]
    exact .inr ⟨0,3,lxr acc,rfl,Jcu _,Jc6 rfl rfl rfl⟩
theorem refKind (l:List UInt8) (hl:l.length≤1000000):Fn Gc 79 [S l] (.int .u8 (kindR l)):=by
 refine Ja c79_ok rfl rfl fun N=>?_
 simp -implicitDefEqProofs only[c79,go_sem]
 refine JV (refRead l hl) ?_
 simp -implicitDefEqProofs only[go_sem]
 unfold kindR
 obtain ⟨ts,p,e⟩:=JcU l
 simp only
 cases he:(e != 0) with
 |true=>
  have he2:e≠0:=by simpa using he
  simp -implicitDefEqProofs only[go_sem]
  split
  ·rename_i h; cases h; rw[if_neg (fun h=>he2 h.1)]; rfl
  ·rfl
 |false=>
  have he2:e=0:=by simpa using he
  subst he2
  match ts with
  |[]=>
   simp -implicitDefEqProofs only[go_sem,Jbc,List.length_nil]
  |t::u::r=>
   have hn:(((r.length+1+1:Nat):Int) != 1)=true:=by rw[bne_iff_ne]; omega
   simp -implicitDefEqProofs only[go_sem,Jbc,hn]
  |[t]=>
   obtain ⟨k,x,a⟩:=t
   by_cases hx:x=l
   ·have e1:(x == l)=true:=by simp[hx]
    simp -implicitDefEqProofs only[go_sem,lxr,lxz,Gp,Gq,e1,show (((1:Nat):Int) != 1)=false from rfl]
    simp[hx]
   ·have e1:(x == l)=false:=by simp[hx]
    simp -implicitDefEqProofs only[go_sem,lxr,lxz,Gp,Gq,e1,show (((1:Nat):Int) != 1)=false from rfl]
    simp[hx]
end
end Go.Cm
end
end
