/-
  A part of the proof. Conditions: none.
-/
import Derived.Test.YtaiboeciecfgoaaGreatDoorMP3
set_option linter.unusedSimpArgs false
set_option linter.unusedVariables false
open List renaming getD_eq_getElem?_getD→Gc,drop_eq_getElem_cons→Gd,getElem?_eq_getElem→Gf,drop_eq_nil_of_le→Gh,take_length→Gi,getElem?_eq_some_iff→Gr,map_cons→Gn,map_nil→Gp,length_pos_iff→Gs,getElem?_set→Gt,length_take→Gu,length_drop→Gv,getElem_mem→Gw,all_eq_true→Gx,drop_zero→Gy,length→Gz
open Bool renaming or_eq_false_iff→Gj,and_eq_true→Gl,true_or→Gm,or_false→Gq,not_eq_true'→GA,eq_iff_iff→GD
open Nat renaming le_of_lt→Ga,le_refl→Gb,zero_add→GG
open Int renaming cast_ofNat_Int→Gg
noncomputable section
section
set_option maxRecDepth 100000
set_option maxHeartbeats 4000000
open Go.Proofs
namespace Go.Cm
def Jgo:Bool→List UInt8→Nat
 |_,[]=>0
 |false,c::l=>if isBk c=true then Jgo false l+1 else if c=126 then Jgo true l+1 else 0
 |true,c::l=>if c=10 then Jgo false l+1 else Jgo true l+1
def Ya (l:List UInt8) (a:Nat):Nat:=a+Jgo false (l.drop a)
theorem gapE_ge (l:List UInt8) (a:Nat):a≤Ya l a:=by unfold Ya; omega
theorem Jgp {l:List UInt8}{a:Nat}(h:l.length≤a):Ya l a=a:=by
 unfold Ya; rw[Gh h]; simp[Jgo]
def badB (c:UInt8):Bool:=!(c == 10) && (decide (c.toNat < 32) || decide (126 < c.toNat))
def badE (l:List UInt8) (i:Nat):Nat×Int:=match l with
 |[]=>(0,0)
 |c::r=>if badB c=true then (i,4) else badE r (i+1)
def Xv (l:List UInt8):Nat×Int:=if 2500 < l.length then (0,5) else badE l 0
def rdF (l:List UInt8):Nat→Nat→List (Nat×List UInt8×Nat)→List (Nat×List UInt8×Nat)×Nat×Int
 |0,_,acc=>(acc,0,0)
 |n+1,a,acc=>
  if Ya l a < l.length then
   (if (tkL l (Ya l a)).2.2=true then (if acc.length=900 then ([],Ya l a,5) else rdF l n (Ya l a+(tkL l (Ya l a)).2.1.length) (acc++[((tkL l (Ya l a)).1,(tkL l (Ya l a)).2.1,Ya l a)])) else ([],Ya l a,4))
  else (acc,0,0)
def JcQ (l:List UInt8):List (Nat×List UInt8×Nat)×Nat×Int:=if (Xv l).2≠0 then ([],(Xv l).1,(Xv l).2) else rdF l (l.length+1) 0 []
def kindR (l:List UInt8):Nat:=match JcQ l with
 |([t],_,e)=>if e=0∧t.2.1=l then t.1 else 0
 |_=>0
theorem rdF_pre {l:List UInt8}:∀ (n a:Nat) (acc r:List (Nat×List UInt8×Nat)) (p:Nat),rdF l n a acc=(r,p,0)→∃ s,r=acc++s
 |0,a,acc,r,p,h=>by
  simp only[rdF,Prod.mk.injEq]at h
  exact ⟨[],by rw[← h.1]; simp⟩
 |n+1,a,acc,r,p,h=>by
  simp only[rdF]at h
  split at h
  ·split at h
   ·split at h
    ·simp at h
    ·obtain ⟨s,hs⟩:=rdF_pre n _ _ r p h
     exact ⟨_,by rw[hs,List.append_assoc]⟩
   ·simp at h
  ·simp only[Prod.mk.injEq]at h
   exact ⟨[],by rw[← h.1]; simp⟩
theorem badB_alnum {c:UInt8}(h:Kq c=true):badB c=false:=by
 simp only[Kq,isLt,QO,Bool.or_eq_true,Gl,decide_eq_true_eq]at h
 have h1:¬ c.toNat < 32:=by omega
 have h2:¬ 126 < c.toNat:=by omega
 simp[badB,h1,h2]
theorem badE_none:∀ (l:List UInt8) (i:Nat),(∀ c∈l,badB c=false)→badE l i=(0,0)
 |[],i,_=>rfl
 |c::l,i,h=>by
  simp only[badE]
  rw[if_neg (by rw[h c (by simp)]; simp)]
  exact badE_none l (i+1) fun x hx=>h x (by simp[hx])
theorem tk_name {l:List UInt8}{a:Nat}(h:(tkL l a).1=2):isLt (l.getD a 0)=true∧tkL l a=(2,cut l a (Qu Kq l a),decide ((cut l a (Qu Kq l a)).length≤12))∧kws.contains (cut l a (Qu Kq l a))=false:=by
 unfold tkL at h ⊢
 by_cases h1:isLt (l.getD a 0)=true
 ·rw[if_pos h1]at h ⊢
  by_cases h2:kws.contains (cut l a (Qu Kq l a))=true
  ·rw[if_pos h2]at h; simp at h
  ·rw[if_neg h2]
   exact ⟨h1,rfl,by simpa using h2⟩
 ·rw[if_neg h1]at h
  split at h <;> simp at h
theorem kindR_name (l:List UInt8):(kindR l == 2)=JcU l:=by
 rw[GD,beq_iff_eq]
 constructor
 ·intro h
  unfold kindR at h
  split at h
  ·rename_i t p e he
   split at h
   ·rename_i hc
    obtain ⟨he0,ht⟩:=hc
    subst he0
    unfold JcQ at he
    split at he
    ·simp only[Prod.mk.injEq]at he
     simp at he
    ·simp only[rdF]at he
     split at he
     ·rename_i hlt
      split at he
      ·rename_i hok
       split at he
       ·simp at he
       ·obtain ⟨s,hs⟩:=rdF_pre _ _ _ _ _ he
        simp only[List.nil_append,List.cons_append,List.cons.injEq]at hs
        obtain ⟨rfl,-⟩:=hs
        dsimp only at ht h
        obtain ⟨k1,k2,k3⟩:=tk_name h
        rw[k2]at ht hok
        dsimp only at ht hok
        have hE:=X6 (q:=Kq) (Ga hlt)
        have hge:Ya l 0≤Qu Kq l (Ya l 0):=by unfold Qu; omega
        have hcl:=Jaq hge hE
        rw[ht]at hcl k3 hok
        have h0:Ya l 0=0:=by omega
        rw[h0]at ht k1
        have hal:=JbC.1 ht
        have hne:l≠[]:=by rintro rfl; simp at hlt
        unfold JcU
        rw[k1,hal,k3,hok]
        simp[hne]
      ·simp at he
     ·simp at he
   ·simp at h
  ·simp at h
 ·intro h
  unfold JcU at h
  simp only[Gl,GA,beq_eq_false_iff_ne,decide_eq_true_eq]at h
  obtain ⟨⟨⟨⟨h1,h2⟩,h3⟩,h4⟩,h5⟩:=h
  have hb:Xv l=(0,0):=by
   unfold Xv
   rw[if_neg (by omega)]
   exact badE_none l 0 fun c hc=>badB_alnum (Gx.1 h2 c hc)
  have hpos:0 < l.length:=Gs.2 h5
  have hg:Ya l 0=0:=by
   unfold Ya
   cases l with
   |nil=>rfl
   |cons c r=>
    have hg:=lt_gp (c:=c) (by simpa using h1)
    simp only[isGp,Gj,beq_eq_false_iff_ne]at hg
    simp only[Gy,Jgo,hg.1,Bool.false_eq_true,if_false,if_neg hg.2]
  have hcut:cut l 0 (Qu Kq l 0)=l:=JbC.2 h2
  have hT:tkL l 0=(2,l,true):=by
   unfold tkL
   rw[if_pos h1,hcut,if_neg (by rw[h3]; simp),decide_eq_true h4]
  have hend:Ya l l.length=l.length:=Jgp (Gb _)
  have hr:JcQ l=([(2,l,0)],0,0):=by
   unfold JcQ
   rw[hb,if_neg (by simp)]
   obtain ⟨n,hn⟩:∃ n,l.length=n+1:=⟨l.length-1,by omega⟩
   have e1:rdF l (l.length+1) 0 []=rdF l l.length (0+l.length) ([]++[(2,l,0)]):=by
    rw[rdF,hg,if_pos hpos,hT,if_pos rfl,if_neg (by simp)]
   have e2:rdF l (n+1) (0+l.length) ([]++[(2,l,0)])=([(2,l,0)],0,0):=by
    rw[rdF,GG,hend,if_neg (by omega)]
    rfl
   rw[e1,← e2,← hn]
  unfold kindR
  rw[hr]
  simp
theorem JZ (c:UInt8):Fn Tryz.prog 166 [.int .u8 c.toNat] (.bool (isLt c)):=by
 refine Ja c166_ok rfl rfl fun N=>?_
 have h1:=dle 97 c
 have h2:=dge 122 c
 simp only[Gg]at h1 h2
 simp +contextual only[c166,go_sem,h1,h2,isLt]
theorem KJ (c:UInt8):Fn Tryz.prog 165 [.int .u8 c.toNat] (.bool (QO c)):=by
 refine Ja c165_ok rfl rfl fun N=>?_
 have h1:=dle 48 c
 have h2:=dge 57 c
 simp only[Gg]at h1 h2
 simp +contextual only[c165,go_sem,h1,h2,QO]
theorem refHas (l:List (List UInt8)) (s:List UInt8) (hl:l.length≤100000):Fn Tryz.prog 169 [.rslc 1 (sz l) none,S s] (.bool (l.contains s)):=by
 refine Ja c169_ok rfl rfl fun N=>?_
 simp -implicitDefEqProofs only[c169,go_sem]
 refine Jz (I:=fun i:Nat=>i≤l.length∧l.contains s=(l.drop i).contains s) (inv:=fun i=>gp [(0,.rslc 1 (sz l) none),(0,S s),(3,.int .i64 (i:Int))] 12) (hp:=fun _=>[]) (μ:=fun i=>l.length-i) 0 ⟨by omega,rfl⟩ ?_ rfl ?_
 ·simp[forget,gp]
 ·rintro i ⟨hi,hinv⟩
  by_cases hlt:i < l.length
  ·have d1:((i:Int) < (l.length:Int))=True:=Jn
   simp -implicitDefEqProofs only[go_sem,YZ,d1]
   rw[sz_get hlt]
   refine ⟨by omega,?_⟩
   rw[Gd hlt,List.contains_cons]at hinv
   rw[show l.getD i []=l[i] by rw[Gc,Gf hlt]; rfl]
   generalize l[i]=x at hinv ⊢
   have hsym:(x == s)=(s == x):=by rw[GD,beq_iff_eq,beq_iff_eq]; exact eq_comm
   cases hx:(x == s) with
   |true=>
    rw[← hsym,hx,Gm]at hinv
    simp -implicitDefEqProofs only[go_sem,hx,hinv]
   |false=>
    rw[← hsym,hx,Bool.false_or]at hinv
    simp -implicitDefEqProofs only[go_sem,hx]
    refine ⟨Ji,i+1,⟨by omega,hinv⟩,by omega,?_⟩
    simp[forget]
  ·have d1:((i:Int) < (l.length:Int))=False:=Jk
   rw[Gh (by omega)]at hinv
   simp -implicitDefEqProofs only[go_sem,YZ,d1,hinv]
   try rfl
theorem refLexCheck (l:List UInt8) (hl:l.length≤1000000):Fn Tryz.prog 131 [S l] (.tup [.int .i64 ((Xv l).1:Nat),.int .i64 (Xv l).2]):=by
 refine Ja c131_ok rfl rfl fun N=>?_
 by_cases hbig:2500 < l.length
 ·have d0:((2500:Int) < (l.length:Int))=True:=Jn
  have hc:Xv l=(0,5):=by unfold Xv; rw[if_pos hbig]
  simp -implicitDefEqProofs only[c131,go_sem,d0,hc]
  try rfl
 ·have d0:((2500:Int) < (l.length:Int))=False:=Jk
  have hc:Xv l=badE l 0:=by unfold Xv; rw[if_neg hbig]
  simp -implicitDefEqProofs only[c131,go_sem,d0,hc]
  refine Jz (I:=fun i:Nat=>i≤l.length∧badE l 0=badE (l.drop i) i) (inv:=fun i=>gp [(0,S l),(3,.int .i64 (i:Int))] 26) (hp:=fun _=>[]) (μ:=fun i=>l.length-i) 0 ⟨by omega,rfl⟩ ?_ rfl ?_
  ·simp[forget,gp]
  ·rintro i ⟨hi,hinv⟩
   by_cases hlt:i < l.length
   ·have d1:((i:Int) < (l.length:Int))=True:=Jn
    rw[Gd hlt,badE]at hinv
    have hg:l.getD i 0=l[i]:=by rw[Gc,Gf hlt]; rfl
    rw[← hg]at hinv
    simp -implicitDefEqProofs only[go_sem,d1]
    generalize l.getD i 0=c at hinv ⊢
    have hne:=deq 10 (by decide) c
    simp only[Gg]at hne
    refine ⟨by omega,?_⟩
    by_cases h10:c=10
    ·have e1:((c.toNat:Int) != 10)=false:=by rw[bne,hne]; simp[h10]
     rw[if_neg (by simp[badB,h10])]at hinv
     simp -implicitDefEqProofs only[go_sem,e1]
     refine ⟨Ji,i+1,⟨by omega,hinv⟩,by omega,?_⟩
     simp[forget]
    ·have e1:((c.toNat:Int) != 10)=true:=by rw[bne,hne]; simp[h10]
     by_cases h32:c.toNat < 32
     ·have e2:((c.toNat:Int) < 32)=True:=Jn
      rw[if_pos (by simp[badB,h10,h32])]at hinv
      simp -implicitDefEqProofs only[go_sem,e1,e2,hinv]
      omega
     ·have e2:((c.toNat:Int) < 32)=False:=Jk
      by_cases h126:126 < c.toNat
      ·have e3:((126:Int) < (c.toNat:Int))=True:=Jn
       rw[if_pos (by simp[badB,h10,h126])]at hinv
       simp -implicitDefEqProofs only[go_sem,e1,e2,e3,hinv]
       omega
      ·have e3:((126:Int) < (c.toNat:Int))=False:=Jk
       rw[if_neg (by simp[badB,h32,h126])]at hinv
       simp -implicitDefEqProofs only[go_sem,e1,e2,e3]
       refine ⟨by omega,by omega,Ji,i+1,⟨by omega,hinv⟩,by omega,?_⟩
       simp[forget]
   ·have d1:((i:Int) < (l.length:Int))=False:=Jk
    rw[Gh (by omega)]at hinv
    simp -implicitDefEqProofs only[go_sem,d1,hinv,badE]
    try rfl
theorem refGap (l:List UInt8) (a:Nat) (ha:a≤l.length) (hl:l.length≤1000000):Fn Tryz.prog 132 [S l,.int .i64 (a:Int)] (.int .i64 (Ya l a:Nat)):=by
 refine Ja c132_ok rfl rfl fun N=>?_
 simp -implicitDefEqProofs only[c132,go_sem]
 refine Jz (I:=fun i:Nat=>i≤l.length∧Ya l a=Ya l i) (inv:=fun i=>gp [(0,S l),(0,.int .i64 (i:Int))] 39) (hp:=fun _=>[]) (μ:=fun i=>l.length-i) a ⟨ha,rfl⟩ ?_ rfl ?_
 ·simp[forget,gp]
 ·rintro i ⟨hi,hinv⟩
  by_cases hlt:i < l.length
  ·have d1:((i:Int) < (l.length:Int))=True:=Jn
   have hg:l.getD i 0=l[i]:=by rw[Gc,Gf hlt]; rfl
   have hstep:Ya l i=i+Jgo false (l.getD i 0::l.drop (i+1)):=by unfold Ya; rw[Gd hlt,hg]
   simp -implicitDefEqProofs only[go_sem,d1]
   obtain ⟨c,hc⟩:∃ c,c=l.getD i 0:=⟨_,rfl⟩
   rw[← hc]at hstep ⊢
   have q1:=deq 32 (by decide) c
   have q2:=deq 10 (by decide) c
   have q3:=deq 126 (by decide) c
   simp only[Gg]at q1 q2 q3
   refine ⟨by omega,?_⟩
   by_cases h32:c=32
   ·have e1:((c.toNat:Int) == 32)=true:=by rw[q1]; simp[h32]
    have hs:Ya l i=Ya l (i+1):=by
     rw[hstep,Jgo,if_pos (by simp[isBk,h32])]; unfold Ya; omega
    simp -implicitDefEqProofs only[go_sem,e1]
    refine ⟨Ji,i+1,⟨by omega,by rw[hinv,hs]⟩,by omega,?_⟩
    simp[forget]
   ·have e1:((c.toNat:Int) == 32)=false:=by rw[q1]; simp[h32]
    by_cases h10:c=10
    ·have e2:((c.toNat:Int) == 10)=true:=by rw[q2]; simp[h10]
     have hs:Ya l i=Ya l (i+1):=by
      rw[hstep,Jgo,if_pos (by simp[isBk,h10])]; unfold Ya; omega
     simp -implicitDefEqProofs only[go_sem,e1,e2,← hc]
     refine ⟨by omega,Ji,i+1,⟨by omega,by rw[hinv,hs]⟩,by omega,?_⟩
     simp[forget]
    ·have e2:((c.toNat:Int) == 10)=false:=by rw[q2]; simp[h10]
     by_cases h126:c=126
     ·have e3:((c.toNat:Int) == 126)=true:=by rw[q3]; simp[h126]
      have hs:Ya l i=i+Jgo true (l.drop i):=by
       rw[hstep,Gd hlt,← hg,← hc,Jgo,if_neg (by simp[isBk,h126]),if_pos h126,Jgo,if_neg h10]
      simp -implicitDefEqProofs only[go_sem,e1,e2,e3,← hc]
      refine ⟨by omega,by omega,?_⟩
      refine Jz (I:=fun j:Nat=>i≤j∧j≤l.length∧Ya l i=j+Jgo true (l.drop j)) (inv:=fun j=>gp [(0,S l),(0,.int .i64 (j:Int))] 39) (hp:=fun _=>[]) (μ:=fun j=>l.length-j) i ⟨by omega,by omega,hs⟩ ?_ rfl ?_
      ·simp[forget,gp]
      ·rintro j ⟨hij,hj,hjv⟩
       by_cases hjl:j < l.length
       ·have d2:((j:Int) < (l.length:Int))=True:=Jn
        have hgj:l.getD j 0=l[j]:=by rw[Gc,Gf hjl]; rfl
        rw[Gd hjl,← hgj]at hjv
        simp -implicitDefEqProofs only[go_sem,d2]
        have hji:j=i→l.getD j 0≠10:=by rintro rfl; rw[← hc]; exact h10
        obtain ⟨x,hxe⟩:∃ x,x=l.getD j 0:=⟨_,rfl⟩
        rw[← hxe]at hjv hji ⊢
        have q4:=deq 10 (by decide) x
        simp only[Gg]at q4
        refine ⟨by omega,?_⟩
        by_cases hx:x=10
        ·have e4:((x.toNat:Int) != 10)=false:=by rw[bne,q4]; simp[hx]
         rw[Jgo,if_pos hx]at hjv
         have hne:j≠i:=fun h=>hji h hx
         have hs2:Ya l i=Ya l j:=by
          rw[hjv]; unfold Ya
          rw[Gd hjl,← hgj,← hxe,Jgo,if_pos (by simp[isBk,hx])]
         simp -implicitDefEqProofs only[go_sem,e4]
         refine ⟨j,⟨by omega,by rw[hinv,hs2]⟩,by omega,?_⟩
         simp[forget]
        ·have e4:((x.toNat:Int) != 10)=true:=by rw[bne,q4]; simp[hx]
         rw[Jgo,if_neg hx]at hjv
         simp -implicitDefEqProofs only[go_sem,e4]
         refine ⟨Ji,j+1,⟨by omega,by omega,by omega⟩,by omega,?_⟩
         simp[forget]
       ·have d2:((j:Int) < (l.length:Int))=False:=Jk
        have hje:j=l.length:=by omega
        simp -implicitDefEqProofs only[go_sem,d2]
        refine ⟨j,⟨by omega,?_⟩,by omega,?_⟩
        ·rw[hinv,hjv,Jgp (by omega),Gh (by omega)]; simp[Jgo]
        ·simp[forget]
     ·have e3:((c.toNat:Int) == 126)=false:=by rw[q3]; simp[h126]
      have hs:Ya l i=i:=by
       rw[hstep,Jgo,if_neg (by simp[isBk,h32,h10]),if_neg h126]; rfl
      simp -implicitDefEqProofs only[go_sem,e1,e2,e3,← hc]
      refine ⟨by omega,by omega,?_⟩
      rw[hinv,hs]
  ·have d1:((i:Int) < (l.length:Int))=False:=Jk
   simp -implicitDefEqProofs only[go_sem,d1]
   rw[hinv,Jgp (by omega)]
theorem decA_take {l:List UInt8}{i:Nat}(h:i < l.length):Jbk 0 (l.take (i+1))=Jbk 0 (l.take i)*10+((l.getD i 0).toNat-48):=by
 rw[List.take_succ_eq_append_getElem h,JgE,Jap]
 rw[show l.getD i 0=l[i] by rw[Gc,Gf h]; rfl]
 rfl
theorem decA_pre {l:List UInt8}(i:Nat):Jbk 0 (l.take i)≤JbX l:=by
 have:JbX l=Jbk (Jbk 0 (l.take i)) (l.drop i):=by rw[← JgE,List.take_append_drop]; rfl
 rw[this]; exact JgD _ _
def numV (l:List UInt8):Int:=if Jbb l=true then (JbX l:Int) else -1
theorem numV_ok (l:List UInt8):decide (0≤numV l)=Jbb l:=by
 unfold numV
 split
 ·rename_i h; rw[h]; simp
 ·rename_i h; simp at h; rw[h]; rfl
theorem refNumber (l:List UInt8) (hd:l.all QO=true) (hl:l.length≤1000000):Fn Tryz.prog 168 [S l] (.int .i64 (numV l)):=by
 refine Ja c168_ok rfl rfl fun N=>?_
 simp -implicitDefEqProofs only[c168,go_sem]
 refine Jz (I:=fun i:Nat=>i≤l.length∧Jbk 0 (l.take i)≤1000000000) (inv:=fun i=>gp [(0,S l),(2,.int .i64 (Jbk 0 (l.take i):Nat)),(0,.int .i64 (i:Int))] 25) (hp:=fun _=>[]) (μ:=fun i=>l.length-i) 0 ⟨by omega,by simp[Jbk]⟩ ?_ rfl ?_
 ·simp[forget,gp,Jbk]
 ·rintro i ⟨hi,hinv⟩
  by_cases hlt:i < l.length
  ·have d1:((i:Int) < (l.length:Int))=True:=Jn
   have hdc:QO (l.getD i 0)=true:=by
    rw[Gc,Gf hlt]
    exact Gx.1 hd _ (Gw hlt)
   have hst:=decA_take hlt
   have hpre:=decA_pre (l:=l) (i+1)
   simp only[QO,Gl,decide_eq_true_eq]at hdc
   simp -implicitDefEqProofs only[go_sem,d1]
   generalize l.getD i 0=c at hdc hst ⊢
   generalize Jbk 0 (l.take i)=v at hinv hst ⊢
   rw[hst]at hpre
   refine ⟨Ji,by omega,⟨by show (0:Int)≤_; omega,by show _≤(255:Int); omega⟩,Ji,Ji,?_⟩
   by_cases hbig:1000000000 < v*10+(c.toNat-48)
   ·have d2:((1000000000:Int) < 10*(v:Int)+((c.toNat:Int)-48))=True:=Jn
    have hn:numV l = -1:=by
     unfold numV
     rw[if_neg]
     unfold Jbb
     rw[decide_eq_false (by omega)]; simp
    simp -implicitDefEqProofs only[go_sem,d2,hn]
   ·have d2:((1000000000:Int) < 10*(v:Int)+((c.toNat:Int)-48))=False:=Jk
    simp -implicitDefEqProofs only[go_sem,d2]
    refine ⟨Ji,i+1,⟨by omega,by omega⟩,by omega,?_⟩
    have e:((v*10+(c.toNat-48):Nat):Int)=10*(v:Int)+((c.toNat:Int)-48):=by omega
    rw[hst,e]
    simp[forget]
  ·have d1:((i:Int) < (l.length:Int))=False:=Jk
   have hie:i=l.length:=by omega
   subst hie
   rw[Gi]at hinv
   have hv:Jbk 0 l=JbX l:=rfl
   by_cases h1:1 < l.length
   ·have d2:((1:Int) < (l.length:Int))=True:=Jn
    simp -implicitDefEqProofs only[go_sem,d1,d2,Gi]
    have hq:=deq 48 (by decide) (l.getD 0 0)
    simp only[Gg]at hq
    have hh:l.head? = some (l.getD 0 0):=by cases l with
     |nil=>simp at h1
     |cons a r=>rfl
    by_cases h48:l.getD 0 0=48
    ·have e1:(((l.getD 0 0).toNat:Int) == 48)=true:=by rw[hq,h48]; rfl
     have hn:numV l = -1:=by
      unfold numV
      rw[if_neg]
      unfold Jbb
      rw[hh,h48]
      have:¬ (l.length=1∨some (48:UInt8)≠some 48):=by simp; omega
      rw[decide_eq_false this]; simp
     refine ⟨by omega,?_⟩
     simp -implicitDefEqProofs only[go_sem,e1,hn]
    ·have e1:(((l.getD 0 0).toNat:Int) == 48)=false:=by rw[hq]; exact beq_eq_false_iff_ne.2 h48
     have hn:numV l=JbX l:=by
      unfold numV
      rw[if_pos]
      unfold Jbb
      rw[hh]
      have:(l.length=1∨some (l.getD 0 0)≠some (48:UInt8)):=.inr (by simpa using h48)
      rw[decide_eq_true this,decide_eq_true (by omega)]; rfl
     refine ⟨by omega,?_⟩
     simp -implicitDefEqProofs only[go_sem,e1,hn,hv]
   ·have d2:((1:Int) < (l.length:Int))=False:=Jk
    have hn:numV l=JbX l:=by
     unfold numV
     rw[if_pos]
     unfold Jbb
     have:(l.length=1∨l.head?≠some (48:UInt8)):=by
      cases l with
      |nil=>right; simp
      |cons a r=>left; simp at h1; simp[h1]
     rw[decide_eq_true this,decide_eq_true (by omega)]; rfl
    simp -implicitDefEqProofs only[go_sem,d1,d2,Gi,hn,hv]
theorem cut_take (l:List UInt8) (a n:Nat):cut l a (a+n)=(l.drop a).take n:=by
 unfold cut; rw[List.drop_take,Nat.add_sub_cancel_left]
theorem refSign (l:List UInt8) (a:Nat) (ha:a < l.length) (hl:l.length≤1000000):Fn Tryz.prog 167 [S l,.int .i64 (a:Int)] (.tup [.agg (lxz 4 (sgnL (l.drop a)) a),.int .i64 ((a+(sgnL (l.drop a)).length:Nat):Int),.bool (!(sgnL (l.drop a) == []))]):=by
 refine Ja c167_ok rfl rfl fun N=>?_
 simp -implicitDefEqProofs only[c167,go_sem]
 refine JU apiSigns ?_
 simp -implicitDefEqProofs only[go_sem]
 have hsl:sgs.length=26:=rfl
 have hbl:=sgnF_len (r:=l.drop a) sgs [] (by simp) sgs_len
 have hend:(sgnL (l.drop a)).length≤2:=hbl
 refine Jz (σ:=Nat×List UInt8) (I:=fun s=>s.1≤sgs.length∧sgnL (l.drop a)=sgnF (l.drop a) (sgs.drop s.1) s.2) (inv:=fun s=>gp [(0,S l),(0,.int .i64 (a:Int)),(2,.ptr 0 0 0),(2,S s.2),(0,.rslc 1 (sz sgs) none),(0,.int .i64 (s.1:Int))] 51) (hp:=fun s=>[.arr 3 [[.int .u8 0,S [],.int .i64 0]]]) (μ:=fun s=>sgs.length-s.1) (0,[]) ⟨by omega,rfl⟩ ?_ rfl ?_
 ·simp[forget,gp]
 ·rintro ⟨i,b⟩ ⟨hi,hinv⟩
  simp only at hi hinv
  by_cases hlt:i < sgs.length
  ·have d1:((i:Int) < (sgs.length:Int))=True:=Jn
   simp -implicitDefEqProofs only[go_sem,YZ,d1]
   have hgs:=sz_get hlt
   have hsl2:=sgs_len _ (Gw hlt)
   rw[Gd hlt,sgnF]at hinv
   rw[show sgs.getD i []=sgs[i] by rw[Gc,Gf hlt]; rfl]at hgs
   generalize sgs[i]=s at hinv hgs hsl2 ⊢
   rw[hgs]
   refine ⟨by omega,?_⟩
   simp -implicitDefEqProofs only[go_sem]
   refine JV JD (by decide) ?_
   by_cases hb:b.length < s.length
   ·have d2:((b.length:Int) < (s.length:Int))=True:=Jn
    by_cases hin:a+s.length≤l.length
    ·have d3:((a:Int)+(s.length:Int)≤(l.length:Int))=True:=Jn
     have htn:((a:Int)+(s.length:Int)).toNat=a+s.length:=by omega
     have hcut:List.drop a (List.take (a+s.length) l)=(l.drop a).take s.length:=cut_take l a s.length
     by_cases hp:(l.drop a).take s.length=s
     ·have e1:((l.drop a).take s.length == s)=true:=beq_iff_eq.2 hp
      rw[if_pos ⟨hp,hb⟩]at hinv
      simp -implicitDefEqProofs only[go_sem,YZ,d2,d3,hgs,htn,hcut,e1]
      refine ⟨Ji,Ji,by omega,by omega,by omega,Ji,(i+1,s),⟨by simp only; omega,hinv⟩,by simp only; omega,?_⟩
      simp[forget]
     ·have e1:((l.drop a).take s.length == s)=false:=beq_eq_false_iff_ne.2 hp
      rw[if_neg (fun h=>hp h.1)]at hinv
      simp -implicitDefEqProofs only[go_sem,YZ,d2,d3,hgs,htn,hcut,e1]
      refine ⟨Ji,Ji,by omega,by omega,Ji,(i+1,b),⟨by simp only; omega,hinv⟩,by simp only; omega,?_⟩
      simp[forget]
    ·have d3:((a:Int)+(s.length:Int)≤(l.length:Int))=False:=Jk
     have hp:(l.drop a).take s.length≠s:=by
      intro e
      have:=congrArg Gz e
      rw[Gu,Gv]at this
      omega
     rw[if_neg (fun h=>hp h.1)]at hinv
     simp -implicitDefEqProofs only[go_sem,YZ,d2,d3,hgs]
     refine ⟨Ji,Ji,(i+1,b),⟨by simp only; omega,hinv⟩,by simp only; omega,?_⟩
     simp[forget]
   ·have d2:((b.length:Int) < (s.length:Int))=False:=Jk
    rw[if_neg (fun h=>hb h.2)]at hinv
    simp -implicitDefEqProofs only[go_sem,YZ,d2,hgs]
    refine ⟨Ji,(i+1,b),⟨by simp only; omega,hinv⟩,by simp only; omega,?_⟩
    simp[forget]
  ·have d1:((i:Int) < (sgs.length:Int))=False:=Jk
   have:i=sgs.length:=by omega
   subst this
   rw[List.drop_length,sgnF]at hinv
   rw[hinv]at hend ⊢
   simp -implicitDefEqProofs only[go_sem,YZ,d1]
   refine ⟨Ji,?_⟩
   simp only[lxz]
   rfl
def qAt (c:UInt8):UInt8→Bool:=if isLt c=true then Kq else QO
section
theorem Jf1 {q:UInt8→Bool}{l:List UInt8}:∀ (n a i:Nat),n=i-a→a≤i→i < Qu q l a→i < l.length→q (l.getD i 0)=true
 |0,a,i,hn,h1,h2,h3=>by
  have:a=i:=by omega
  subst this
  cases hq:q (l.getD a 0) with
  |true=>rfl
  |false=>rw[JdC h3 hq]at h2; omega
 |n+1,a,i,hn,h1,h2,h3=>by
  cases hq:q (l.getD a 0) with
  |true=>rw[Jc2 (by omega) hq]at h2; exact Jf1 n (a+1) i (by omega) (by omega) h2 h3
  |false=>rw[JdC (by omega) hq]at h2; omega
theorem Jc3 {q:UInt8→Bool}{l:List UInt8}:∀ (n a:Nat),n=l.length-a→Qu q l a < l.length→q (l.getD (Qu q l a) 0)=false
 |0,a,hn,h=>by
  have:a≤Qu q l a:=by unfold Qu; omega
  omega
 |n+1,a,hn,h=>by
  have:a≤Qu q l a:=by unfold Qu; omega
  cases hq:q (l.getD a 0) with
  |true=>rw[Jc2 (by omega) hq]at h ⊢; exact Jc3 n (a+1) (by omega) h
  |false=>rw[JdC (by omega) hq]; exact hq
theorem lt_dg {c:UInt8}(h:isLt c=true):QO c=false:=by
 simp only[isLt,Gl,decide_eq_true_eq]at h
 have:¬ c.toNat≤57:=by omega
 simp[QO,this]
section
variable {P:Program}{E:Env}{H:List CObj}{T:List CV}
theorem hs_st {d:Option Nat}{n:Nat}{a v:IArg}{id i off z:Nat}{els:List (List CV)}{cs:List CV}(ha:JR T a=.ptr id i off) (hv:(JR T v).cells=some cs) (hH:H[id]? = some (.arr z els)) (hn:cs.length=n∧KX cs=true) (hc:i+1≤els.length∧off+n≤(els.getD i []).length) :
  HS P E ⟨d,.store n a v,none⟩ T H .un (H.set id (.arr z (els.set i (splice (els.getD i []) off cs)))) (.on [id+1],.on [id+1]):=by
 refine ⟨fun x hx=>?_,fun T2 H2 hag hx=>?_⟩
 ·cases x with
  |zero=>simp[hat]
  |succ x=>
   have hne:¬ id=x:=fun e=>hx (by simp[Foot.has,e])
   simp[hat,Gt,hne]
 ·have hH2:H2[id]? = some (.arr z els):=by
   have:=hx (id+1) (by simp[Foot.has])
   simpa [hat,hH]using this
  refine ⟨H2.set id (.arr z (els.set i (splice (els.getD i []) off cs))),fun x hx=>?_,fun x hx=>?_,fun _ _ _ _ _ hok=>JcR (.inl rfl) (c:=.and (.le (i+1) els.length) (.le (off+n) (els.getD i []).length)) (v:=.un) ?_ hc hok⟩
  ·simp only[Foot.has,List.mem_cons,List.not_mem_nil,or_false]at hx
   subst hx
   have h1:=(Gr.1 hH).1
   have h2:=(Gr.1 hH2).1
   simp[hat,h1,h2]
  ·cases x with
   |zero=>simp[hat]
   |succ x=>
    have hne:¬ id=x:=fun e=>hx (by simp[Foot.has,e])
    simp[hat,Gt,hne]
  ·rw[← Ky (Jh hag).2]
   simp only[exec,ha,hv,hH2]
   rw[if_pos hn]
end
theorem refAtS (l:List UInt8) (a:Nat) (ha:a < l.length) (hl:l.length≤1000000) (h1:isLt (l.getD a 0)=false) (h2:QO (l.getD a 0)=false):Fn Tryz.prog 133 [S l,.int .i64 (a:Int)] (.tup [.agg (lxz (tkL l a).1 (tkL l a).2.1 a),.int .i64 ((a+(tkL l a).2.1.length:Nat):Int),.bool (tkL l a).2.2]):=by
 refine Ja c133_ok rfl rfl fun N=>?_
 simp -implicitDefEqProofs only[c133,go_sem]
 obtain ⟨c0,hc0⟩:∃ c,c=l.getD a 0:=⟨_,rfl⟩
 obtain ⟨q,hq⟩:∃ q,q=qAt c0:=⟨_,rfl⟩
 have hq2:q=QO:=by rw[hq,qAt,hc0]; first | rw[if_pos h1] | rw[if_neg (by rw[h1]; simp)]
 obtain ⟨E,hE⟩:∃ E,E=Qu q l a:=⟨_,rfl⟩
 have hEl:E≤l.length:=by rw[hE]; exact X6 (Ga ha)
 have hEg:a≤E:=by rw[hE]; unfold Qu; omega
 have hin:∀ i,a≤i→i < E→q (l.getD i 0)=true:=fun i h1 h2=>Jf1 _ a i rfl h1 (by rw[← hE]; exact h2) (by omega)
 have hout:E < l.length→q (l.getD E 0)=false:=fun h=>by rw[hE]at h ⊢; exact Jc3 _ a rfl h
 have hEa:E=a:=by rw[hE,hq2]; exact JdC ha h2
 have hT:tkL l a=(4,sgnL (l.drop a),!(sgnL (l.drop a) == [])):=by
  unfold tkL; rw[if_neg (by rw[h1]; simp),if_neg (by rw[h2]; simp)]
 rw[hT]
 have hia:((E:Int) == (a:Int))=true:=by rw[hEa]; simp
 refine Jz (I:=fun i:Nat=>a≤i∧i≤E) (inv:=fun i=>gp [(0,S l),(0,.int .i64 (a:Int)),(2,.ptr 0 0 0),(2,.int .i64 (i:Int))] 69) (hp:=fun _=>[.arr 3 [[.int .u8 0,S [],.int .i64 0]]]) (μ:=fun i=>l.length-i) a ⟨by omega,by omega⟩ ?_ rfl ?_
 ·simp[forget,gp]
 ·rintro i ⟨hai,hi⟩
  by_cases hgo:i < E
  ·have hlt:i < l.length:=by omega
   have d1:((i:Int) < (l.length:Int))=True:=Jn
   have hqi:=hin i hai hgo
   simp -implicitDefEqProofs only[go_sem,d1]
   refine ⟨by omega,?_⟩
   refine JE (gok rfl) (KJ _) ?_
   cases hdg:QO (l.getD i 0) with
   |true=>
    simp -implicitDefEqProofs only[go_sem]
    refine ⟨Ji,i+1,⟨by omega,by omega⟩,by omega,?_⟩
    simp[forget]
   |false=>
    rw[hq,qAt]at hqi
    by_cases hl0:isLt c0=true
    ·rw[if_pos hl0]at hqi
     simp only[Kq,hdg,Gq]at hqi
     simp -implicitDefEqProofs only[go_sem]
     refine ⟨by omega,?_⟩
     refine JE (gok rfl) (JZ _) ?_
     simp -implicitDefEqProofs only[go_sem,hqi]
     refine ⟨by omega,?_⟩
     rw[← hc0]
     refine JE (gok rfl) (JZ _) ?_
     simp -implicitDefEqProofs only[go_sem,hl0]
     refine ⟨Ji,i+1,⟨by omega,by omega⟩,by omega,?_⟩
     simp[forget]
    ·rw[if_neg hl0,hdg]at hqi; cases hqi
  ·have hie:i=E:=by omega
   subst hie
   rcases (show l.length≤i∨(i < l.length∧QO (l.getD i 0)=false∧isLt (l.getD i 0)=false)∨(i < l.length∧QO (l.getD i 0)=false∧isLt (l.getD i 0)=true∧isLt c0=false) from by
    by_cases h1:i < l.length
    ·have h2:=hout h1
     rw[hq,qAt]at h2
     by_cases hl0:isLt c0=true
     ·rw[if_pos hl0]at h2
      simp only[Kq,Gj]at h2
      exact .inr (.inl ⟨h1,h2.2,h2.1⟩)
     ·rw[if_neg hl0]at h2
      cases h3:isLt (l.getD i 0) with
      |true=>exact .inr (.inr ⟨h1,h2,rfl,by simpa using hl0⟩)
      |false=>exact .inr (.inl ⟨h1,h2,rfl⟩)
    ·exact .inl (by omega)) with hw | ⟨hw1,hw2,hw3⟩ | ⟨hw1,hw2,hw3,hw4⟩
   case' inl=>
    have d1:((i:Int) < (l.length:Int))=False:=Jk
    simp -implicitDefEqProofs only[go_sem,d1,hia]
   case' inr.inl=>
    have d1:((i:Int) < (l.length:Int))=True:=Jn
    simp -implicitDefEqProofs only[go_sem,d1]
    refine ⟨by omega,?_⟩
    refine JE (gok rfl) (KJ _) ?_
    simp -implicitDefEqProofs only[go_sem,hw2]
    refine ⟨by omega,?_⟩
    refine JE (gok rfl) (JZ _) ?_
    simp -implicitDefEqProofs only[go_sem,hw3,hia]
   case' inr.inr=>
    have d1:((i:Int) < (l.length:Int))=True:=Jn
    simp -implicitDefEqProofs only[go_sem,d1]
    refine ⟨by omega,?_⟩
    refine JE (gok rfl) (KJ _) ?_
    simp -implicitDefEqProofs only[go_sem,hw2]
    refine ⟨by omega,?_⟩
    refine JE (gok rfl) (JZ _) ?_
    simp -implicitDefEqProofs only[go_sem,hw3]
    refine ⟨by omega,?_⟩
    rw[← hc0]
    refine JE (gok rfl) (JZ _) ?_
    simp -implicitDefEqProofs only[go_sem,hw4,hia]
   all_goals (
    refine ⟨by omega,?_⟩
    refine JU (refSign l a ha hl) ?_
    simp -implicitDefEqProofs only[go_sem,lxz,splice]
   )
theorem refAtL (l:List UInt8) (a:Nat) (ha:a < l.length) (hl:l.length≤1000000) (h1:isLt (l.getD a 0)=true):Fn Tryz.prog 133 [S l,.int .i64 (a:Int)] (.tup [.agg (lxz (tkL l a).1 (tkL l a).2.1 a),.int .i64 ((a+(tkL l a).2.1.length:Nat):Int),.bool (tkL l a).2.2]):=by
 refine Ja c133_ok rfl rfl fun N=>?_
 simp -implicitDefEqProofs only[c133,go_sem]
 obtain ⟨c0,hc0⟩:∃ c,c=l.getD a 0:=⟨_,rfl⟩
 obtain ⟨q,hq⟩:∃ q,q=qAt c0:=⟨_,rfl⟩
 have hq2:q=Kq:=by rw[hq,qAt,hc0]; first | rw[if_pos h1] | rw[if_neg (by rw[h1]; simp)]
 obtain ⟨E,hE⟩:∃ E,E=Qu q l a:=⟨_,rfl⟩
 have hEl:E≤l.length:=by rw[hE]; exact X6 (Ga ha)
 have hEg:a≤E:=by rw[hE]; unfold Qu; omega
 have hin:∀ i,a≤i→i < E→q (l.getD i 0)=true:=fun i h1 h2=>Jf1 _ a i rfl h1 (by rw[← hE]; exact h2) (by omega)
 have hout:E < l.length→q (l.getD E 0)=false:=fun h=>by rw[hE]at h ⊢; exact Jc3 _ a rfl h
 have h2:=lt_dg h1
 have hEa:a < E:=by rw[hE,hq2]; exact Ja5 ha (by simp only[Kq,h1,Gm])
 have hT:tkL l a=if kws.contains (cut l a E)=true then (1,cut l a E,true) else (2,cut l a E,decide ((cut l a E).length≤12)):=by
  unfold tkL; rw[if_pos h1,hE,hq2]
 have hcl:=Jaq hEg hEl
 have hcut:(l.take E).drop a=cut l a E:=rfl
 rw[hT]
 have hia:((E:Int) == (a:Int))=false:=by rw[beq_eq_false_iff_ne]; omega
 refine Jz (I:=fun i:Nat=>a≤i∧i≤E) (inv:=fun i=>gp [(0,S l),(0,.int .i64 (a:Int)),(2,.ptr 0 0 0),(2,.int .i64 (i:Int))] 69) (hp:=fun _=>[.arr 3 [[.int .u8 0,S [],.int .i64 0]]]) (μ:=fun i=>l.length-i) a ⟨by omega,by omega⟩ ?_ rfl ?_
 ·simp[forget,gp]
 ·rintro i ⟨hai,hi⟩
  by_cases hgo:i < E
  ·have hlt:i < l.length:=by omega
   have d1:((i:Int) < (l.length:Int))=True:=Jn
   have hqi:=hin i hai hgo
   simp -implicitDefEqProofs only[go_sem,d1]
   refine ⟨by omega,?_⟩
   refine JE (gok rfl) (KJ _) ?_
   cases hdg:QO (l.getD i 0) with
   |true=>
    simp -implicitDefEqProofs only[go_sem]
    refine ⟨Ji,i+1,⟨by omega,by omega⟩,by omega,?_⟩
    simp[forget]
   |false=>
    rw[hq,qAt]at hqi
    by_cases hl0:isLt c0=true
    ·rw[if_pos hl0]at hqi
     simp only[Kq,hdg,Gq]at hqi
     simp -implicitDefEqProofs only[go_sem]
     refine ⟨by omega,?_⟩
     refine JE (gok rfl) (JZ _) ?_
     simp -implicitDefEqProofs only[go_sem,hqi]
     refine ⟨by omega,?_⟩
     rw[← hc0]
     refine JE (gok rfl) (JZ _) ?_
     simp -implicitDefEqProofs only[go_sem,hl0]
     refine ⟨Ji,i+1,⟨by omega,by omega⟩,by omega,?_⟩
     simp[forget]
    ·rw[if_neg hl0,hdg]at hqi; cases hqi
  ·have hie:i=E:=by omega
   subst hie
   rcases (show l.length≤i∨(i < l.length∧QO (l.getD i 0)=false∧isLt (l.getD i 0)=false)∨(i < l.length∧QO (l.getD i 0)=false∧isLt (l.getD i 0)=true∧isLt c0=false) from by
    by_cases h1:i < l.length
    ·have h2:=hout h1
     rw[hq,qAt]at h2
     by_cases hl0:isLt c0=true
     ·rw[if_pos hl0]at h2
      simp only[Kq,Gj]at h2
      exact .inr (.inl ⟨h1,h2.2,h2.1⟩)
     ·rw[if_neg hl0]at h2
      cases h3:isLt (l.getD i 0) with
      |true=>exact .inr (.inr ⟨h1,h2,rfl,by simpa using hl0⟩)
      |false=>exact .inr (.inl ⟨h1,h2,rfl⟩)
    ·exact .inl (by omega)) with hw | ⟨hw1,hw2,hw3⟩ | ⟨hw1,hw2,hw3,hw4⟩
   case' inl=>
    have d1:((i:Int) < (l.length:Int))=False:=Jk
    simp -implicitDefEqProofs only[go_sem,d1,hia,hcut]
   case' inr.inl=>
    have d1:((i:Int) < (l.length:Int))=True:=Jn
    simp -implicitDefEqProofs only[go_sem,d1]
    refine ⟨by omega,?_⟩
    refine JE (gok rfl) (KJ _) ?_
    simp -implicitDefEqProofs only[go_sem,hw2]
    refine ⟨by omega,?_⟩
    refine JE (gok rfl) (JZ _) ?_
    simp -implicitDefEqProofs only[go_sem,hw3,hia,hcut]
   case' inr.inr=>
    have d1:((i:Int) < (l.length:Int))=True:=Jn
    simp -implicitDefEqProofs only[go_sem,d1]
    refine ⟨by omega,?_⟩
    refine JE (gok rfl) (KJ _) ?_
    simp -implicitDefEqProofs only[go_sem,hw2]
    refine ⟨by omega,?_⟩
    refine JE (gok rfl) (JZ _) ?_
    simp -implicitDefEqProofs only[go_sem,hw3]
    refine ⟨by omega,?_⟩
    rw[← hc0]
    refine JE (gok rfl) (JZ _) ?_
    simp -implicitDefEqProofs only[go_sem,hw4,hia,hcut]
   all_goals (
    refine ⟨by omega,by omega,?_⟩
    refine JU (KJ _) ?_
    simp -implicitDefEqProofs only[go_sem,h2]
    generalize hx:cut l a i=x at hcl ⊢
    have hkw:=refHas kws x (by decide)
    refine JaA [Foot.no,Foot.no,(.on [2],.on []),Foot.no,Foot.no] JD (by decide +kernel) ?_
    refine ⟨_,_,hs_f (.inl rfl) Jet,_,_,X8 rfl rfl trivial,_,_,hs_ld (id:=1) (i:=0) (off:=1) rfl rfl ⟨Gb 1,(by decide:2≤3)⟩,_,_,hs_f (.inl rfl) hkw,_,_,X8 rfl rfl trivial,?_⟩
    simp -implicitDefEqProofs only[vdf,go_sem,splice]
    cases hk:kws.contains x with
    |true=>
     simp -implicitDefEqProofs only[go_sem,splice]
     rw[show a+x.length=i by omega]
     rfl
    |false=>
     have e12:decide ((x.length:Int)≤12)=decide (x.length≤12):=decide_eq_decide.2 (by omega)
     simp -implicitDefEqProofs only[go_sem,splice]
     refine JaA [(.on [2],.on []),Foot.no,Foot.no,(.on [2],.on []),Foot.no,Foot.no,(.on [1],.on [1]),Foot.no,Foot.no] JD (by decide +kernel) ?_
     refine ⟨_,_,hs_ld (id:=1) (i:=0) (off:=0) rfl rfl ⟨Gb 1,Gb 3⟩,_,_,X8 rfl rfl trivial,_,_,X8 rfl rfl trivial,_,_,hs_ld (id:=1) (i:=0) (off:=1) rfl rfl ⟨Gb 1,(by decide:2≤3)⟩,_,_,X8 rfl rfl trivial,_,_,X8 rfl rfl trivial,_,_,hs_st (id:=0) (i:=0) (off:=0) rfl rfl rfl ⟨rfl,rfl⟩ ⟨Gb 1,Gb 3⟩,_,_,X8 rfl rfl trivial,_,_,X8 rfl rfl trivial,?_⟩
     simp -implicitDefEqProofs only[vdf,go_sem,splice,e12]
     rw[show a+x.length=i by omega]
     rfl
   )
theorem refAtD (l:List UInt8) (a:Nat) (ha:a < l.length) (hl:l.length≤1000000) (h1:isLt (l.getD a 0)=false) (h2:QO (l.getD a 0)=true):Fn Tryz.prog 133 [S l,.int .i64 (a:Int)] (.tup [.agg (lxz (tkL l a).1 (tkL l a).2.1 a),.int .i64 ((a+(tkL l a).2.1.length:Nat):Int),.bool (tkL l a).2.2]):=by
 refine Ja c133_ok rfl rfl fun N=>?_
 simp -implicitDefEqProofs only[c133,go_sem]
 obtain ⟨c0,hc0⟩:∃ c,c=l.getD a 0:=⟨_,rfl⟩
 obtain ⟨q,hq⟩:∃ q,q=qAt c0:=⟨_,rfl⟩
 have hq2:q=QO:=by rw[hq,qAt,hc0]; first | rw[if_pos h1] | rw[if_neg (by rw[h1]; simp)]
 obtain ⟨E,hE⟩:∃ E,E=Qu q l a:=⟨_,rfl⟩
 have hEl:E≤l.length:=by rw[hE]; exact X6 (Ga ha)
 have hEg:a≤E:=by rw[hE]; unfold Qu; omega
 have hin:∀ i,a≤i→i < E→q (l.getD i 0)=true:=fun i h1 h2=>Jf1 _ a i rfl h1 (by rw[← hE]; exact h2) (by omega)
 have hout:E < l.length→q (l.getD E 0)=false:=fun h=>by rw[hE]at h ⊢; exact Jc3 _ a rfl h
 have hEa:a < E:=by rw[hE,hq2]; exact Ja5 ha h2
 have hT:tkL l a=(3,cut l a E,Jbb (cut l a E)):=by
  unfold tkL; rw[if_neg (by rw[h1]; simp),if_pos h2,hE,hq2]
 have hcl:=Jaq hEg hEl
 have hcut:(l.take E).drop a=cut l a E:=rfl
 have hall:=run_all (q:=QO) (Ga ha)
 rw[show Qu QO l a=E by rw[hE,hq2]]at hall
 rw[hT]
 have hia:((E:Int) == (a:Int))=false:=by rw[beq_eq_false_iff_ne]; omega
 refine Jz (I:=fun i:Nat=>a≤i∧i≤E) (inv:=fun i=>gp [(0,S l),(0,.int .i64 (a:Int)),(2,.ptr 0 0 0),(2,.int .i64 (i:Int))] 69) (hp:=fun _=>[.arr 3 [[.int .u8 0,S [],.int .i64 0]]]) (μ:=fun i=>l.length-i) a ⟨by omega,by omega⟩ ?_ rfl ?_
 ·simp[forget,gp]
 ·rintro i ⟨hai,hi⟩
  by_cases hgo:i < E
  ·have hlt:i < l.length:=by omega
   have d1:((i:Int) < (l.length:Int))=True:=Jn
   have hqi:=hin i hai hgo
   simp -implicitDefEqProofs only[go_sem,d1]
   refine ⟨by omega,?_⟩
   refine JE (gok rfl) (KJ _) ?_
   cases hdg:QO (l.getD i 0) with
   |true=>
    simp -implicitDefEqProofs only[go_sem]
    refine ⟨Ji,i+1,⟨by omega,by omega⟩,by omega,?_⟩
    simp[forget]
   |false=>
    rw[hq,qAt]at hqi
    by_cases hl0:isLt c0=true
    ·rw[if_pos hl0]at hqi
     simp only[Kq,hdg,Gq]at hqi
     simp -implicitDefEqProofs only[go_sem]
     refine ⟨by omega,?_⟩
     refine JE (gok rfl) (JZ _) ?_
     simp -implicitDefEqProofs only[go_sem,hqi]
     refine ⟨by omega,?_⟩
     rw[← hc0]
     refine JE (gok rfl) (JZ _) ?_
     simp -implicitDefEqProofs only[go_sem,hl0]
     refine ⟨Ji,i+1,⟨by omega,by omega⟩,by omega,?_⟩
     simp[forget]
    ·rw[if_neg hl0,hdg]at hqi; cases hqi
  ·have hie:i=E:=by omega
   subst hie
   rcases (show l.length≤i∨(i < l.length∧QO (l.getD i 0)=false∧isLt (l.getD i 0)=false)∨(i < l.length∧QO (l.getD i 0)=false∧isLt (l.getD i 0)=true∧isLt c0=false) from by
    by_cases h1:i < l.length
    ·have h2:=hout h1
     rw[hq,qAt]at h2
     by_cases hl0:isLt c0=true
     ·rw[if_pos hl0]at h2
      simp only[Kq,Gj]at h2
      exact .inr (.inl ⟨h1,h2.2,h2.1⟩)
     ·rw[if_neg hl0]at h2
      cases h3:isLt (l.getD i 0) with
      |true=>exact .inr (.inr ⟨h1,h2,rfl,by simpa using hl0⟩)
      |false=>exact .inr (.inl ⟨h1,h2,rfl⟩)
    ·exact .inl (by omega)) with hw | ⟨hw1,hw2,hw3⟩ | ⟨hw1,hw2,hw3,hw4⟩
   case' inl=>
    have d1:((i:Int) < (l.length:Int))=False:=Jk
    simp -implicitDefEqProofs only[go_sem,d1,hia,hcut]
   case' inr.inl=>
    have d1:((i:Int) < (l.length:Int))=True:=Jn
    simp -implicitDefEqProofs only[go_sem,d1]
    refine ⟨by omega,?_⟩
    refine JE (gok rfl) (KJ _) ?_
    simp -implicitDefEqProofs only[go_sem,hw2]
    refine ⟨by omega,?_⟩
    refine JE (gok rfl) (JZ _) ?_
    simp -implicitDefEqProofs only[go_sem,hw3,hia,hcut]
   case' inr.inr=>
    have d1:((i:Int) < (l.length:Int))=True:=Jn
    simp -implicitDefEqProofs only[go_sem,d1]
    refine ⟨by omega,?_⟩
    refine JE (gok rfl) (KJ _) ?_
    simp -implicitDefEqProofs only[go_sem,hw2]
    refine ⟨by omega,?_⟩
    refine JE (gok rfl) (JZ _) ?_
    simp -implicitDefEqProofs only[go_sem,hw3]
    refine ⟨by omega,?_⟩
    rw[← hc0]
    refine JE (gok rfl) (JZ _) ?_
    simp -implicitDefEqProofs only[go_sem,hw4,hia,hcut]
   all_goals (
    refine ⟨by omega,by omega,?_⟩
    refine JU (KJ _) ?_
    simp -implicitDefEqProofs only[go_sem,h2]
    generalize hx:cut l a i=x at hcl hall ⊢
    have hnum:=refNumber x hall (by omega)
    have hnv:=numV_ok x
    refine JaA [(.on [2],.on []),Foot.no,Foot.no,(.on [2],.on []),Foot.no,Foot.no,(.on [1],.on [1]),Foot.no,Foot.no] JD (by decide +kernel) ?_
    refine ⟨_,_,hs_ld (id:=1) (i:=0) (off:=0) rfl rfl ⟨Gb 1,Gb 3⟩,_,_,X8 rfl rfl trivial,_,_,X8 rfl rfl trivial,_,_,hs_ld (id:=1) (i:=0) (off:=1) rfl rfl ⟨Gb 1,(by decide:2≤3)⟩,_,_,hs_f (.inl rfl) hnum,_,_,X8 rfl rfl trivial,_,_,hs_st (id:=0) (i:=0) (off:=0) rfl rfl rfl ⟨rfl,rfl⟩ ⟨Gb 1,Gb 3⟩,_,_,X8 rfl rfl trivial,_,_,X8 rfl rfl trivial,?_⟩
    simp -implicitDefEqProofs only[vdf,go_sem,splice,hnv]
    rw[show a+x.length=i by omega]
    rfl
   )
theorem refAt (l:List UInt8) (a:Nat) (ha:a < l.length) (hl:l.length≤1000000):Fn Tryz.prog 133 [S l,.int .i64 (a:Int)] (.tup [.agg (lxz (tkL l a).1 (tkL l a).2.1 a),.int .i64 ((a+(tkL l a).2.1.length:Nat):Int),.bool (tkL l a).2.2]):=by
 cases h1:isLt (l.getD a 0) with
 |true=>exact refAtL l a ha hl h1
 |false=>cases h2:QO (l.getD a 0) with
  |true=>exact refAtD l a ha hl h1 h2
  |false=>exact refAtS l a ha hl h1 h2
end
section
def lxr (l:List (Nat×List UInt8×Nat)):List (List CV):=l.map fun t=>lxz t.1 t.2.1 t.2.2
theorem Jbd {l:List (Nat×List UInt8×Nat)}:(lxr l).length=l.length:=by simp[lxr]
theorem Jcq:∀ (l:List (Nat×List UInt8×Nat)),Jp (lxr l)=true
 |[]=>rfl
 |x::l=>by simp[lxr,lxz,Jp,Jl,CV.closed]; exact Jcq l
theorem lxr_app {l:List (Nat×List UInt8×Nat)}{t:Nat×List UInt8×Nat}:lxr (l++[t])=lxr l++[lxz t.1 t.2.1 t.2.2]:=by simp[lxr]
theorem tk_len {l:List UInt8}{a:Nat}(ha:a < l.length) (h:(tkL l a).2.2=true):0 < (tkL l a).2.1.length:=by
 unfold tkL at h ⊢
 by_cases h1:isLt (l.getD a 0)=true
 ·have h2:=Ja5 (q:=Kq) ha (by simp only[Kq,h1,Gm])
  have h3:=Jaq (Ga h2) (X6 (q:=Kq) (Ga ha))
  rw[if_pos h1]at h ⊢
  split <;> (simp only; omega)
 ·rw[if_neg h1]at h ⊢
  by_cases h2:QO (l.getD a 0)=true
  ·have h4:=Ja5 (q:=QO) ha h2
   have h3:=Jaq (Ga h4) (X6 (q:=QO) (Ga ha))
   rw[if_pos h2]at h ⊢
   simp only; omega
  ·rw[if_neg h2]at h ⊢
   simp only[GA,beq_eq_false_iff_ne]at h ⊢
   exact Gs.2 h
theorem sgn_in {r:List UInt8}:∀ (L:List (List UInt8)) (b:List UInt8),b.length≤r.length→(sgnF r L b).length≤r.length
 |[],b,h=>h
 |s::L,b,h=>by
  simp only[sgnF]
  refine sgn_in L _ ?_
  split
  ·rename_i hc
   have:=congrArg Gz hc.1
   rw[Gu]at this
   omega
  ·exact h
theorem tk_end {l:List UInt8}{a:Nat}(ha:a < l.length):a+(tkL l a).2.1.length≤l.length:=by
 unfold tkL
 by_cases h1:isLt (l.getD a 0)=true
 ·have h2:=Ja5 (q:=Kq) ha (by simp only[Kq,h1,Gm])
  have h4:=X6 (q:=Kq) (Ga ha)
  have h3:=Jaq (Ga h2) h4
  rw[if_pos h1]
  split <;> (simp only; omega)
 ·rw[if_neg h1]
  by_cases h2:QO (l.getD a 0)=true
  ·have h5:=Ja5 (q:=QO) ha h2
   have h4:=X6 (q:=QO) (Ga ha)
   have h3:=Jaq (Ga h5) h4
   rw[if_pos h2]
   simp only; omega
  ·rw[if_neg h2]
   have:=sgn_in (r:=l.drop a) sgs [] (by simp)
   rw[Gv]at this
   show a+(sgnF (l.drop a) sgs []).length≤l.length
   omega
section
variable {P:Program}
theorem wk_tup {l l':List CV}(h:wks l l'):wk (.tup l) (.tup l'):=by
 rintro own imm v ⟨vs,rfl,hr⟩
 exact ⟨vs,rfl,Jbx h hr⟩
theorem Jdo {l l':List CV}(h:wks l l'):wk (.agg l) (.agg l'):=by
 rintro own imm v ⟨vs,rfl,hr⟩
 exact ⟨vs,rfl,Jbx h hr⟩
theorem JbT {f:Nat}{args:List CV}{v0:CV}(h:CallsC P Env.none f args [] fun v H'=>wk v v0∨∃ id z els,H'[id]? = some (.arr z els)∧Jp els=true∧wk (frz id z els v) v0) (ha:Jl args=true) (hv:v0.closed=true):Fn P f args v0:=by
 refine fn_of ?_ ha hv
 intro m w vs hs hvs
 refine (h m w vs hs hvs).mono ?_
 rintro e w' ⟨r,m',v,H',h1,h2,h3,h4,g⟩
 rcases g with g | ⟨id,z,els,g1,hc,g⟩
 ·exact ⟨r,m',v0,H',h1,h2,h3,g _ _ _ h4,rfl⟩
 ·obtain ⟨imm',hs',he,hf⟩:=Sim.freeze (n0:=([]:List CObj).length) h3 g1 hc
  exact ⟨r,_,_,_,h1,h2.trans he,hs',g _ _ _ (hf _ _ h4),rfl⟩
end
theorem Jc4 {z:Nat}{els:List (List CV)}{id n:Nat}{cap:Option Nat}{x y:CV}(hx:x.closed=true) (hy:y.closed=true) (hn:n=els.length):wk (frz id z els (.tup [.slc id 0 n cap,x,y])) (.tup [.rslc z els none,x,y]):=by
 subst hn
 simp only[frz,J2,if_true,GG,Gb,Gy,Gi,Xc x hx,Xc y hy]
 exact wk_tup ⟨wk.rslc,wk.refl _,wk.refl _,trivial⟩
theorem refRead (l:List UInt8) (hl:l.length≤1000000):Fn Tryz.prog 110 [S l] (.tup [.rslc 3 (lxr (JcQ l).1) none,.int .i64 ((JcQ l).2.1:Nat),.int .i64 (JcQ l).2.2]):=by
 refine JbT ?_ rfl rfl
 refine K5 c110_ok fun N=>?_
 simp -implicitDefEqProofs only[c110,go_sem]
 refine JU (refLexCheck l hl) ?_
 simp -implicitDefEqProofs only[go_sem]
 cases he:((Xv l).2 != 0) with
 |true=>
  have he2:(Xv l).2≠0:=by simpa using he
  have hr:JcQ l=([],(Xv l).1,(Xv l).2):=by unfold JcQ; rw[if_pos he2]
  rw[hr]
  simp -implicitDefEqProofs only[go_sem]
  exact .inr ⟨0,3,[],rfl,rfl,Jc4 rfl rfl rfl⟩
 |false=>
  have he2:(Xv l).2=0:=by simpa using he
  have hr:JcQ l=rdF l (l.length+1) 0 []:=by unfold JcQ; rw[if_neg (by simp[he2])]
  rw[hr]
  obtain ⟨R,hR⟩:∃ R,R=rdF l (l.length+1) 0 []:=⟨_,rfl⟩
  rw[← hR]
  simp -implicitDefEqProofs only[go_sem]
  refine JU (refGap l 0 (Nat.zero_le _) hl) ?_
  simp -implicitDefEqProofs only[go_sem]
  refine JJ (σ:=Nat×Nat×List (Nat×List UInt8×Nat)) (I:=fun s=>s.2.1≤l.length∧l.length+1≤s.1+s.2.1∧s.2.2.length≤900∧R=rdF l s.1 s.2.1 s.2.2)
   (inv:=fun s=>gp [(0,S l),(6,.slc 0 0 (lxr s.2.2).length (Jdh (lxr s.2.2))),(0,.int .i64 (Ya l s.2.1:Nat))] 45) (hp:=fun s=>[.arr 3 (lxr s.2.2)]) (μ:=fun s=>s.1) (l.length+1,0,[]) [0] ⟨by simp,by simp,by simp,hR⟩ rfl ?_ rfl ?_
  ·simp[forget,JI,ren,Jo,gp,lxr,Jdh]
  ·rintro ⟨n,b,acc⟩ ⟨h1,h2,h3,hinv⟩
   dsimp only at h1 h2 h3 hinv ⊢
   have hge:=gapE_ge l b
   by_cases hlt:Ya l b < l.length
   ·have d1:(((Ya l b:Nat):Int) < (l.length:Int))=True:=Jn
    obtain ⟨n,rfl⟩:∃ n',n=n' + 1:=⟨n-1,by omega⟩
    rw[rdF,if_pos hlt]at hinv
    have hT:=refAt l (Ya l b) hlt hl
    have htl:=tk_len hlt
    have hte:=tk_end hlt
    generalize Ya l b=at_ at *
    simp -implicitDefEqProofs only[go_sem,d1]
    refine JU hT ?_
    clear hT
    generalize tkL l at_=T at hinv htl hte ⊢
    obtain ⟨k,x,ok⟩:=T
    dsimp only at hinv htl hte ⊢
    cases ok with
    |false=>
     rw[if_neg (by simp)]at hinv
     rw[hinv]
     simp -implicitDefEqProofs only[go_sem,lxz,splice]
     exact .inr ⟨2,3,[],rfl,rfl,Jc4 rfl rfl rfl⟩
    |true=>
     rw[if_pos rfl]at hinv
     by_cases h9:acc.length=900
     ·have d2:(((lxr acc).length:Int) == 900)=true:=by rw[beq_iff_eq,Jbd]; omega
      rw[if_pos h9]at hinv
      rw[hinv]
      simp -implicitDefEqProofs only[go_sem,lxz,splice,d2]
      exact .inr ⟨2,3,[],rfl,rfl,Jc4 rfl rfl rfl⟩
     ·have d2:(((lxr acc).length:Int) == 900)=false:=by rw[beq_eq_false_iff_ne,Jbd]; omega
      rw[if_neg h9]at hinv
      simp -implicitDefEqProofs only[go_sem,lxz,splice,d2,JK]
      refine ⟨⟨by rw[Jbd]; omega,by rw[Jbd]; omega⟩,?_⟩
      have hG:=refGap l (at_+x.length) hte hl
      refine JU hG ?_
      simp -implicitDefEqProofs only[go_sem]
      have hpos:=htl rfl
      have hac:Jdh (lxr (acc++[(k,x,at_)]))=none:=by rw[lxr_app,Q0]
      have hal:(lxr acc).length+1=(lxr (acc++[(k,x,at_)])).length:=by simp[Jbd]
      refine ⟨(n,at_+x.length,acc++[(k,x,at_)]),[3],⟨hte,by simp only; omega,by simp; omega,hinv⟩,by simp only; omega,rfl,?_,?_⟩
      ·simp only[KE,Gn,Gp,go_sem,Jt]
       have hc:=Jb (ρ:=[3]) (Jcq (acc++[(k,x,at_)]))
       rw[lxr_app]at hc ⊢
       simp only[lxz]at hc ⊢
       rw[hc]
      ·simp only[hac,hal]
       simp[forget,JI,ren,Jo]
   ·have d1:(((Ya l b:Nat):Int) < (l.length:Int))=False:=Jk
    have hR2:R=(acc,0,0):=by
     rw[hinv]
     cases n with
     |zero=>rfl
     |succ n=>rw[rdF,if_neg hlt]
    rw[hR2]
    simp -implicitDefEqProofs only[go_sem,d1]
    exact .inr ⟨0,3,lxr acc,rfl,Jcq _,Jc4 rfl rfl rfl⟩
theorem refKind (l:List UInt8) (hl:l.length≤1000000):Fn Tryz.prog 79 [S l] (.int .u8 (kindR l)):=by
 refine Ja c79_ok rfl rfl fun N=>?_
 simp -implicitDefEqProofs only[c79,go_sem]
 refine JU (refRead l hl) ?_
 simp -implicitDefEqProofs only[go_sem]
 unfold kindR
 obtain ⟨ts,p,e⟩:=JcQ l
 simp only
 cases he:(e != 0) with
 |true=>
  have he2:e≠0:=by simpa using he
  simp -implicitDefEqProofs only[go_sem]
  split
  ·rename_i h; cases h; rw[if_neg (fun h=>he2 h.1)]; rfl
  ·rfl
 |false=>
  have he2:e=0:=by simpa using he
  subst he2
  match ts with
  |[]=>
   simp -implicitDefEqProofs only[go_sem,Jbd,List.length_nil]
  |t::u::r=>
   have hn:(((r.length+1+1:Nat):Int) != 1)=true:=by rw[bne_iff_ne]; omega
   simp -implicitDefEqProofs only[go_sem,Jbd,hn]
  |[t]=>
   obtain ⟨k,x,a⟩:=t
   by_cases hx:x=l
   ·have e1:(x == l)=true:=by simp[hx]
    simp -implicitDefEqProofs only[go_sem,lxr,lxz,Gn,Gp,e1,show (((1:Nat):Int) != 1)=false from rfl]
    simp[hx]
   ·have e1:(x == l)=false:=by simp[hx]
    simp -implicitDefEqProofs only[go_sem,lxr,lxz,Gn,Gp,e1,show (((1:Nat):Int) != 1)=false from rfl]
    simp[hx]
end
end Go.Cm
end
end
