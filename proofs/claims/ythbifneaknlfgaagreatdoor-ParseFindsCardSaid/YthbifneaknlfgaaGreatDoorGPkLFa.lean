/-
  Part of a proof about the package floodgatelaw02 (shortened by a program). Conditions: none.
-/
import Derived.Test.YthbifneaknlfgaaGreatDoorGPkKE
import Derived.Test.YthbifneaknlfgaaGreatDoorGP12
set_option linter.unusedSimpArgs false
set_option linter.unusedVariables false
section
open Go.Proofs
set_option maxRecDepth 100000
set_option maxHeartbeats 4000000
namespace Go.Cm
section
variable (t:Tr) (ht:t.Fit) (a b c:Int) (hA:InR .i64 a) (hB:InR .i64 b) (hC:InR .i64 c)
include ht hA hB hC
theorem findsBad (h:chk t≠0) (hv:Jcs t=false):Fn Tryz.prog 4 [t.cv,.agg [.int .i64 a,.int .i64 b,.int .i64 c]] (.bool true):=by
 have hV:=lawVast t
 rw[hv]at hV
 have h1:=JbP t ht a hA
 have h2:=JcJ t ht a hA
 have h3:=Jdx t ht a b hA hB
 have h4:=JbQ t ht c hC
 rw[if_pos h]at h1 h2 h3 h4
 have hR:=refCheck t ht
 have e:(chk t != 0)=true:=by simpa using h
 generalize chk t=x at h1 h2 h3 h4 hR e
 refine Ji c4_ok rfl rfl (by simp only[List.length_cons,List.length_nil]; decide) fun N=>?_
 simp -implicitDefEqProofs only[c4,go_sem,Tr.cv,Tr.row]
 refine vr_f hV ?_
 simp -implicitDefEqProofs only[go_sem,Tr.row]
 refine vr_f (refCopy t ht) ?_
 simp -implicitDefEqProofs only[go_sem,Tr.cv,Tr.row]
 refine vr_f h1 ?_
 simp -implicitDefEqProofs only[go_sem,Tr.cv,Tr.row]
 refine vr_f h2 ?_
 simp -implicitDefEqProofs only[go_sem,Tr.cv,Tr.row]
 refine vr_f h3 ?_
 simp -implicitDefEqProofs only[go_sem,Tr.cv,Tr.row]
 refine vr_f h4 ?_
 simp -implicitDefEqProofs only[go_sem,Tr.cv,Tr.row]
 refine vr_f (Jdt t ht) ?_
 simp -implicitDefEqProofs only[go_sem,Tr.cv,Tr.row,Bool.not_true]
 refine vr_f hR ?_
 simp -implicitDefEqProofs only[go_sem,Tr.cv,Tr.row,e,beq_self_eq_true]
 refine Js (gok rfl) KT ?_
 simp -implicitDefEqProofs only[go_sem]
theorem findsGood (h:chk t=0) (hv:Jcs t=false):Fn Tryz.prog 4 [t.cv,.agg [.int .i64 a,.int .i64 b,.int .i64 c]] (.bool true):=by
 have hV:=lawVast t
 rw[hv]at hV
 obtain ⟨o,g⟩:=(Yj t).1 h
 have h1:=JbP t ht a hA
 have h2:=JcJ t ht a hA
 have h3:=Jdx t ht a b hA hB
 have h4:=JbQ t ht c hC
 have hRf:=refFind t ht c
 rw[if_neg (by simp[h])]at h1 h2 h3 h4
 have hR:=refCheck t ht
 rw[h]at hR
 obtain ⟨u1,e1,q1,p1⟩:∃ u1 e1:Int,Fn Tryz.prog 17 [t.cv,.int .i64 a] (.tup [.int .i64 u1,.int .i64 e1])∧(if inT t a=true then u1=fixA (fun x:Nd=>x.kids.contains a) t.nodes 0∧e1=0 else u1=0∧e1=7):=by
  cases hb:inT t a with
  |true=>rw[hb,if_pos rfl]at h1; exact ⟨_,_,h1,by rw[if_pos rfl]; exact ⟨rfl,rfl⟩⟩
  |false=>rw[hb,if_neg (by simp)]at h1; exact ⟨_,_,h1,by rw[if_neg (by simp)]; exact ⟨rfl,rfl⟩⟩
 obtain ⟨u2,e2,q2,p2⟩:∃ u2 e2:Int,Fn Tryz.prog 18 [t.cv,.int .i64 a] (.tup [.int .i64 u2,.int .i64 e2])∧(if inT t a=true then u2=fs o a∧e2=0 else u2=0∧e2=7):=by
  rw[g.ord.h]at h2
  cases hb:inT t a with
  |true=>rw[hb,if_pos rfl]at h2; exact ⟨_,_,h2,by rw[if_pos rfl]; exact ⟨rfl,rfl⟩⟩
  |false=>rw[hb,if_neg (by simp)]at h2; exact ⟨_,_,h2,by rw[if_neg (by simp)]; exact ⟨rfl,rfl⟩⟩
 obtain ⟨u3,e3,q3,p3⟩:∃ u3 e3:Int,Fn Tryz.prog 19 [t.cv,.int .i64 a,.int .i64 b] (.tup [.int .i64 u3,.int .i64 e3])∧(if (inT t a && inT t b)=true then u3=kinF o a b∧e3=0 else u3=0∧e3=7):=by
  rw[g.ord.h]at h3
  cases hb:(inT t a && inT t b) with
  |true=>rw[hb,if_pos rfl]at h3; exact ⟨_,_,h3,by rw[if_pos rfl]; exact ⟨rfl,rfl⟩⟩
  |false=>rw[hb,if_neg (by simp)]at h3; exact ⟨_,_,h3,by rw[if_neg (by simp)]; exact ⟨rfl,rfl⟩⟩
 clear h1 h2 h3
 refine Ji c4_ok rfl rfl (by simp only[List.length_cons,List.length_nil]; decide) fun N=>?_
 generalize fixA (fun x:Nd=>x.pl == c) t.nodes 0=F at h4 hRf
 have hFF:(F != F)=false:=by simp
 by_cases hF:F < 0
 ·rw[if_pos hF]at h4
  have f1:(F < 0)=True:=eq_true hF
  have f2:(F≥0)=False:=eq_false (by omega)
  simp -implicitDefEqProofs only[c4,go_sem,Tr.cv,Tr.row]
  refine vr_f hV ?_
  simp -implicitDefEqProofs only[go_sem,Tr.cv,Tr.row,Bool.not_true,Bool.not_false,]
  refine vr_f (refCopy t ht) ?_
  simp -implicitDefEqProofs only[go_sem,Tr.cv,Tr.row,Bool.not_true,Bool.not_false,]
  refine vr_f q1 ?_
  simp -implicitDefEqProofs only[go_sem,Tr.cv,Tr.row,Bool.not_true,Bool.not_false,]
  refine vr_f q2 ?_
  simp -implicitDefEqProofs only[go_sem,Tr.cv,Tr.row,Bool.not_true,Bool.not_false,]
  refine vr_f q3 ?_
  simp -implicitDefEqProofs only[go_sem,Tr.cv,Tr.row,Bool.not_true,Bool.not_false,]
  refine vr_f h4 ?_
  simp -implicitDefEqProofs only[go_sem,Tr.cv,Tr.row,Bool.not_true,Bool.not_false,]
  refine vr_f (Jdt t ht) ?_
  simp -implicitDefEqProofs only[go_sem,Tr.cv,Tr.row,Bool.not_true,Bool.not_false,]
  refine vr_f hR ?_
  simp -implicitDefEqProofs only[go_sem,Tr.cv,Tr.row,Bool.not_true,Bool.not_false,]
  refine vr_f hRf ?_
  simp -implicitDefEqProofs only[go_sem,Tr.cv,Tr.row,Bool.not_true,Bool.not_false,f1,f2,hFF,Jd]
  refine JH JD (by decide +kernel) ?_
  rcases (show a < 0∨(0≤a∧a < t.nodes.length)∨(t.nodes.length:Int)≤a by omega) with ca | ca | ca
  ·rcases (show b < 0∨(0≤b∧b < t.nodes.length)∨(t.nodes.length:Int)≤b by omega) with cb | cb | cb
   ·have da1:(a≥0)=False:=eq_false (by omega)
    have ia:inT t a=false:=by rw[← Bool.not_eq_true,JF]; omega
    have db1:(b≥0)=False:=eq_false (by omega)
    have ib:inT t b=false:=by rw[← Bool.not_eq_true,JF]; omega
    rw[ia,if_neg (by simp)]at p1 p2
    rw[ia,ib]at p3
    rw[if_neg (by simp)]at p3
    obtain ⟨rfl,rfl⟩:=p1
    obtain ⟨rfl,rfl⟩:=p2
    obtain ⟨rfl,rfl⟩:=p3
    simp -implicitDefEqProofs only[go_sem,Tr.cv,Tr.row,Bool.not_true,Bool.not_false,Jd,da1,db1]
    refine vr_f KT ?_
    simp -implicitDefEqProofs only[go_sem]
   ·have da1:(a≥0)=False:=eq_false (by omega)
    have ia:inT t a=false:=by rw[← Bool.not_eq_true,JF]; omega
    have db1:(b≥0)=True:=eq_true (by omega)
    have db2:(b < (t.nodes.length:Int))=True:=eq_true (by omega)
    have ib:inT t b=true:=by exact JF.2 (by omega)
    rw[ia,if_neg (by simp)]at p1 p2
    rw[ia,ib]at p3
    rw[if_neg (by simp)]at p3
    obtain ⟨rfl,rfl⟩:=p1
    obtain ⟨rfl,rfl⟩:=p2
    obtain ⟨rfl,rfl⟩:=p3
    simp -implicitDefEqProofs only[go_sem,Tr.cv,Tr.row,Bool.not_true,Bool.not_false,Jd,da1,db1,db2]
    refine vr_f KT ?_
    simp -implicitDefEqProofs only[go_sem]
   ·have da1:(a≥0)=False:=eq_false (by omega)
    have ia:inT t a=false:=by rw[← Bool.not_eq_true,JF]; omega
    have db1:(b≥0)=True:=eq_true (by omega)
    have db2:(b < (t.nodes.length:Int))=False:=eq_false (by omega)
    have ib:inT t b=false:=by rw[← Bool.not_eq_true,JF]; omega
    rw[ia,if_neg (by simp)]at p1 p2
    rw[ia,ib]at p3
    rw[if_neg (by simp)]at p3
    obtain ⟨rfl,rfl⟩:=p1
    obtain ⟨rfl,rfl⟩:=p2
    obtain ⟨rfl,rfl⟩:=p3
    simp -implicitDefEqProofs only[go_sem,Tr.cv,Tr.row,Bool.not_true,Bool.not_false,Jd,da1,db1,db2]
    refine vr_f KT ?_
    simp -implicitDefEqProofs only[go_sem]
  ·rcases (show b < 0∨(0≤b∧b < t.nodes.length)∨(t.nodes.length:Int)≤b by omega) with cb | cb | cb
   ·have da1:(a≥0)=True:=eq_true (by omega)
    have da2:(a < (t.nodes.length:Int))=True:=eq_true (by omega)
    have ia:inT t a=true:=by exact JF.2 (by omega)
    have db1:(b≥0)=False:=eq_false (by omega)
    have ib:inT t b=false:=by rw[← Bool.not_eq_true,JF]; omega
    rw[ia,if_pos rfl]at p1 p2
    rw[ia,ib]at p3
    rw[if_neg (by simp)]at p3
    obtain ⟨rfl,rfl⟩:=p1
    obtain ⟨rfl,rfl⟩:=p2
    obtain ⟨rfl,rfl⟩:=p3
    obtain ⟨na,rfl⟩:∃ na:Nat,a=(na:Int):=⟨a.toNat,by omega⟩
    have r1:=Q6 t ht g na (by omega)
    have r2:=QO t (Xk g) (Nat.le_refl _) na (by omega)
    generalize fixA (fun x:Nd=>x.kids.contains (na:Int)) t.nodes 0=P at *
    generalize hfo:fs o (na:Int)=Q at *
    have hPP:(P != P)=false:=by simp
    have hQQ:(Q != Q)=false:=by simp
    simp -implicitDefEqProofs only[go_sem,Tr.cv,Tr.row,Bool.not_true,Bool.not_false,Jd,da1,da2,db1,hPP,hQQ]
    refine Js (gok rfl) r1 ?_
    simp -implicitDefEqProofs only[go_sem,Tr.cv,Tr.row,Bool.not_true,Bool.not_false,Jd,da1,da2,db1,hPP,hQQ]
    refine Js (gok rfl) r2 ?_
    simp -implicitDefEqProofs only[go_sem,Tr.cv,Tr.row,Bool.not_true,Bool.not_false,Jd,da1,da2,db1,hPP,hQQ]
    refine vr_f KT ?_
    simp -implicitDefEqProofs only[go_sem]
   ·have da1:(a≥0)=True:=eq_true (by omega)
    have da2:(a < (t.nodes.length:Int))=True:=eq_true (by omega)
    have ia:inT t a=true:=by exact JF.2 (by omega)
    have db1:(b≥0)=True:=eq_true (by omega)
    have db2:(b < (t.nodes.length:Int))=True:=eq_true (by omega)
    have ib:inT t b=true:=by exact JF.2 (by omega)
    rw[ia,if_pos rfl]at p1 p2
    rw[ia,ib,Bool.true_and,if_pos rfl]at p3
    obtain ⟨rfl,rfl⟩:=p1
    obtain ⟨rfl,rfl⟩:=p2
    obtain ⟨rfl,rfl⟩:=p3
    obtain ⟨na,rfl⟩:∃ na:Nat,a=(na:Int):=⟨a.toNat,by omega⟩
    have r1:=Q6 t ht g na (by omega)
    have r2:=QO t (Xk g) (Nat.le_refl _) na (by omega)
    generalize fixA (fun x:Nd=>x.kids.contains (na:Int)) t.nodes 0=P at *
    generalize hfo:fs o (na:Int)=Q at *
    have hPP:(P != P)=false:=by simp
    have hQQ:(Q != Q)=false:=by simp
    have r3:=refCommon t ht g (na:Int) b (by omega) (by omega)
    generalize kinF o (na:Int) b=R at *
    have hRR:(R != R)=false:=by simp
    simp -implicitDefEqProofs only[go_sem,Tr.cv,Tr.row,Bool.not_true,Bool.not_false,Jd,da1,da2,db1,db2,hPP,hQQ,hRR]
    refine Js (gok rfl) r1 ?_
    simp -implicitDefEqProofs only[go_sem,Tr.cv,Tr.row,Bool.not_true,Bool.not_false,Jd,da1,da2,db1,db2,hPP,hQQ,hRR]
    refine Js (gok rfl) r2 ?_
    simp -implicitDefEqProofs only[go_sem,Tr.cv,Tr.row,Bool.not_true,Bool.not_false,Jd,da1,da2,db1,db2,hPP,hQQ,hRR]
    refine Js (gok rfl) r3 ?_
    simp -implicitDefEqProofs only[go_sem,Tr.cv,Tr.row,Bool.not_true,Bool.not_false,Jd,da1,da2,db1,db2,hPP,hQQ,hRR]
    refine vr_f KT ?_
    simp -implicitDefEqProofs only[go_sem]
   ·have da1:(a≥0)=True:=eq_true (by omega)
    have da2:(a < (t.nodes.length:Int))=True:=eq_true (by omega)
    have ia:inT t a=true:=by exact JF.2 (by omega)
    have db1:(b≥0)=True:=eq_true (by omega)
    have db2:(b < (t.nodes.length:Int))=False:=eq_false (by omega)
    have ib:inT t b=false:=by rw[← Bool.not_eq_true,JF]; omega
    rw[ia,if_pos rfl]at p1 p2
    rw[ia,ib]at p3
    rw[if_neg (by simp)]at p3
    obtain ⟨rfl,rfl⟩:=p1
    obtain ⟨rfl,rfl⟩:=p2
    obtain ⟨rfl,rfl⟩:=p3
    obtain ⟨na,rfl⟩:∃ na:Nat,a=(na:Int):=⟨a.toNat,by omega⟩
    have r1:=Q6 t ht g na (by omega)
    have r2:=QO t (Xk g) (Nat.le_refl _) na (by omega)
    generalize fixA (fun x:Nd=>x.kids.contains (na:Int)) t.nodes 0=P at *
    generalize hfo:fs o (na:Int)=Q at *
    have hPP:(P != P)=false:=by simp
    have hQQ:(Q != Q)=false:=by simp
    simp -implicitDefEqProofs only[go_sem,Tr.cv,Tr.row,Bool.not_true,Bool.not_false,Jd,da1,da2,db1,db2,hPP,hQQ]
    refine Js (gok rfl) r1 ?_
    simp -implicitDefEqProofs only[go_sem,Tr.cv,Tr.row,Bool.not_true,Bool.not_false,Jd,da1,da2,db1,db2,hPP,hQQ]
    refine Js (gok rfl) r2 ?_
    simp -implicitDefEqProofs only[go_sem,Tr.cv,Tr.row,Bool.not_true,Bool.not_false,Jd,da1,da2,db1,db2,hPP,hQQ]
    refine vr_f KT ?_
    simp -implicitDefEqProofs only[go_sem]
  ·rcases (show b < 0∨(0≤b∧b < t.nodes.length)∨(t.nodes.length:Int)≤b by omega) with cb | cb | cb
   ·have da1:(a≥0)=True:=eq_true (by omega)
    have da2:(a < (t.nodes.length:Int))=False:=eq_false (by omega)
    have ia:inT t a=false:=by rw[← Bool.not_eq_true,JF]; omega
    have db1:(b≥0)=False:=eq_false (by omega)
    have ib:inT t b=false:=by rw[← Bool.not_eq_true,JF]; omega
    rw[ia,if_neg (by simp)]at p1 p2
    rw[ia,ib]at p3
    rw[if_neg (by simp)]at p3
    obtain ⟨rfl,rfl⟩:=p1
    obtain ⟨rfl,rfl⟩:=p2
    obtain ⟨rfl,rfl⟩:=p3
    simp -implicitDefEqProofs only[go_sem,Tr.cv,Tr.row,Bool.not_true,Bool.not_false,Jd,da1,da2,db1]
    refine vr_f KT ?_
    simp -implicitDefEqProofs only[go_sem]
   ·have da1:(a≥0)=True:=eq_true (by omega)
    have da2:(a < (t.nodes.length:Int))=False:=eq_false (by omega)
    have ia:inT t a=false:=by rw[← Bool.not_eq_true,JF]; omega
    have db1:(b≥0)=True:=eq_true (by omega)
    have db2:(b < (t.nodes.length:Int))=True:=eq_true (by omega)
    have ib:inT t b=true:=by exact JF.2 (by omega)
    rw[ia,if_neg (by simp)]at p1 p2
    rw[ia,ib]at p3
    rw[if_neg (by simp)]at p3
    obtain ⟨rfl,rfl⟩:=p1
    obtain ⟨rfl,rfl⟩:=p2
    obtain ⟨rfl,rfl⟩:=p3
    simp -implicitDefEqProofs only[go_sem,Tr.cv,Tr.row,Bool.not_true,Bool.not_false,Jd,da1,da2,db1,db2]
    refine vr_f KT ?_
    simp -implicitDefEqProofs only[go_sem]
   ·have da1:(a≥0)=True:=eq_true (by omega)
    have da2:(a < (t.nodes.length:Int))=False:=eq_false (by omega)
    have ia:inT t a=false:=by rw[← Bool.not_eq_true,JF]; omega
    have db1:(b≥0)=True:=eq_true (by omega)
    have db2:(b < (t.nodes.length:Int))=False:=eq_false (by omega)
    have ib:inT t b=false:=by rw[← Bool.not_eq_true,JF]; omega
    rw[ia,if_neg (by simp)]at p1 p2
    rw[ia,ib]at p3
    rw[if_neg (by simp)]at p3
    obtain ⟨rfl,rfl⟩:=p1
    obtain ⟨rfl,rfl⟩:=p2
    obtain ⟨rfl,rfl⟩:=p3
    simp -implicitDefEqProofs only[go_sem,Tr.cv,Tr.row,Bool.not_true,Bool.not_false,Jd,da1,da2,db1,db2]
    refine vr_f KT ?_
    simp -implicitDefEqProofs only[go_sem]
 ·rw[if_neg hF]at h4
  have f1:(F < 0)=False:=eq_false hF
  have f2:(F≥0)=True:=eq_true (by omega)
  simp -implicitDefEqProofs only[c4,go_sem,Tr.cv,Tr.row]
  refine vr_f hV ?_
  simp -implicitDefEqProofs only[go_sem,Tr.cv,Tr.row,Bool.not_true,Bool.not_false,]
  refine vr_f (refCopy t ht) ?_
  simp -implicitDefEqProofs only[go_sem,Tr.cv,Tr.row,Bool.not_true,Bool.not_false,]
  refine vr_f q1 ?_
  simp -implicitDefEqProofs only[go_sem,Tr.cv,Tr.row,Bool.not_true,Bool.not_false,]
  refine vr_f q2 ?_
  simp -implicitDefEqProofs only[go_sem,Tr.cv,Tr.row,Bool.not_true,Bool.not_false,]
  refine vr_f q3 ?_
  simp -implicitDefEqProofs only[go_sem,Tr.cv,Tr.row,Bool.not_true,Bool.not_false,]
  refine vr_f h4 ?_
  simp -implicitDefEqProofs only[go_sem,Tr.cv,Tr.row,Bool.not_true,Bool.not_false,]
  refine vr_f (Jdt t ht) ?_
  simp -implicitDefEqProofs only[go_sem,Tr.cv,Tr.row,Bool.not_true,Bool.not_false,]
  refine vr_f hR ?_
  simp -implicitDefEqProofs only[go_sem,Tr.cv,Tr.row,Bool.not_true,Bool.not_false,]
  refine vr_f hRf ?_
  simp -implicitDefEqProofs only[go_sem,Tr.cv,Tr.row,Bool.not_true,Bool.not_false,f1,f2,hFF,Jd]
  refine JH JD (by decide +kernel) ?_
  rcases (show a < 0∨(0≤a∧a < t.nodes.length)∨(t.nodes.length:Int)≤a by omega) with ca | ca | ca
  ·rcases (show b < 0∨(0≤b∧b < t.nodes.length)∨(t.nodes.length:Int)≤b by omega) with cb | cb | cb
   ·have da1:(a≥0)=False:=eq_false (by omega)
    have ia:inT t a=false:=by rw[← Bool.not_eq_true,JF]; omega
    have db1:(b≥0)=False:=eq_false (by omega)
    have ib:inT t b=false:=by rw[← Bool.not_eq_true,JF]; omega
    rw[ia,if_neg (by simp)]at p1 p2
    rw[ia,ib]at p3
    rw[if_neg (by simp)]at p3
    obtain ⟨rfl,rfl⟩:=p1
    obtain ⟨rfl,rfl⟩:=p2
    obtain ⟨rfl,rfl⟩:=p3
    simp -implicitDefEqProofs only[go_sem,Tr.cv,Tr.row,Bool.not_true,Bool.not_false,Jd,da1,db1]
    refine vr_f KT ?_
    simp -implicitDefEqProofs only[go_sem]
   ·have da1:(a≥0)=False:=eq_false (by omega)
    have ia:inT t a=false:=by rw[← Bool.not_eq_true,JF]; omega
    have db1:(b≥0)=True:=eq_true (by omega)
    have db2:(b < (t.nodes.length:Int))=True:=eq_true (by omega)
    have ib:inT t b=true:=by exact JF.2 (by omega)
    rw[ia,if_neg (by simp)]at p1 p2
    rw[ia,ib]at p3
    rw[if_neg (by simp)]at p3
    obtain ⟨rfl,rfl⟩:=p1
    obtain ⟨rfl,rfl⟩:=p2
    obtain ⟨rfl,rfl⟩:=p3
    simp -implicitDefEqProofs only[go_sem,Tr.cv,Tr.row,Bool.not_true,Bool.not_false,Jd,da1,db1,db2]
    refine vr_f KT ?_
    simp -implicitDefEqProofs only[go_sem]
   ·have da1:(a≥0)=False:=eq_false (by omega)
    have ia:inT t a=false:=by rw[← Bool.not_eq_true,JF]; omega
    have db1:(b≥0)=True:=eq_true (by omega)
    have db2:(b < (t.nodes.length:Int))=False:=eq_false (by omega)
    have ib:inT t b=false:=by rw[← Bool.not_eq_true,JF]; omega
    rw[ia,if_neg (by simp)]at p1 p2
    rw[ia,ib]at p3
    rw[if_neg (by simp)]at p3
    obtain ⟨rfl,rfl⟩:=p1
    obtain ⟨rfl,rfl⟩:=p2
    obtain ⟨rfl,rfl⟩:=p3
    simp -implicitDefEqProofs only[go_sem,Tr.cv,Tr.row,Bool.not_true,Bool.not_false,Jd,da1,db1,db2]
    refine vr_f KT ?_
    simp -implicitDefEqProofs only[go_sem]
  ·rcases (show b < 0∨(0≤b∧b < t.nodes.length)∨(t.nodes.length:Int)≤b by omega) with cb | cb | cb
   ·have da1:(a≥0)=True:=eq_true (by omega)
    have da2:(a < (t.nodes.length:Int))=True:=eq_true (by omega)
    have ia:inT t a=true:=by exact JF.2 (by omega)
    have db1:(b≥0)=False:=eq_false (by omega)
    have ib:inT t b=false:=by rw[← Bool.not_eq_true,JF]; omega
    rw[ia,if_pos rfl]at p1 p2
    rw[ia,ib]at p3
    rw[if_neg (by simp)]at p3
    obtain ⟨rfl,rfl⟩:=p1
    obtain ⟨rfl,rfl⟩:=p2
    obtain ⟨rfl,rfl⟩:=p3
    obtain ⟨na,rfl⟩:∃ na:Nat,a=(na:Int):=⟨a.toNat,by omega⟩
    have r1:=Q6 t ht g na (by omega)
    have r2:=QO t (Xk g) (Nat.le_refl _) na (by omega)
    generalize fixA (fun x:Nd=>x.kids.contains (na:Int)) t.nodes 0=P at *
    generalize hfo:fs o (na:Int)=Q at *
    have hPP:(P != P)=false:=by simp
    have hQQ:(Q != Q)=false:=by simp
    simp -implicitDefEqProofs only[go_sem,Tr.cv,Tr.row,Bool.not_true,Bool.not_false,Jd,da1,da2,db1,hPP,hQQ]
    refine Js (gok rfl) r1 ?_
    simp -implicitDefEqProofs only[go_sem,Tr.cv,Tr.row,Bool.not_true,Bool.not_false,Jd,da1,da2,db1,hPP,hQQ]
    refine Js (gok rfl) r2 ?_
    simp -implicitDefEqProofs only[go_sem,Tr.cv,Tr.row,Bool.not_true,Bool.not_false,Jd,da1,da2,db1,hPP,hQQ]
    refine vr_f KT ?_
    simp -implicitDefEqProofs only[go_sem]
   ·have da1:(a≥0)=True:=eq_true (by omega)
    have da2:(a < (t.nodes.length:Int))=True:=eq_true (by omega)
    have ia:inT t a=true:=by exact JF.2 (by omega)
    have db1:(b≥0)=True:=eq_true (by omega)
    have db2:(b < (t.nodes.length:Int))=True:=eq_true (by omega)
    have ib:inT t b=true:=by exact JF.2 (by omega)
    rw[ia,if_pos rfl]at p1 p2
    rw[ia,ib,Bool.true_and,if_pos rfl]at p3
    obtain ⟨rfl,rfl⟩:=p1
    obtain ⟨rfl,rfl⟩:=p2
    obtain ⟨rfl,rfl⟩:=p3
    obtain ⟨na,rfl⟩:∃ na:Nat,a=(na:Int):=⟨a.toNat,by omega⟩
    have r1:=Q6 t ht g na (by omega)
    have r2:=QO t (Xk g) (Nat.le_refl _) na (by omega)
    generalize fixA (fun x:Nd=>x.kids.contains (na:Int)) t.nodes 0=P at *
    generalize hfo:fs o (na:Int)=Q at *
    have hPP:(P != P)=false:=by simp
    have hQQ:(Q != Q)=false:=by simp
    have r3:=refCommon t ht g (na:Int) b (by omega) (by omega)
    generalize kinF o (na:Int) b=R at *
    have hRR:(R != R)=false:=by simp
    simp -implicitDefEqProofs only[go_sem,Tr.cv,Tr.row,Bool.not_true,Bool.not_false,Jd,da1,da2,db1,db2,hPP,hQQ,hRR]
    refine Js (gok rfl) r1 ?_
    simp -implicitDefEqProofs only[go_sem,Tr.cv,Tr.row,Bool.not_true,Bool.not_false,Jd,da1,da2,db1,db2,hPP,hQQ,hRR]
    refine Js (gok rfl) r2 ?_
    simp -implicitDefEqProofs only[go_sem,Tr.cv,Tr.row,Bool.not_true,Bool.not_false,Jd,da1,da2,db1,db2,hPP,hQQ,hRR]
    refine Js (gok rfl) r3 ?_
    simp -implicitDefEqProofs only[go_sem,Tr.cv,Tr.row,Bool.not_true,Bool.not_false,Jd,da1,da2,db1,db2,hPP,hQQ,hRR]
    refine vr_f KT ?_
    simp -implicitDefEqProofs only[go_sem]
   ·have da1:(a≥0)=True:=eq_true (by omega)
    have da2:(a < (t.nodes.length:Int))=True:=eq_true (by omega)
    have ia:inT t a=true:=by exact JF.2 (by omega)
    have db1:(b≥0)=True:=eq_true (by omega)
    have db2:(b < (t.nodes.length:Int))=False:=eq_false (by omega)
    have ib:inT t b=false:=by rw[← Bool.not_eq_true,JF]; omega
    rw[ia,if_pos rfl]at p1 p2
    rw[ia,ib]at p3
    rw[if_neg (by simp)]at p3
    obtain ⟨rfl,rfl⟩:=p1
    obtain ⟨rfl,rfl⟩:=p2
    obtain ⟨rfl,rfl⟩:=p3
    obtain ⟨na,rfl⟩:∃ na:Nat,a=(na:Int):=⟨a.toNat,by omega⟩
    have r1:=Q6 t ht g na (by omega)
    have r2:=QO t (Xk g) (Nat.le_refl _) na (by omega)
    generalize fixA (fun x:Nd=>x.kids.contains (na:Int)) t.nodes 0=P at *
    generalize hfo:fs o (na:Int)=Q at *
    have hPP:(P != P)=false:=by simp
    have hQQ:(Q != Q)=false:=by simp
    simp -implicitDefEqProofs only[go_sem,Tr.cv,Tr.row,Bool.not_true,Bool.not_false,Jd,da1,da2,db1,db2,hPP,hQQ]
    refine Js (gok rfl) r1 ?_
    simp -implicitDefEqProofs only[go_sem,Tr.cv,Tr.row,Bool.not_true,Bool.not_false,Jd,da1,da2,db1,db2,hPP,hQQ]
    refine Js (gok rfl) r2 ?_
    simp -implicitDefEqProofs only[go_sem,Tr.cv,Tr.row,Bool.not_true,Bool.not_false,Jd,da1,da2,db1,db2,hPP,hQQ]
    refine vr_f KT ?_
    simp -implicitDefEqProofs only[go_sem]
  ·rcases (show b < 0∨(0≤b∧b < t.nodes.length)∨(t.nodes.length:Int)≤b by omega) with cb | cb | cb
   ·have da1:(a≥0)=True:=eq_true (by omega)
    have da2:(a < (t.nodes.length:Int))=False:=eq_false (by omega)
    have ia:inT t a=false:=by rw[← Bool.not_eq_true,JF]; omega
    have db1:(b≥0)=False:=eq_false (by omega)
    have ib:inT t b=false:=by rw[← Bool.not_eq_true,JF]; omega
    rw[ia,if_neg (by simp)]at p1 p2
    rw[ia,ib]at p3
    rw[if_neg (by simp)]at p3
    obtain ⟨rfl,rfl⟩:=p1
    obtain ⟨rfl,rfl⟩:=p2
    obtain ⟨rfl,rfl⟩:=p3
    simp -implicitDefEqProofs only[go_sem,Tr.cv,Tr.row,Bool.not_true,Bool.not_false,Jd,da1,da2,db1]
    refine vr_f KT ?_
    simp -implicitDefEqProofs only[go_sem]
   ·have da1:(a≥0)=True:=eq_true (by omega)
    have da2:(a < (t.nodes.length:Int))=False:=eq_false (by omega)
    have ia:inT t a=false:=by rw[← Bool.not_eq_true,JF]; omega
    have db1:(b≥0)=True:=eq_true (by omega)
    have db2:(b < (t.nodes.length:Int))=True:=eq_true (by omega)
    have ib:inT t b=true:=by exact JF.2 (by omega)
    rw[ia,if_neg (by simp)]at p1 p2
    rw[ia,ib]at p3
    rw[if_neg (by simp)]at p3
    obtain ⟨rfl,rfl⟩:=p1
    obtain ⟨rfl,rfl⟩:=p2
    obtain ⟨rfl,rfl⟩:=p3
    simp -implicitDefEqProofs only[go_sem,Tr.cv,Tr.row,Bool.not_true,Bool.not_false,Jd,da1,da2,db1,db2]
    refine vr_f KT ?_
    simp -implicitDefEqProofs only[go_sem]
   ·have da1:(a≥0)=True:=eq_true (by omega)
    have da2:(a < (t.nodes.length:Int))=False:=eq_false (by omega)
    have ia:inT t a=false:=by rw[← Bool.not_eq_true,JF]; omega
    have db1:(b≥0)=True:=eq_true (by omega)
    have db2:(b < (t.nodes.length:Int))=False:=eq_false (by omega)
    have ib:inT t b=false:=by rw[← Bool.not_eq_true,JF]; omega
    rw[ia,if_neg (by simp)]at p1 p2
    rw[ia,ib]at p3
    rw[if_neg (by simp)]at p3
    obtain ⟨rfl,rfl⟩:=p1
    obtain ⟨rfl,rfl⟩:=p2
    obtain ⟨rfl,rfl⟩:=p3
    simp -implicitDefEqProofs only[go_sem,Tr.cv,Tr.row,Bool.not_true,Bool.not_false,Jd,da1,da2,db1,db2]
    refine vr_f KT ?_
    simp -implicitDefEqProofs only[go_sem]
end
end Go.Cm
end
