/-
  Part of a proof about the package floodgatelaw02 (shortened by a program). Conditions: none.
-/
import Derived.Test.YthbifneaknlfgaaGreatDoorGP8
set_option linter.unusedSimpArgs false
set_option linter.unusedVariables false
section
open Go.Proofs
set_option maxRecDepth 100000
set_option maxHeartbeats 40000000
namespace Go.Cm
theorem refFields (x:Nd) (kk:Nat) (nmd:Bool) (hq:(kk == 2)=nmd) (hn:Fn Tryz.prog 89 [S x.text] (.int .u8 kk)):Fn Tryz.prog 45 [.agg x.cv] (.bool (fldR nmd x.k x.text x.n x.pl)):=by
 have hq2:((kk:Int) != 2) = !nmd:=by
  rw[← hq,bne]
  congr 1
  rw[Bool.eq_iff_iff]; simp; omega
 obtain ⟨k,text,n,kids,pl⟩:=x
 simp only[Nd.cv]at hn ⊢
 rcases (show (k=1∨k=2∨k=3∨k=26∨k=42∨k=43∨k=44∨k=64∨k=65∨k=47∨k=48∨k=40∨k=41∨k=28∨k=29)∨(k≠1∧k≠2∧k≠3∧k≠26∧k≠42∧k≠43∧k≠44∧k≠64∧k≠65∧k≠47∧k≠48∧k≠40∧k≠41∧k≠28∧k≠29) by omega) with (rfl | rfl | rfl | rfl | rfl | rfl | rfl | rfl | rfl | rfl | rfl | rfl | rfl | rfl | rfl) | rest
 ·refine Ja c45_ok rfl rfl fun N=>?_
  simp (maxSteps:=2000000) -implicitDefEqProofs only[c45,go_sem,Int.cast_ofNat_Int]
  refine vr_f (KD n 0 1000000000) ?_
  by_cases ht:text=[]
  ·have t1:(text == [])=true:=beq_iff_eq.2 ht
   cases hc:inI 0 1000000000 n with
   |true=>
    simp (maxSteps:=2000000) -implicitDefEqProofs only[c45,go_sem,Int.cast_ofNat_Int,t1,hc]
    refine Js (gok rfl) (KD pl 0 2500) ?_
    simp (maxSteps:=2000000) -implicitDefEqProofs only[go_sem]
    simp[fldR,t1,hc]
   |false=>
    cases h0:(n == 0) with
    |true=>
     simp (maxSteps:=2000000) -implicitDefEqProofs only[c45,go_sem,Int.cast_ofNat_Int,t1,hc,h0]
     refine Js (gok rfl) (KD pl 0 2500) ?_
     simp (maxSteps:=2000000) -implicitDefEqProofs only[go_sem]
     simp[fldR,t1,hc,h0]
    |false=>
     simp (maxSteps:=2000000) -implicitDefEqProofs only[c45,go_sem,Int.cast_ofNat_Int,t1,hc,h0]
     simp[fldR,t1,hc,h0]
  ·have t1:(text == [])=false:=beq_eq_false_iff_ne.2 ht
   simp (maxSteps:=2000000) -implicitDefEqProofs only[c45,go_sem,Int.cast_ofNat_Int,t1]
   simp[fldR,t1]
 ·refine Ja c45_ok rfl rfl fun N=>?_
  simp (maxSteps:=2000000) -implicitDefEqProofs only[c45,go_sem,Int.cast_ofNat_Int]
  refine vr_f (KD n 0 1) ?_
  by_cases ht:text=[]
  ·have t1:(text == [])=true:=beq_iff_eq.2 ht
   cases hc:inI 0 1 n with
   |true=>
    simp (maxSteps:=2000000) -implicitDefEqProofs only[c45,go_sem,Int.cast_ofNat_Int,t1,hc]
    refine Js (gok rfl) (KD pl 0 2500) ?_
    simp (maxSteps:=2000000) -implicitDefEqProofs only[go_sem]
    simp[fldR,t1,hc]
   |false=>
    cases h0:(n == 0) with
    |true=>
     simp (maxSteps:=2000000) -implicitDefEqProofs only[c45,go_sem,Int.cast_ofNat_Int,t1,hc,h0]
     refine Js (gok rfl) (KD pl 0 2500) ?_
     simp (maxSteps:=2000000) -implicitDefEqProofs only[go_sem]
     simp[fldR,t1,hc,h0]
    |false=>
     simp (maxSteps:=2000000) -implicitDefEqProofs only[c45,go_sem,Int.cast_ofNat_Int,t1,hc,h0]
     simp[fldR,t1,hc,h0]
  ·have t1:(text == [])=false:=beq_eq_false_iff_ne.2 ht
   simp (maxSteps:=2000000) -implicitDefEqProofs only[c45,go_sem,Int.cast_ofNat_Int,t1]
   simp[fldR,t1]
 ·refine Ja c45_ok rfl rfl fun N=>?_
  simp (maxSteps:=2000000) -implicitDefEqProofs only[c45,go_sem,Int.cast_ofNat_Int]
  refine Js (gok rfl) hn ?_
  cases nmd with
  |false=>
   simp only[Bool.not_false]at hq2
   simp (maxSteps:=2000000) -implicitDefEqProofs only[go_sem,hq2]
   simp[fldR]
  |true=>
   simp only[Bool.not_true]at hq2
   cases h0:(n == 0) with
   |true=>
    simp (maxSteps:=2000000) -implicitDefEqProofs only[c45,go_sem,Int.cast_ofNat_Int,hq2,h0]
    refine Js (gok rfl) (KD pl 0 2500) ?_
    simp (maxSteps:=2000000) -implicitDefEqProofs only[go_sem]
    simp[fldR,hq2,h0]
   |false=>
    simp (maxSteps:=2000000) -implicitDefEqProofs only[c45,go_sem,Int.cast_ofNat_Int,hq2,h0]
    simp[fldR,h0]
 ·refine Ja c45_ok rfl rfl fun N=>?_
  simp (maxSteps:=2000000) -implicitDefEqProofs only[c45,go_sem,Int.cast_ofNat_Int]
  refine Js (gok rfl) hn ?_
  cases nmd with
  |false=>
   simp only[Bool.not_false]at hq2
   simp (maxSteps:=2000000) -implicitDefEqProofs only[go_sem,hq2]
   simp[fldR]
  |true=>
   simp only[Bool.not_true]at hq2
   cases h0:(n == 0) with
   |true=>
    simp (maxSteps:=2000000) -implicitDefEqProofs only[c45,go_sem,Int.cast_ofNat_Int,hq2,h0]
    refine Js (gok rfl) (KD pl 0 2500) ?_
    simp (maxSteps:=2000000) -implicitDefEqProofs only[go_sem]
    simp[fldR,hq2,h0]
   |false=>
    simp (maxSteps:=2000000) -implicitDefEqProofs only[c45,go_sem,Int.cast_ofNat_Int,hq2,h0]
    simp[fldR,h0]
 ·refine Ja c45_ok rfl rfl fun N=>?_
  simp (maxSteps:=2000000) -implicitDefEqProofs only[c45,go_sem,Int.cast_ofNat_Int]
  refine Js (gok rfl) hn ?_
  cases nmd with
  |false=>
   simp only[Bool.not_false]at hq2
   simp (maxSteps:=2000000) -implicitDefEqProofs only[go_sem,hq2]
   simp[fldR]
  |true=>
   simp only[Bool.not_true]at hq2
   cases h0:(n == 0) with
   |true=>
    simp (maxSteps:=2000000) -implicitDefEqProofs only[c45,go_sem,Int.cast_ofNat_Int,hq2,h0]
    refine Js (gok rfl) (KD pl 0 2500) ?_
    simp (maxSteps:=2000000) -implicitDefEqProofs only[go_sem]
    simp[fldR,hq2,h0]
   |false=>
    simp (maxSteps:=2000000) -implicitDefEqProofs only[c45,go_sem,Int.cast_ofNat_Int,hq2,h0]
    simp[fldR,h0]
 ·refine Ja c45_ok rfl rfl fun N=>?_
  simp (maxSteps:=2000000) -implicitDefEqProofs only[c45,go_sem,Int.cast_ofNat_Int]
  refine Js (gok rfl) hn ?_
  cases nmd with
  |false=>
   simp only[Bool.not_false]at hq2
   simp (maxSteps:=2000000) -implicitDefEqProofs only[go_sem,hq2]
   simp[fldR]
  |true=>
   simp only[Bool.not_true]at hq2
   cases h0:(n == 0) with
   |true=>
    simp (maxSteps:=2000000) -implicitDefEqProofs only[c45,go_sem,Int.cast_ofNat_Int,hq2,h0]
    refine Js (gok rfl) (KD pl 0 2500) ?_
    simp (maxSteps:=2000000) -implicitDefEqProofs only[go_sem]
    simp[fldR,hq2,h0]
   |false=>
    simp (maxSteps:=2000000) -implicitDefEqProofs only[c45,go_sem,Int.cast_ofNat_Int,hq2,h0]
    simp[fldR,h0]
 ·refine Ja c45_ok rfl rfl fun N=>?_
  simp (maxSteps:=2000000) -implicitDefEqProofs only[c45,go_sem,Int.cast_ofNat_Int]
  refine Js (gok rfl) hn ?_
  cases nmd with
  |false=>
   simp only[Bool.not_false]at hq2
   simp (maxSteps:=2000000) -implicitDefEqProofs only[go_sem,hq2]
   simp[fldR]
  |true=>
   simp only[Bool.not_true]at hq2
   cases h0:(n == 0) with
   |true=>
    simp (maxSteps:=2000000) -implicitDefEqProofs only[c45,go_sem,Int.cast_ofNat_Int,hq2,h0]
    refine Js (gok rfl) (KD pl 0 2500) ?_
    simp (maxSteps:=2000000) -implicitDefEqProofs only[go_sem]
    simp[fldR,hq2,h0]
   |false=>
    simp (maxSteps:=2000000) -implicitDefEqProofs only[c45,go_sem,Int.cast_ofNat_Int,hq2,h0]
    simp[fldR,h0]
 ·refine Ja c45_ok rfl rfl fun N=>?_
  simp (maxSteps:=2000000) -implicitDefEqProofs only[c45,go_sem,Int.cast_ofNat_Int]
  refine Js (gok rfl) hn ?_
  cases nmd with
  |false=>
   simp only[Bool.not_false]at hq2
   simp (maxSteps:=2000000) -implicitDefEqProofs only[go_sem,hq2]
   simp[fldR]
  |true=>
   simp only[Bool.not_true]at hq2
   cases h0:(n == 0) with
   |true=>
    simp (maxSteps:=2000000) -implicitDefEqProofs only[c45,go_sem,Int.cast_ofNat_Int,hq2,h0]
    refine Js (gok rfl) (KD pl 0 2500) ?_
    simp (maxSteps:=2000000) -implicitDefEqProofs only[go_sem]
    simp[fldR,hq2,h0]
   |false=>
    simp (maxSteps:=2000000) -implicitDefEqProofs only[c45,go_sem,Int.cast_ofNat_Int,hq2,h0]
    simp[fldR,h0]
 ·refine Ja c45_ok rfl rfl fun N=>?_
  simp (maxSteps:=2000000) -implicitDefEqProofs only[c45,go_sem,Int.cast_ofNat_Int]
  refine Js (gok rfl) hn ?_
  cases nmd with
  |false=>
   simp only[Bool.not_false]at hq2
   simp (maxSteps:=2000000) -implicitDefEqProofs only[go_sem,hq2]
   simp[fldR]
  |true=>
   simp only[Bool.not_true]at hq2
   simp (maxSteps:=2000000) -implicitDefEqProofs only[c45,go_sem,Int.cast_ofNat_Int,hq2]
   refine Js (gok rfl) (KD pl 0 2500) ?_
   simp (maxSteps:=2000000) -implicitDefEqProofs only[go_sem]
   simp[fldR,hq2]
 ·refine Ja c45_ok rfl rfl fun N=>?_
  simp (maxSteps:=2000000) -implicitDefEqProofs only[c45,go_sem,Int.cast_ofNat_Int]
  refine Js (gok rfl) hn ?_
  cases nmd with
  |false=>
   simp only[Bool.not_false]at hq2
   simp (maxSteps:=2000000) -implicitDefEqProofs only[go_sem,hq2]
   simp[fldR]
  |true=>
   simp only[Bool.not_true]at hq2
   simp (maxSteps:=2000000) -implicitDefEqProofs only[c45,go_sem,Int.cast_ofNat_Int,hq2]
   refine Js (gok rfl) (KD pl 0 2500) ?_
   simp (maxSteps:=2000000) -implicitDefEqProofs only[go_sem]
   simp[fldR,hq2]
 ·refine Ja c45_ok rfl rfl fun N=>?_
  by_cases ht:text=[]
  ·have t1:(text == [])=true:=beq_iff_eq.2 ht
   simp (maxSteps:=2000000) -implicitDefEqProofs only[c45,go_sem,Int.cast_ofNat_Int,t1]
   refine Js (gok rfl) (KD pl 0 2500) ?_
   simp (maxSteps:=2000000) -implicitDefEqProofs only[go_sem]
   simp[fldR,t1]
  ·have t1:(text == [])=false:=beq_eq_false_iff_ne.2 ht
   by_cases ht2:text=[35]
   ·have t2:(text == [35])=true:=beq_iff_eq.2 ht2
    simp (maxSteps:=2000000) -implicitDefEqProofs only[c45,go_sem,Int.cast_ofNat_Int,t1,t2]
    refine Js (gok rfl) (KD pl 0 2500) ?_
    simp (maxSteps:=2000000) -implicitDefEqProofs only[go_sem]
    simp[fldR,t1,t2]
   ·have t2:(text == [35])=false:=beq_eq_false_iff_ne.2 ht2
    simp (maxSteps:=2000000) -implicitDefEqProofs only[c45,go_sem,Int.cast_ofNat_Int,t1,t2]
    simp[fldR,t1,t2]
 ·refine Ja c45_ok rfl rfl fun N=>?_
  by_cases ht:text=[]
  ·have t1:(text == [])=true:=beq_iff_eq.2 ht
   simp (maxSteps:=2000000) -implicitDefEqProofs only[c45,go_sem,Int.cast_ofNat_Int,t1]
   refine Js (gok rfl) (KD pl 0 2500) ?_
   simp (maxSteps:=2000000) -implicitDefEqProofs only[go_sem]
   simp[fldR,t1]
  ·have t1:(text == [])=false:=beq_eq_false_iff_ne.2 ht
   simp (maxSteps:=2000000) -implicitDefEqProofs only[c45,go_sem,Int.cast_ofNat_Int,t1]
   simp[fldR,t1]
 ·refine Ja c45_ok rfl rfl fun N=>?_
  by_cases ht:text=[]
  ·have t1:(text == [])=true:=beq_iff_eq.2 ht
   simp (maxSteps:=2000000) -implicitDefEqProofs only[c45,go_sem,Int.cast_ofNat_Int,t1]
   refine Js (gok rfl) (KD pl 0 2500) ?_
   simp (maxSteps:=2000000) -implicitDefEqProofs only[go_sem]
   simp[fldR,t1]
  ·have t1:(text == [])=false:=beq_eq_false_iff_ne.2 ht
   simp (maxSteps:=2000000) -implicitDefEqProofs only[c45,go_sem,Int.cast_ofNat_Int,t1]
   simp[fldR,t1]
 ·refine Ja c45_ok rfl rfl fun N=>?_
  by_cases ht:text=[]
  ·have t1:(text == [])=true:=beq_iff_eq.2 ht
   simp (maxSteps:=2000000) -implicitDefEqProofs only[c45,go_sem,Int.cast_ofNat_Int,t1]
   refine Js (gok rfl) (KD pl 0 2500) ?_
   simp (maxSteps:=2000000) -implicitDefEqProofs only[go_sem]
   simp[fldR,t1]
  ·have t1:(text == [])=false:=beq_eq_false_iff_ne.2 ht
   simp (maxSteps:=2000000) -implicitDefEqProofs only[c45,go_sem,Int.cast_ofNat_Int,t1]
   simp[fldR,t1]
 ·refine Ja c45_ok rfl rfl fun N=>?_
  by_cases ht:text=[]
  ·have t1:(text == [])=true:=beq_iff_eq.2 ht
   simp (maxSteps:=2000000) -implicitDefEqProofs only[c45,go_sem,Int.cast_ofNat_Int,t1]
   refine Js (gok rfl) (KD pl 0 2500) ?_
   simp (maxSteps:=2000000) -implicitDefEqProofs only[go_sem]
   simp[fldR,t1]
  ·have t1:(text == [])=false:=beq_eq_false_iff_ne.2 ht
   simp (maxSteps:=2000000) -implicitDefEqProofs only[c45,go_sem,Int.cast_ofNat_Int,t1]
   simp[fldR,t1]
 ·obtain ⟨r0,r1,r2,r3,r4,r5,r6,r7,r8,r9,r10,r11,r12,r13,r14⟩:=rest
  have e1:=kb (m:=1) (k:=k) (by omega)
  simp only[Int.cast_ofNat_Int]at e1
  have e2:=kb (m:=2) (k:=k) (by omega)
  simp only[Int.cast_ofNat_Int]at e2
  have e3:=kb (m:=3) (k:=k) (by omega)
  simp only[Int.cast_ofNat_Int]at e3
  have e26:=kb (m:=26) (k:=k) (by omega)
  simp only[Int.cast_ofNat_Int]at e26
  have e42:=kb (m:=42) (k:=k) (by omega)
  simp only[Int.cast_ofNat_Int]at e42
  have e43:=kb (m:=43) (k:=k) (by omega)
  simp only[Int.cast_ofNat_Int]at e43
  have e44:=kb (m:=44) (k:=k) (by omega)
  simp only[Int.cast_ofNat_Int]at e44
  have e64:=kb (m:=64) (k:=k) (by omega)
  simp only[Int.cast_ofNat_Int]at e64
  have e65:=kb (m:=65) (k:=k) (by omega)
  simp only[Int.cast_ofNat_Int]at e65
  have e47:=kb (m:=47) (k:=k) (by omega)
  simp only[Int.cast_ofNat_Int]at e47
  have e48:=kb (m:=48) (k:=k) (by omega)
  simp only[Int.cast_ofNat_Int]at e48
  have e40:=kb (m:=40) (k:=k) (by omega)
  simp only[Int.cast_ofNat_Int]at e40
  have e41:=kb (m:=41) (k:=k) (by omega)
  simp only[Int.cast_ofNat_Int]at e41
  have e28:=kb (m:=28) (k:=k) (by omega)
  simp only[Int.cast_ofNat_Int]at e28
  have e29:=kb (m:=29) (k:=k) (by omega)
  simp only[Int.cast_ofNat_Int]at e29
  have hE:fldR nmd k text n pl=(text == [] && (n == 0 && inI 0 2500 pl)):=by
   simp only[fldR]
   rw[if_neg (by omega),if_neg (by omega),if_neg (by omega)]
   have d1:decide (k=3∨k=26∨k=42∨k=43∨k=44∨k=64∨k=65∨k=47)=false:=decide_eq_false (by omega)
   have d2:decide (k=65∨k=47∨k=40∨k=41∨k=28∨k=29)=false:=decide_eq_false (by omega)
   rw[d1,d2]
   simp
  rw[hE]
  refine Ja c45_ok rfl rfl fun N=>?_
  by_cases ht:text=[]
  ·have t1:(text == [])=true:=beq_iff_eq.2 ht
   cases h0:(n == 0) with
   |true=>
    simp (maxSteps:=2000000) -implicitDefEqProofs only[c45,go_sem,Int.cast_ofNat_Int,t1,h0,e1,e2,e3,e26,e42,e43,e44,e64,e65,e47,e48,e40,e41,e28,e29]
    refine Js (gok rfl) (KD pl 0 2500) ?_
    simp (maxSteps:=2000000) -implicitDefEqProofs only[go_sem]
   |false=>
    simp (maxSteps:=2000000) -implicitDefEqProofs only[c45,go_sem,Int.cast_ofNat_Int,t1,h0,e1,e2,e3,e26,e42,e43,e44,e64,e65,e47,e48,e40,e41,e28,e29]
  ·have t1:(text == [])=false:=beq_eq_false_iff_ne.2 ht
   simp (maxSteps:=2000000) -implicitDefEqProofs only[c45,go_sem,Int.cast_ofNat_Int,t1,e1,e2,e3,e26,e42,e43,e44,e64,e65,e47,e48,e40,e41,e28,e29]
end Go.Cm
end
