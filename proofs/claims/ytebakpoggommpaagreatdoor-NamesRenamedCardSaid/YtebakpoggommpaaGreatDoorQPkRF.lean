/-
  A part of the proof. Conditions: none.
-/
import Derived.Test.YtebakpoggommpaaGreatDoorQP7
set_option linter.unusedSimpArgs false
set_option linter.unusedVariables false
open Bool renaming eq_false_or_eq_true→Ga
noncomputable section
section
set_option maxRecDepth 100000
set_option maxHeartbeats 40000000
open Go.Proofs
namespace Go.Cm
theorem refFields (x:Nd) (kk:Nat) (nmd:Bool) (hq:(kk == 2)=nmd) (hn:Fn Tryz.prog 99 [S x.text] (.int .u8 kk)):Fn Tryz.prog 45 [.agg x.cv] (.bool (Qx nmd x.k x.text x.n x.pl)):=by
 have hq2:((kk:Int) != 2) = !nmd:=by
  rw[← hq,bne]
  congr 1
  rw[Bool.eq_iff_iff]; simp; omega
 obtain ⟨k,text,n,kids,pl⟩:=x
 simp only[Nd.cv]at hn ⊢
 by_cases hC:k=1∨k=2∨k=3∨k=26∨k=42∨k=43∨k=44∨k=64∨k=65∨k=47∨k=48∨k=40∨k=41∨k=28∨k=29
 rotate_left
 ·have hE:Qx nmd k text n pl=(text == [] && (n == 0 && inI 0 2500 pl)):=by
   simp only[Qx]
   have d1:decide (k=3∨k=26∨k=42∨k=43∨k=44∨k=64∨k=65∨k=47)=false:=decide_eq_false (by omega)
   have d2:decide (k=65∨k=47∨k=40∨k=41∨k=28∨k=29)=false:=decide_eq_false (by omega)
   rw[if_neg (by omega),if_neg (by omega),if_neg (by omega),d1,d2]
   simp
  rw[hE]
  simp only[not_or]at hC
  refine Jb c45_ok rfl rfl fun N=>?_
  cases t1:text == [] <;> cases h0:n == 0 <;> repeat first
   |refine JV (gok rfl) (Jbc pl 0 2500) ?_
   |simp (maxSteps:=2000000) -implicitDefEqProofs only[c45,go_sem,Int.cast_ofNat_Int,t1,h0,kbo,hC,not_false_eq_true]
 rcases hC with rfl | rfl | rfl | rfl | rfl | rfl | rfl | rfl | rfl | rfl | rfl | rfl | rfl | rfl | rfl <;> (
  simp only[Qx]
  refine Jb c45_ok rfl rfl fun N=>?_
  repeat first
   |refine JR (Jbc n 0 1000000000) ?_
   |refine JR (Jbc n 0 1) ?_
   |refine JV (gok rfl) (Jbc pl 0 2500) ?_
   |refine JV (gok rfl) hn ?_; clear hq hn; revert hq2; cases nmd <;> intro hq2 <;> simp only[Bool.not_true,Bool.not_false]at hq2
   |simp (maxSteps:=2000000) -implicitDefEqProofs only[c45,go_sem,Int.cast_ofNat_Int,hq2]
   |rcases Ga (text == []) with t1 | t1 <;> rw[t1]
   |rcases Ga (text == [35]) with t2 | t2 <;> rw[t2]
   |rcases Ga (n == 0) with h0 | h0 <;> rw[h0]
   |rcases Ga (inI 0 1000000000 n) with hc | hc <;> rw[hc]
   |rcases Ga (inI 0 1 n) with hc | hc <;> rw[hc]
  all_goals first | simp | simp_all)
end Go.Cm
end
end
