/-
  A part of the proof. Conditions: none.
-/
import Derived.Test.YtaiboeciecfgoaaGreatDoorRP3
set_option linter.unusedSimpArgs false
set_option linter.unusedVariables false
open List renaming length_cons→Ga,length_nil→Gb
open Int renaming cast_ofNat_Int→Gc
noncomputable section
section
set_option maxRecDepth 100000
set_option maxHeartbeats 20000000
open Go.Proofs
namespace Go.Cm
theorem expectedL (x:Nd) (hv:List UInt8) (hl:hv.length≤1000):Fn Tryz.prog 192 [.agg x.cv,S hv] (S (KJ x.k hv)):=by
 obtain ⟨k,text,n,kids,pl⟩:=x
 have hcnt:=fun c=>cntB_le c hv
 simp only[Nd.cv]
 by_cases hA:4≤k∧k≤24
 ·have f1:((4:Int)≤(k:Int))=True:=Jn
  by_cases hB:k≤18
  ·have f2:((k:Int)≤18)=True:=Jn
   rw[show KJ k hv=[101,101] by simp only[KJ]; rw[if_pos (by omega)]]
   refine KR c192_ok rfl rfl (by simp only[Ga,Gb]; decide) fun N=>?_
   simp (maxSteps:=2000000) -implicitDefEqProofs only[c192,go_sem,f1,f2]
  ·have f2:((k:Int)≤18)=False:=Jj
   have f3:((19:Int)≤(k:Int))=True:=Jn
   have f4:((k:Int)≤24)=True:=Jn
   rw[show KJ k hv=[101] by simp only[KJ]; rw[if_neg (by omega),if_pos (by omega)]]
   refine KR c192_ok rfl rfl (by simp only[Ga,Gb]; decide) fun N=>?_
   simp (maxSteps:=2000000) -implicitDefEqProofs only[c192,go_sem,f1,f2,f3,f4]
 by_cases hC:k=42
 ·subst hC
  have e1:(([]:List UInt8) == [])=true:=rfl
  have e2:∀ (a:UInt8) l,(a::l == [])=false:=fun _ _=>rfl
  cases hv <;> (refine KR c192_ok rfl rfl (by simp only[Ga,Gb]; decide) fun N=>?_; simp (maxSteps:=2000000) -implicitDefEqProofs only[c192,go_sem,Gc,e1,e2]; simp[KJ])
 by_cases hD:k=43∨k=44∨k=25∨k=62∨k=63∨k=64∨k=26∨k=45∨k=27∨k=28∨k=29∨k=40∨k=41∨k=46∨k=47∨k=65
 rotate_left
 ·simp only[not_or]at hD
  rw[show KJ k hv=[] by simp only[KJ]; repeat rw[if_neg (by first | omega | exact fun h=>hC h.1)]]
  have f2:((k:Int)≤18)=(k < 4):=propext (by omega)
  have f3:((4:Int)≤(k:Int))=¬ k < 4:=propext (by omega)
  have f4:((19:Int)≤(k:Int))=¬ k < 4:=propext (by omega)
  have f5:((k:Int)≤24)=(k < 4):=propext (by omega)
  by_cases h4:k < 4 <;> (refine KR c192_ok rfl rfl (by simp only[Ga,Gb]; decide) fun N=>?_; simp (maxSteps:=2000000) -implicitDefEqProofs only[c192,go_sem,f2,f3,f4,f5,h4,kbo,hD,hC,not_true_eq_false,not_false_eq_true])
 rcases hD with rfl | rfl | rfl | rfl | rfl | rfl | rfl | rfl | rfl | rfl | rfl | rfl | rfl | rfl | rfl | rfl <;> (
  refine KR c192_ok rfl rfl (by simp only[Ga,Gb]; decide) fun N=>?_
  repeat first
   |refine Jg (id:=1) (z:=1) (els:=[[S hv]]) rfl rfl ?_; simp only[go_sem,Ko,frz,J2,KG]
   |refine vr_fvS (l1:=[]) (l2:=[.rptr [S hv]]) (args:=[S [_]]) c213_ok nm (many1 _ hv hl) rfl rfl Jd5 ?_
   |refine ⟨by have h1:=hcnt 73; have h2:=hcnt 83; have h3:=hcnt 78; have h4:=hcnt 99; have h5:=hcnt 101; have h6:=hcnt 98; have h7:=hcnt 80; have h8:=hcnt 116; simp; omega,?_⟩
   |simp (maxSteps:=2000000) -implicitDefEqProofs only[c192,go_sem,Gc,List.length_replicate]
  all_goals first | rfl | simp[KJ])
theorem sizedL (x:Nd) (hv:List UInt8):Fn Tryz.prog 195 [.agg x.cv,S hv] (.bool (Qc x.k x.n hv)):=by
 obtain ⟨k,text,n,kids,pl⟩:=x
 simp only[Nd.cv]
 by_cases hD:k=65∨k=26∨k=40∨k=45∨k=41∨k=28∨k=29∨k=48∨k=47
 rotate_left
 ·simp only[not_or]at hD
  rw[show Qc k n hv=true by simp only[Qc]; repeat rw[if_neg (by omega)]]
  refine KR c195_ok rfl rfl (by simp only[Ga,Gb]; decide) fun N=>?_
  simp (maxSteps:=2000000) -implicitDefEqProofs only[c195,go_sem,kbo,hD,not_false_eq_true]
 rcases hD with rfl | rfl | rfl | rfl | rfl | rfl | rfl | rfl | rfl <;> (
  refine KR c195_ok rfl rfl (by simp only[Ga,Gb]; decide) fun N=>?_
  simp only[Qc]
  repeat first
   |refine Jg (id:=1) (z:=1) (els:=[[S hv]]) rfl rfl ?_; simp only[go_sem,Ko,frz,J2,KG]
   |refine vr_fvSB (l1:=[]) (l2:=[.rptr [S hv]]) (args:=[S [_],.int .i64 _,.int .i64 _]) c218_ok nm (many2 _ _ _ hv) rfl rfl (by first | exact Jd5 | exact gokS rfl) (fun B hb=>?_); try simp only[hb]; clear hb; cases B
   |refine X4 (within 0 100 n) rfl (by first | exact Jd5 | exact gokS rfl) ?_
   |refine X4 (within 1 9 n) rfl Jd5 ?_
   |simp (maxSteps:=2000000) -implicitDefEqProofs only[c195,go_sem,Gc]
  all_goals simp)
def fldI (nmd:Bool) (k:Nat) (text:List UInt8) (n:Int) (hv:List UInt8):Bool:=Qk nmd k text && Ql k n hv
theorem fieldsL (x:Nd) (hv:List UInt8) (nmd:Bool) (hn:Fn Tryz.prog 216 [S x.text] (.bool nmd)):Fn Tryz.prog 194 [.agg x.cv,S hv] (.bool (fldI nmd x.k x.text x.n hv)):=by
 obtain ⟨k,text,n,kids,pl⟩:=x
 simp only at hn
 simp only[Nd.cv]
 by_cases hC:(k=3∨k=26∨k=42∨k=43∨k=44∨k=47∨k=64∨k=65∨k=48∨k=40∨k=41∨k=28∨k=1∨k=2∨k=29)
 rotate_left
 ·rw[show fldI nmd k text n hv=(text == [] && n == 0) by simp only[fldI,Qk,Ql]; repeat rw[if_neg (by omega)]]
  have hE:=counted k
  rw[show cntdV k=.tup [S [],.bool false] by simp only[cntdV]; repeat rw[if_neg (by omega)]]at hE
  simp only[not_or]at hC
  refine KR c194_ok rfl rfl (by simp only[Ga,Gb]; decide) fun N=>?_
  cases t1:text == [] <;> repeat first
   |simp (maxSteps:=2000000) -implicitDefEqProofs only[c194,go_sem,t1,kbo,hC,not_false_eq_true]
   |refine X4 hE rfl Jd5 ?_
 rcases hC with rfl | rfl | rfl | rfl | rfl | rfl | rfl | rfl | rfl | rfl | rfl | rfl | rfl | rfl | rfl <;> (
  refine KR c194_ok rfl rfl (by simp only[Ga,Gb]; decide) fun N=>?_
  simp only[fldI,Qk,Ql]
  repeat first
   |refine X4 hn rfl Jd5 ?_; cases nmd
   |refine X4 (within 0 1000000000 n) rfl Jd5 ?_
   |refine X4 (within 0 1 n) rfl Jd5 ?_
   |refine JS JA (by decide) ?_
   |refine JO (.inl rfl) (countL hv _) ?_
   |simp (maxSteps:=2000000) -implicitDefEqProofs only[c194,go_sem,Gc,cntdV,Nat.reduceEqDiff,if_true,if_false]
   |rcases Bool.eq_false_or_eq_true (text == []) with hb | hb <;> rw[hb]
   |rcases Bool.eq_false_or_eq_true (text == [35]) with hb | hb <;> rw[hb]
   |refine X4 (counted 3) rfl Jd5 ?_
   |refine X4 (counted 26) rfl Jd5 ?_
   |refine X4 (counted 42) rfl Jd5 ?_
   |refine X4 (counted 43) rfl Jd5 ?_
   |refine X4 (counted 44) rfl Jd5 ?_
   |refine X4 (counted 47) rfl Jd5 ?_
   |refine X4 (counted 64) rfl Jd5 ?_
   |refine X4 (counted 65) rfl Jd5 ?_
   |refine X4 (counted 48) rfl Jd5 ?_
   |refine X4 (counted 40) rfl Jd5 ?_
   |refine X4 (counted 41) rfl Jd5 ?_
   |refine X4 (counted 28) rfl Jd5 ?_
   |refine X4 (counted 1) rfl Jd5 ?_
   |refine X4 (counted 2) rfl Jd5 ?_
   |refine X4 (counted 29) rfl Jd5 ?_
  all_goals first | simp | simp_all)
end Go.Cm
end
end
