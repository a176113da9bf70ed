/-
  Part of a proof about the package floodgatelaw02 (shortened by a program). Conditions: none.
-/
import Derived.Test.YthbifneaknlfgaaGreatDoorGP3
import Derived.Test.YthbifneaknlfgaaGreatDoorGA3
set_option linter.unusedSimpArgs false
set_option linter.unusedVariables false
section
open Go.Proofs
set_option maxRecDepth 100000
set_option maxHeartbeats 20000000
namespace Go.Cm
theorem expectedL (x:Nd) (hv:List UInt8) (hl:hv.length≤1000):Fn Tryz.prog 94 [.agg x.cv,S hv] (S (expL x.k hv)):=by
 obtain ⟨k,text,n,kids,pl⟩:=x
 have hcnt:=fun c=>cntB_le c hv
 simp only[Nd.cv]
 by_cases hA:4≤k∧k≤18
 ·have f1:((4:Int)≤(k:Int))=True:=eq_true (by omega)
  have f2:((k:Int)≤18)=True:=eq_true (by omega)
  have hE:expL k hv=[101,101]:=by simp only[expL]; rw[if_pos hA]
  rw[hE]
  refine Ji c94_ok rfl rfl (by simp only[List.length_cons,List.length_nil]; decide) fun N=>?_
  simp (maxSteps:=2000000) -implicitDefEqProofs only[c94,go_sem,f1,f2]
 by_cases hB:19≤k∧k≤24
 ·have f1:((4:Int)≤(k:Int))=True:=eq_true (by omega)
  have f2:((k:Int)≤18)=False:=eq_false (by omega)
  have f3:((19:Int)≤(k:Int))=True:=eq_true (by omega)
  have f4:((k:Int)≤24)=True:=eq_true (by omega)
  have hE:expL k hv=[101]:=by simp only[expL]; rw[if_neg hA,if_pos (.inl hB)]
  rw[hE]
  refine Ji c94_ok rfl rfl (by simp only[List.length_cons,List.length_nil]; decide) fun N=>?_
  simp (maxSteps:=2000000) -implicitDefEqProofs only[c94,go_sem,f1,f2,f3,f4]
 have hAB:¬ (4≤k∧k≤18)∧¬ (19≤k∧k≤24):=⟨hA,hB⟩
 rcases (show (k=43∨k=44∨k=25∨k=62∨k=63∨k=64∨k=26∨k=45∨k=27∨k=28∨k=29∨k=40∨k=41∨k=42∨k=46∨k=47∨k=65)∨(k≠43∧k≠44∧k≠25∧k≠62∧k≠63∧k≠64∧k≠26∧k≠45∧k≠27∧k≠28∧k≠29∧k≠40∧k≠41∧k≠42∧k≠46∧k≠47∧k≠65) by omega) with (rfl | rfl | rfl | rfl | rfl | rfl | rfl | rfl | rfl | rfl | rfl | rfl | rfl | rfl | rfl | rfl | rfl) | rest
 ·clear hAB
  refine Ji c94_ok rfl rfl (by simp only[List.length_cons,List.length_nil]; decide) fun N=>?_
  simp (maxSteps:=2000000) -implicitDefEqProofs only[c94,go_sem,Int.cast_ofNat_Int]
  rfl
 ·clear hAB
  refine Ji c94_ok rfl rfl (by simp only[List.length_cons,List.length_nil]; decide) fun N=>?_
  simp (maxSteps:=2000000) -implicitDefEqProofs only[c94,go_sem,Int.cast_ofNat_Int]
  rfl
 ·clear hAB
  refine Ji c94_ok rfl rfl (by simp only[List.length_cons,List.length_nil]; decide) fun N=>?_
  simp (maxSteps:=2000000) -implicitDefEqProofs only[c94,go_sem,Int.cast_ofNat_Int]
  rfl
 ·clear hAB
  refine Ji c94_ok rfl rfl (by simp only[List.length_cons,List.length_nil]; decide) fun N=>?_
  simp (maxSteps:=2000000) -implicitDefEqProofs only[c94,go_sem,Int.cast_ofNat_Int]
  rfl
 ·clear hAB
  refine Ji c94_ok rfl rfl (by simp only[List.length_cons,List.length_nil]; decide) fun N=>?_
  simp (maxSteps:=2000000) -implicitDefEqProofs only[c94,go_sem,Int.cast_ofNat_Int]
  rfl
 ·clear hAB
  refine Ji c94_ok rfl rfl (by simp only[List.length_cons,List.length_nil]; decide) fun N=>?_
  simp (maxSteps:=2000000) -implicitDefEqProofs only[c94,go_sem,Int.cast_ofNat_Int]
  rfl
 ·clear hAB
  refine Ji c94_ok rfl rfl (by simp only[List.length_cons,List.length_nil]; decide) fun N=>?_
  simp (maxSteps:=2000000) -implicitDefEqProofs only[c94,go_sem,Int.cast_ofNat_Int]
  refine Jn (id:=1) (z:=1) (els:=[[S hv]]) rfl rfl ?_
  simp only[go_sem,frzH,frz,frzL,frzO]
  refine KB (l1:=[]) (l2:=[.rptr [S hv]]) (args:=[S [101]]) c122_ok nm (JbY 101 hv hl) (by simp only[go_sem]) (by simp only[go_sem]) gokN ?_
  simp (maxSteps:=2000000) -implicitDefEqProofs only[go_sem,List.length_replicate]
  rfl
 ·clear hAB
  refine Ji c94_ok rfl rfl (by simp only[List.length_cons,List.length_nil]; decide) fun N=>?_
  simp (maxSteps:=2000000) -implicitDefEqProofs only[c94,go_sem,Int.cast_ofNat_Int]
  refine Jn (id:=1) (z:=1) (els:=[[S hv]]) rfl rfl ?_
  simp only[go_sem,frzH,frz,frzL,frzO]
  refine KB (l1:=[]) (l2:=[.rptr [S hv]]) (args:=[S [101]]) c122_ok nm (JbY 101 hv hl) (by simp only[go_sem]) (by simp only[go_sem]) gokN ?_
  simp (maxSteps:=2000000) -implicitDefEqProofs only[go_sem,List.length_replicate]
  rfl
 ·clear hAB
  refine Ji c94_ok rfl rfl (by simp only[List.length_cons,List.length_nil]; decide) fun N=>?_
  simp (maxSteps:=2000000) -implicitDefEqProofs only[c94,go_sem,Int.cast_ofNat_Int]
  rfl
 ·clear hAB
  refine Ji c94_ok rfl rfl (by simp only[List.length_cons,List.length_nil]; decide) fun N=>?_
  simp (maxSteps:=2000000) -implicitDefEqProofs only[c94,go_sem,Int.cast_ofNat_Int]
  refine Jn (id:=1) (z:=1) (els:=[[S hv]]) rfl rfl ?_
  simp only[go_sem,frzH,frz,frzL,frzO]
  refine KB (l1:=[]) (l2:=[.rptr [S hv]]) (args:=[S [73]]) c122_ok nm (JbY 73 hv hl) (by simp only[go_sem]) (by simp only[go_sem]) gokN ?_
  simp (maxSteps:=2000000) -implicitDefEqProofs only[go_sem,List.length_replicate]
  refine ⟨by have h1:=hcnt 73; have h2:=hcnt 83; have h3:=hcnt 78; have h4:=hcnt 99; have h5:=hcnt 101; have h6:=hcnt 98; have h7:=hcnt 80; have h8:=hcnt 116; simp; omega,?_⟩
  refine KB (l1:=[]) (l2:=[.rptr [S hv]]) (args:=[S [83]]) c122_ok nm (JbY 83 hv hl) (by simp only[go_sem]) (by simp only[go_sem]) gokN ?_
  simp (maxSteps:=2000000) -implicitDefEqProofs only[go_sem,List.length_replicate]
  refine ⟨by have h1:=hcnt 73; have h2:=hcnt 83; have h3:=hcnt 78; have h4:=hcnt 99; have h5:=hcnt 101; have h6:=hcnt 98; have h7:=hcnt 80; have h8:=hcnt 116; simp; omega,?_⟩
  refine KB (l1:=[]) (l2:=[.rptr [S hv]]) (args:=[S [78]]) c122_ok nm (JbY 78 hv hl) (by simp only[go_sem]) (by simp only[go_sem]) gokN ?_
  simp (maxSteps:=2000000) -implicitDefEqProofs only[go_sem,List.length_replicate]
  refine ⟨by have h1:=hcnt 73; have h2:=hcnt 83; have h3:=hcnt 78; have h4:=hcnt 99; have h5:=hcnt 101; have h6:=hcnt 98; have h7:=hcnt 80; have h8:=hcnt 116; simp; omega,?_⟩
  refine ⟨by have h1:=hcnt 73; have h2:=hcnt 83; have h3:=hcnt 78; have h4:=hcnt 99; have h5:=hcnt 101; have h6:=hcnt 98; have h7:=hcnt 80; have h8:=hcnt 116; simp; omega,?_⟩
  simp[expL]
 ·clear hAB
  refine Ji c94_ok rfl rfl (by simp only[List.length_cons,List.length_nil]; decide) fun N=>?_
  simp (maxSteps:=2000000) -implicitDefEqProofs only[c94,go_sem,Int.cast_ofNat_Int]
  refine Jn (id:=1) (z:=1) (els:=[[S hv]]) rfl rfl ?_
  simp only[go_sem,frzH,frz,frzL,frzO]
  refine KB (l1:=[]) (l2:=[.rptr [S hv]]) (args:=[S [99]]) c122_ok nm (JbY 99 hv hl) (by simp only[go_sem]) (by simp only[go_sem]) gokN ?_
  simp (maxSteps:=2000000) -implicitDefEqProofs only[go_sem,List.length_replicate]
  refine ⟨by have h1:=hcnt 73; have h2:=hcnt 83; have h3:=hcnt 78; have h4:=hcnt 99; have h5:=hcnt 101; have h6:=hcnt 98; have h7:=hcnt 80; have h8:=hcnt 116; simp; omega,?_⟩
  rfl
 ·clear hAB
  refine Ji c94_ok rfl rfl (by simp only[List.length_cons,List.length_nil]; decide) fun N=>?_
  simp (maxSteps:=2000000) -implicitDefEqProofs only[c94,go_sem,Int.cast_ofNat_Int]
  refine Jn (id:=1) (z:=1) (els:=[[S hv]]) rfl rfl ?_
  simp only[go_sem,frzH,frz,frzL,frzO]
  refine KB (l1:=[]) (l2:=[.rptr [S hv]]) (args:=[S [83]]) c122_ok nm (JbY 83 hv hl) (by simp only[go_sem]) (by simp only[go_sem]) gokN ?_
  simp (maxSteps:=2000000) -implicitDefEqProofs only[go_sem,List.length_replicate]
  refine KB (l1:=[]) (l2:=[.rptr [S hv]]) (args:=[S [101]]) c122_ok nm (JbY 101 hv hl) (by simp only[go_sem]) (by simp only[go_sem]) gokN ?_
  simp (maxSteps:=2000000) -implicitDefEqProofs only[go_sem,List.length_replicate]
  refine ⟨by have h1:=hcnt 73; have h2:=hcnt 83; have h3:=hcnt 78; have h4:=hcnt 99; have h5:=hcnt 101; have h6:=hcnt 98; have h7:=hcnt 80; have h8:=hcnt 116; simp; omega,?_⟩
  rfl
 ·clear hAB
  refine Ji c94_ok rfl rfl (by simp only[List.length_cons,List.length_nil]; decide) fun N=>?_
  simp (maxSteps:=2000000) -implicitDefEqProofs only[c94,go_sem,Int.cast_ofNat_Int]
  refine Jn (id:=1) (z:=1) (els:=[[S hv]]) rfl rfl ?_
  simp only[go_sem,frzH,frz,frzL,frzO]
  refine KB (l1:=[]) (l2:=[.rptr [S hv]]) (args:=[S [98]]) c122_ok nm (JbY 98 hv hl) (by simp only[go_sem]) (by simp only[go_sem]) gokN ?_
  simp (maxSteps:=2000000) -implicitDefEqProofs only[go_sem,List.length_replicate]
  refine ⟨by have h1:=hcnt 73; have h2:=hcnt 83; have h3:=hcnt 78; have h4:=hcnt 99; have h5:=hcnt 101; have h6:=hcnt 98; have h7:=hcnt 80; have h8:=hcnt 116; simp; omega,?_⟩
  rfl
 ·clear hAB
  refine Ji c94_ok rfl rfl (by simp only[List.length_cons,List.length_nil]; decide) fun N=>?_
  cases hv with
  |nil=>
   have e1:(([]:List UInt8) == [])=true:=rfl
   simp (maxSteps:=2000000) -implicitDefEqProofs only[c94,go_sem,Int.cast_ofNat_Int,e1]
   simp[expL]
  |cons a l=>
   have e1:(a::l == [])=false:=rfl
   simp (maxSteps:=2000000) -implicitDefEqProofs only[c94,go_sem,Int.cast_ofNat_Int,e1]
   simp[expL]
 ·clear hAB
  refine Ji c94_ok rfl rfl (by simp only[List.length_cons,List.length_nil]; decide) fun N=>?_
  simp (maxSteps:=2000000) -implicitDefEqProofs only[c94,go_sem,Int.cast_ofNat_Int]
  rfl
 ·clear hAB
  refine Ji c94_ok rfl rfl (by simp only[List.length_cons,List.length_nil]; decide) fun N=>?_
  simp (maxSteps:=2000000) -implicitDefEqProofs only[c94,go_sem,Int.cast_ofNat_Int]
  rfl
 ·clear hAB
  refine Ji c94_ok rfl rfl (by simp only[List.length_cons,List.length_nil]; decide) fun N=>?_
  simp (maxSteps:=2000000) -implicitDefEqProofs only[c94,go_sem,Int.cast_ofNat_Int]
  refine Jn (id:=1) (z:=1) (els:=[[S hv]]) rfl rfl ?_
  simp only[go_sem,frzH,frz,frzL,frzO]
  refine KB (l1:=[]) (l2:=[.rptr [S hv]]) (args:=[S [80]]) c122_ok nm (JbY 80 hv hl) (by simp only[go_sem]) (by simp only[go_sem]) gokN ?_
  simp (maxSteps:=2000000) -implicitDefEqProofs only[go_sem,List.length_replicate]
  refine KB (l1:=[]) (l2:=[.rptr [S hv]]) (args:=[S [116]]) c122_ok nm (JbY 116 hv hl) (by simp only[go_sem]) (by simp only[go_sem]) gokN ?_
  simp (maxSteps:=2000000) -implicitDefEqProofs only[go_sem,List.length_replicate]
  refine ⟨by have h1:=hcnt 73; have h2:=hcnt 83; have h3:=hcnt 78; have h4:=hcnt 99; have h5:=hcnt 101; have h6:=hcnt 98; have h7:=hcnt 80; have h8:=hcnt 116; simp; omega,?_⟩
  refine ⟨by have h1:=hcnt 73; have h2:=hcnt 83; have h3:=hcnt 78; have h4:=hcnt 99; have h5:=hcnt 101; have h6:=hcnt 98; have h7:=hcnt 80; have h8:=hcnt 116; simp; omega,?_⟩
  simp[expL]
 ·obtain ⟨r1,r2,r3,r4,r5,r6,r7,r8,r9,r10,r11,r12,r13,r14,r15,r16,r17⟩:=rest
  have hE:expL k hv=[]:=by
   simp only[expL]
   rw[if_neg hA,if_neg (by omega),if_neg (by omega),if_neg (by omega),if_neg (by omega),if_neg (by omega),if_neg (by omega),if_neg (by omega),if_neg (by omega),if_neg (fun h=>r14 h.1),if_neg (by omega),if_neg (by omega),if_neg (by omega)]
  rw[hE]
  have e43:=kb (m:=43) (k:=k) (by omega)
  simp only[Int.cast_ofNat_Int]at e43
  have e44:=kb (m:=44) (k:=k) (by omega)
  simp only[Int.cast_ofNat_Int]at e44
  have e25:=kb (m:=25) (k:=k) (by omega)
  simp only[Int.cast_ofNat_Int]at e25
  have e62:=kb (m:=62) (k:=k) (by omega)
  simp only[Int.cast_ofNat_Int]at e62
  have e63:=kb (m:=63) (k:=k) (by omega)
  simp only[Int.cast_ofNat_Int]at e63
  have e64:=kb (m:=64) (k:=k) (by omega)
  simp only[Int.cast_ofNat_Int]at e64
  have e26:=kb (m:=26) (k:=k) (by omega)
  simp only[Int.cast_ofNat_Int]at e26
  have e45:=kb (m:=45) (k:=k) (by omega)
  simp only[Int.cast_ofNat_Int]at e45
  have e27:=kb (m:=27) (k:=k) (by omega)
  simp only[Int.cast_ofNat_Int]at e27
  have e28:=kb (m:=28) (k:=k) (by omega)
  simp only[Int.cast_ofNat_Int]at e28
  have e29:=kb (m:=29) (k:=k) (by omega)
  simp only[Int.cast_ofNat_Int]at e29
  have e40:=kb (m:=40) (k:=k) (by omega)
  simp only[Int.cast_ofNat_Int]at e40
  have e41:=kb (m:=41) (k:=k) (by omega)
  simp only[Int.cast_ofNat_Int]at e41
  have e42:=kb (m:=42) (k:=k) (by omega)
  simp only[Int.cast_ofNat_Int]at e42
  have e46:=kb (m:=46) (k:=k) (by omega)
  simp only[Int.cast_ofNat_Int]at e46
  have e47:=kb (m:=47) (k:=k) (by omega)
  simp only[Int.cast_ofNat_Int]at e47
  have e65:=kb (m:=65) (k:=k) (by omega)
  simp only[Int.cast_ofNat_Int]at e65
  by_cases h4:k < 4
  ·have f1:((4:Int)≤(k:Int))=False:=eq_false (by omega)
   have f3:((19:Int)≤(k:Int))=False:=eq_false (by omega)
   refine Ji c94_ok rfl rfl (by simp only[List.length_cons,List.length_nil]; decide) fun N=>?_
   simp (maxSteps:=2000000) -implicitDefEqProofs only[c94,go_sem,f1,f3,e43,e44,e25,e62,e63,e64,e26,e45,e27,e28,e29,e40,e41,e42,e46,e47,e65]
  ·have f1:((4:Int)≤(k:Int))=True:=eq_true (by omega)
   have f2:((k:Int)≤18)=False:=eq_false (by omega)
   have f3:((19:Int)≤(k:Int))=True:=eq_true (by omega)
   have f4:((k:Int)≤24)=False:=eq_false (by omega)
   refine Ji c94_ok rfl rfl (by simp only[List.length_cons,List.length_nil]; decide) fun N=>?_
   simp (maxSteps:=2000000) -implicitDefEqProofs only[c94,go_sem,f1,f2,f3,f4,e43,e44,e25,e62,e63,e64,e26,e45,e27,e28,e29,e40,e41,e42,e46,e47,e65]
theorem sizedL (x:Nd) (hv:List UInt8):Fn Tryz.prog 96 [.agg x.cv,S hv] (.bool (sizI x.k x.n hv)):=by
 obtain ⟨k,text,n,kids,pl⟩:=x
 simp only[Nd.cv]
 rcases (show (k=65∨k=26∨k=40∨k=45∨k=41∨k=28∨k=29∨k=48∨k=47)∨(k≠65∧k≠26∧k≠40∧k≠45∧k≠41∧k≠28∧k≠29∧k≠48∧k≠47) by omega) with (rfl | rfl | rfl | rfl | rfl | rfl | rfl | rfl | rfl) | rest
 ·refine Ji c96_ok rfl rfl (by simp only[List.length_cons,List.length_nil]; decide) fun N=>?_
  simp (maxSteps:=2000000) -implicitDefEqProofs only[c96,go_sem,Int.cast_ofNat_Int]
  refine Jn (id:=1) (z:=1) (els:=[[S hv]]) rfl rfl ?_
  simp only[go_sem,frzH,frz,frzL,frzO]
  refine KB (l1:=[]) (l2:=[.rptr [S hv]]) (args:=[S [80],.int .i64 0,.int .i64 5]) c127_ok nm (JbX 80 0 5 hv) (by simp only[go_sem]) (by simp only[go_sem]) gokN ?_
  simp (maxSteps:=2000000) -implicitDefEqProofs only[go_sem]
  cases hb0:inI 0 5 (cntB 80 hv) with
  |false=>simp (maxSteps:=2000000) -implicitDefEqProofs only[go_sem]; simp[sizI,hb0]
  |true=>
   simp (maxSteps:=2000000) -implicitDefEqProofs only[go_sem]
   refine KB (l1:=[]) (l2:=[.rptr [S hv]]) (args:=[S [116],.int .i64 1,.int .i64 4]) c127_ok nm (JbX 116 1 4 hv) (by simp only[go_sem]) (by simp only[go_sem]) (gokS (by simp only[go_sem])) ?_
   simp (maxSteps:=2000000) -implicitDefEqProofs only[go_sem]
   simp[sizI,hb0]
 ·refine Ji c96_ok rfl rfl (by simp only[List.length_cons,List.length_nil]; decide) fun N=>?_
  simp (maxSteps:=2000000) -implicitDefEqProofs only[c96,go_sem,Int.cast_ofNat_Int]
  refine Jn (id:=1) (z:=1) (els:=[[S hv]]) rfl rfl ?_
  simp only[go_sem,frzH,frz,frzL,frzO]
  refine KB (l1:=[]) (l2:=[.rptr [S hv]]) (args:=[S [101],.int .i64 0,.int .i64 5]) c127_ok nm (JbX 101 0 5 hv) (by simp only[go_sem]) (by simp only[go_sem]) gokN ?_
  simp (maxSteps:=2000000) -implicitDefEqProofs only[go_sem]
  simp[sizI]
 ·refine Ji c96_ok rfl rfl (by simp only[List.length_cons,List.length_nil]; decide) fun N=>?_
  simp (maxSteps:=2000000) -implicitDefEqProofs only[c96,go_sem,Int.cast_ofNat_Int]
  refine Jn (id:=1) (z:=1) (els:=[[S hv]]) rfl rfl ?_
  simp only[go_sem,frzH,frz,frzL,frzO]
  refine KB (l1:=[]) (l2:=[.rptr [S hv]]) (args:=[S [83],.int .i64 0,.int .i64 12]) c127_ok nm (JbX 83 0 12 hv) (by simp only[go_sem]) (by simp only[go_sem]) gokN ?_
  simp (maxSteps:=2000000) -implicitDefEqProofs only[go_sem]
  cases hb0:inI 0 12 (cntB 83 hv) with
  |false=>simp (maxSteps:=2000000) -implicitDefEqProofs only[go_sem]; simp[sizI,hb0]
  |true=>
   simp (maxSteps:=2000000) -implicitDefEqProofs only[go_sem]
   refine KB (l1:=[]) (l2:=[.rptr [S hv]]) (args:=[S [101],.int .i64 1,.int .i64 4]) c127_ok nm (JbX 101 1 4 hv) (by simp only[go_sem]) (by simp only[go_sem]) (gokS (by simp only[go_sem])) ?_
   simp (maxSteps:=2000000) -implicitDefEqProofs only[go_sem]
   simp[sizI,hb0]
 ·refine Ji c96_ok rfl rfl (by simp only[List.length_cons,List.length_nil]; decide) fun N=>?_
  simp (maxSteps:=2000000) -implicitDefEqProofs only[c96,go_sem,Int.cast_ofNat_Int]
  refine Jn (id:=1) (z:=1) (els:=[[S hv]]) rfl rfl ?_
  simp only[go_sem,frzH,frz,frzL,frzO]
  refine KB (l1:=[]) (l2:=[.rptr [S hv]]) (args:=[S [101],.int .i64 1,.int .i64 4]) c127_ok nm (JbX 101 1 4 hv) (by simp only[go_sem]) (by simp only[go_sem]) gokN ?_
  simp (maxSteps:=2000000) -implicitDefEqProofs only[go_sem]
  simp[sizI]
 ·refine Ji c96_ok rfl rfl (by simp only[List.length_cons,List.length_nil]; decide) fun N=>?_
  simp (maxSteps:=2000000) -implicitDefEqProofs only[c96,go_sem,Int.cast_ofNat_Int]
  refine Jn (id:=1) (z:=1) (els:=[[S hv]]) rfl rfl ?_
  simp only[go_sem,frzH,frz,frzL,frzO]
  refine KB (l1:=[]) (l2:=[.rptr [S hv]]) (args:=[S [98],.int .i64 1,.int .i64 4]) c127_ok nm (JbX 98 1 4 hv) (by simp only[go_sem]) (by simp only[go_sem]) gokN ?_
  simp (maxSteps:=2000000) -implicitDefEqProofs only[go_sem]
  simp[sizI]
 ·refine Ji c96_ok rfl rfl (by simp only[List.length_cons,List.length_nil]; decide) fun N=>?_
  simp (maxSteps:=2000000) -implicitDefEqProofs only[c96,go_sem,Int.cast_ofNat_Int]
  refine Jn (id:=1) (z:=1) (els:=[[S hv]]) rfl rfl ?_
  simp only[go_sem,frzH,frz,frzL,frzO]
  refine KB (l1:=[]) (l2:=[.rptr [S hv]]) (args:=[S [73],.int .i64 1,.int .i64 5]) c127_ok nm (JbX 73 1 5 hv) (by simp only[go_sem]) (by simp only[go_sem]) gokN ?_
  simp (maxSteps:=2000000) -implicitDefEqProofs only[go_sem]
  cases hb0:inI 1 5 (cntB 73 hv) with
  |false=>simp (maxSteps:=2000000) -implicitDefEqProofs only[go_sem]; simp[sizI,hb0]
  |true=>
   simp (maxSteps:=2000000) -implicitDefEqProofs only[go_sem]
   refine KB (l1:=[]) (l2:=[.rptr [S hv]]) (args:=[S [83],.int .i64 0,.int .i64 12]) c127_ok nm (JbX 83 0 12 hv) (by simp only[go_sem]) (by simp only[go_sem]) (gokS (by simp only[go_sem])) ?_
   simp (maxSteps:=2000000) -implicitDefEqProofs only[go_sem]
   cases hb1:inI 0 12 (cntB 83 hv) with
   |false=>simp (maxSteps:=2000000) -implicitDefEqProofs only[go_sem]; simp[sizI,hb0,hb1]
   |true=>
    simp (maxSteps:=2000000) -implicitDefEqProofs only[go_sem]
    refine KB (l1:=[]) (l2:=[.rptr [S hv]]) (args:=[S [78],.int .i64 0,.int .i64 5]) c127_ok nm (JbX 78 0 5 hv) (by simp only[go_sem]) (by simp only[go_sem]) (gokS (by simp only[go_sem])) ?_
    simp (maxSteps:=2000000) -implicitDefEqProofs only[go_sem]
    simp[sizI,hb0,hb1]
 ·refine Ji c96_ok rfl rfl (by simp only[List.length_cons,List.length_nil]; decide) fun N=>?_
  simp (maxSteps:=2000000) -implicitDefEqProofs only[c96,go_sem,Int.cast_ofNat_Int]
  refine Jn (id:=1) (z:=1) (els:=[[S hv]]) rfl rfl ?_
  simp only[go_sem,frzH,frz,frzL,frzO]
  refine KB (l1:=[]) (l2:=[.rptr [S hv]]) (args:=[S [99],.int .i64 1,.int .i64 8]) c127_ok nm (JbX 99 1 8 hv) (by simp only[go_sem]) (by simp only[go_sem]) gokN ?_
  simp (maxSteps:=2000000) -implicitDefEqProofs only[go_sem]
  cases hb0:inI 1 8 (cntB 99 hv) with
  |false=>simp (maxSteps:=2000000) -implicitDefEqProofs only[go_sem]; simp[sizI,hb0]
  |true=>
   simp (maxSteps:=2000000) -implicitDefEqProofs only[go_sem]
   refine KW (within 0 100 n) (by simp only[go_sem]) (gokS (by simp only[go_sem])) ?_
   simp (maxSteps:=2000000) -implicitDefEqProofs only[go_sem]
   simp[sizI,hb0]
 ·refine Ji c96_ok rfl rfl (by simp only[List.length_cons,List.length_nil]; decide) fun N=>?_
  simp (maxSteps:=2000000) -implicitDefEqProofs only[c96,go_sem,Int.cast_ofNat_Int]
  refine KW (within 0 100 n) (by simp only[go_sem]) gokN ?_
  simp (maxSteps:=2000000) -implicitDefEqProofs only[go_sem]
  simp[sizI]
 ·refine Ji c96_ok rfl rfl (by simp only[List.length_cons,List.length_nil]; decide) fun N=>?_
  simp (maxSteps:=2000000) -implicitDefEqProofs only[c96,go_sem,Int.cast_ofNat_Int]
  refine KW (within 1 9 n) (by simp only[go_sem]) gokN ?_
  simp (maxSteps:=2000000) -implicitDefEqProofs only[go_sem]
  simp[sizI]
 ·obtain ⟨r1,r2,r3,r4,r5,r6,r7,r8,r9⟩:=rest
  have hE:sizI k n hv=true:=by
   simp only[sizI]
   rw[if_neg (by omega),if_neg (by omega),if_neg (by omega),if_neg (by omega),if_neg (by omega),if_neg (by omega),if_neg (by omega),if_neg (by omega),if_neg (by omega)]
  rw[hE]
  have e65:=kb (m:=65) (k:=k) (by omega)
  simp only[Int.cast_ofNat_Int]at e65
  have e26:=kb (m:=26) (k:=k) (by omega)
  simp only[Int.cast_ofNat_Int]at e26
  have e40:=kb (m:=40) (k:=k) (by omega)
  simp only[Int.cast_ofNat_Int]at e40
  have e45:=kb (m:=45) (k:=k) (by omega)
  simp only[Int.cast_ofNat_Int]at e45
  have e41:=kb (m:=41) (k:=k) (by omega)
  simp only[Int.cast_ofNat_Int]at e41
  have e28:=kb (m:=28) (k:=k) (by omega)
  simp only[Int.cast_ofNat_Int]at e28
  have e29:=kb (m:=29) (k:=k) (by omega)
  simp only[Int.cast_ofNat_Int]at e29
  have e48:=kb (m:=48) (k:=k) (by omega)
  simp only[Int.cast_ofNat_Int]at e48
  have e47:=kb (m:=47) (k:=k) (by omega)
  simp only[Int.cast_ofNat_Int]at e47
  refine Ji c96_ok rfl rfl (by simp only[List.length_cons,List.length_nil]; decide) fun N=>?_
  simp (maxSteps:=2000000) -implicitDefEqProofs only[c96,go_sem,e65,e26,e40,e45,e41,e28,e29,e48,e47]
def fldI (nmd:Bool) (k:Nat) (text:List UInt8) (n:Int) (hv:List UInt8):Bool:=txtI nmd k text && numI k n hv
theorem fieldsL (x:Nd) (hv:List UInt8) (nmd:Bool) (hn:Fn Tryz.prog 125 [S x.text] (.bool nmd)):Fn Tryz.prog 95 [.agg x.cv,S hv] (.bool (fldI nmd x.k x.text x.n hv)):=by
 obtain ⟨k,text,n,kids,pl⟩:=x
 simp only at hn
 simp only[Nd.cv]
 rcases (show (k=3∨k=26∨k=42∨k=43∨k=44∨k=47∨k=64∨k=65∨k=48∨k=40∨k=41∨k=28∨k=1∨k=2∨k=29)∨(k≠3∧k≠26∧k≠42∧k≠43∧k≠44∧k≠47∧k≠64∧k≠65∧k≠48∧k≠40∧k≠41∧k≠28∧k≠1∧k≠2∧k≠29) by omega) with (rfl | rfl | rfl | rfl | rfl | rfl | rfl | rfl | rfl | rfl | rfl | rfl | rfl | rfl | rfl) | rest
 ·refine Ji c95_ok rfl rfl (by simp only[List.length_cons,List.length_nil]; decide) fun N=>?_
  simp (maxSteps:=2000000) -implicitDefEqProofs only[c95,go_sem,Int.cast_ofNat_Int]
  refine KW hn (by simp only[go_sem]) gokN ?_
  simp (maxSteps:=2000000) -implicitDefEqProofs only[go_sem]
  cases nmd with
  |false=>simp (maxSteps:=2000000) -implicitDefEqProofs only[go_sem]; simp[fldI,txtI]
  |true=>
   simp (maxSteps:=2000000) -implicitDefEqProofs only[go_sem]
   refine KW (counted 3) (by simp only[go_sem,Int.cast_ofNat_Int]) gokN ?_
   simp (maxSteps:=2000000) -implicitDefEqProofs only[go_sem,Xc,Nat.reduceEqDiff,if_true,if_false]
   simp[fldI,txtI,numI]
 ·refine Ji c95_ok rfl rfl (by simp only[List.length_cons,List.length_nil]; decide) fun N=>?_
  simp (maxSteps:=2000000) -implicitDefEqProofs only[c95,go_sem,Int.cast_ofNat_Int]
  refine KW hn (by simp only[go_sem]) gokN ?_
  simp (maxSteps:=2000000) -implicitDefEqProofs only[go_sem]
  cases nmd with
  |false=>simp (maxSteps:=2000000) -implicitDefEqProofs only[go_sem]; simp[fldI,txtI]
  |true=>
   simp (maxSteps:=2000000) -implicitDefEqProofs only[go_sem]
   refine KW (counted 26) (by simp only[go_sem,Int.cast_ofNat_Int]) gokN ?_
   simp (maxSteps:=2000000) -implicitDefEqProofs only[go_sem,Xc,Nat.reduceEqDiff,if_true,if_false]
   simp[fldI,txtI,numI]
 ·refine Ji c95_ok rfl rfl (by simp only[List.length_cons,List.length_nil]; decide) fun N=>?_
  simp (maxSteps:=2000000) -implicitDefEqProofs only[c95,go_sem,Int.cast_ofNat_Int]
  refine KW hn (by simp only[go_sem]) gokN ?_
  simp (maxSteps:=2000000) -implicitDefEqProofs only[go_sem]
  cases nmd with
  |false=>simp (maxSteps:=2000000) -implicitDefEqProofs only[go_sem]; simp[fldI,txtI]
  |true=>
   simp (maxSteps:=2000000) -implicitDefEqProofs only[go_sem]
   refine KW (counted 42) (by simp only[go_sem,Int.cast_ofNat_Int]) gokN ?_
   simp (maxSteps:=2000000) -implicitDefEqProofs only[go_sem,Xc,Nat.reduceEqDiff,if_true,if_false]
   simp[fldI,txtI,numI]
 ·refine Ji c95_ok rfl rfl (by simp only[List.length_cons,List.length_nil]; decide) fun N=>?_
  simp (maxSteps:=2000000) -implicitDefEqProofs only[c95,go_sem,Int.cast_ofNat_Int]
  refine KW hn (by simp only[go_sem]) gokN ?_
  simp (maxSteps:=2000000) -implicitDefEqProofs only[go_sem]
  cases nmd with
  |false=>simp (maxSteps:=2000000) -implicitDefEqProofs only[go_sem]; simp[fldI,txtI]
  |true=>
   simp (maxSteps:=2000000) -implicitDefEqProofs only[go_sem]
   refine KW (counted 43) (by simp only[go_sem,Int.cast_ofNat_Int]) gokN ?_
   simp (maxSteps:=2000000) -implicitDefEqProofs only[go_sem,Xc,Nat.reduceEqDiff,if_true,if_false]
   simp[fldI,txtI,numI]
 ·refine Ji c95_ok rfl rfl (by simp only[List.length_cons,List.length_nil]; decide) fun N=>?_
  simp (maxSteps:=2000000) -implicitDefEqProofs only[c95,go_sem,Int.cast_ofNat_Int]
  refine KW hn (by simp only[go_sem]) gokN ?_
  simp (maxSteps:=2000000) -implicitDefEqProofs only[go_sem]
  cases nmd with
  |false=>simp (maxSteps:=2000000) -implicitDefEqProofs only[go_sem]; simp[fldI,txtI]
  |true=>
   simp (maxSteps:=2000000) -implicitDefEqProofs only[go_sem]
   refine KW (counted 44) (by simp only[go_sem,Int.cast_ofNat_Int]) gokN ?_
   simp (maxSteps:=2000000) -implicitDefEqProofs only[go_sem,Xc,Nat.reduceEqDiff,if_true,if_false]
   simp[fldI,txtI,numI]
 ·refine Ji c95_ok rfl rfl (by simp only[List.length_cons,List.length_nil]; decide) fun N=>?_
  simp (maxSteps:=2000000) -implicitDefEqProofs only[c95,go_sem,Int.cast_ofNat_Int]
  refine KW hn (by simp only[go_sem]) gokN ?_
  simp (maxSteps:=2000000) -implicitDefEqProofs only[go_sem]
  cases nmd with
  |false=>simp (maxSteps:=2000000) -implicitDefEqProofs only[go_sem]; simp[fldI,txtI]
  |true=>
   simp (maxSteps:=2000000) -implicitDefEqProofs only[go_sem]
   refine KW (counted 47) (by simp only[go_sem,Int.cast_ofNat_Int]) gokN ?_
   simp (maxSteps:=2000000) -implicitDefEqProofs only[go_sem,Xc,Nat.reduceEqDiff,if_true,if_false]
   simp[fldI,txtI,numI]
 ·refine Ji c95_ok rfl rfl (by simp only[List.length_cons,List.length_nil]; decide) fun N=>?_
  simp (maxSteps:=2000000) -implicitDefEqProofs only[c95,go_sem,Int.cast_ofNat_Int]
  refine KW hn (by simp only[go_sem]) gokN ?_
  simp (maxSteps:=2000000) -implicitDefEqProofs only[go_sem]
  cases nmd with
  |false=>simp (maxSteps:=2000000) -implicitDefEqProofs only[go_sem]; simp[fldI,txtI]
  |true=>
   simp (maxSteps:=2000000) -implicitDefEqProofs only[go_sem]
   refine KW (counted 64) (by simp only[go_sem,Int.cast_ofNat_Int]) gokN ?_
   simp (maxSteps:=2000000) -implicitDefEqProofs only[go_sem,Xc,Nat.reduceEqDiff,if_true,if_false]
   simp[fldI,txtI,numI]
 ·refine Ji c95_ok rfl rfl (by simp only[List.length_cons,List.length_nil]; decide) fun N=>?_
  simp (maxSteps:=2000000) -implicitDefEqProofs only[c95,go_sem,Int.cast_ofNat_Int]
  refine KW hn (by simp only[go_sem]) gokN ?_
  simp (maxSteps:=2000000) -implicitDefEqProofs only[go_sem]
  cases nmd with
  |false=>simp (maxSteps:=2000000) -implicitDefEqProofs only[go_sem]; simp[fldI,txtI]
  |true=>
   simp (maxSteps:=2000000) -implicitDefEqProofs only[go_sem]
   refine KW (counted 65) (by simp only[go_sem,Int.cast_ofNat_Int]) gokN ?_
   simp (maxSteps:=2000000) -implicitDefEqProofs only[go_sem,Xc,Nat.reduceEqDiff,if_true,if_false]
   refine JH JD (by decide) ?_
   simp only[go_sem]
   refine Qz (.inl rfl) (Jc4 hv 80) ?_
   simp only[go_sem]
   simp[fldI,txtI,numI]
 ·refine Ji c95_ok rfl rfl (by simp only[List.length_cons,List.length_nil]; decide) fun N=>?_
  simp (maxSteps:=2000000) -implicitDefEqProofs only[c95,go_sem,Int.cast_ofNat_Int]
  by_cases ht:text=[]
  ·have t1:(text == [])=true:=beq_iff_eq.2 ht
   simp (maxSteps:=2000000) -implicitDefEqProofs only[go_sem,t1]
   refine KW (counted 48) (by simp only[go_sem,Int.cast_ofNat_Int]) gokN ?_
   simp (maxSteps:=2000000) -implicitDefEqProofs only[go_sem,Xc,Nat.reduceEqDiff,if_true,if_false]
   simp[fldI,txtI,numI,t1]
  ·have t1:(text == [])=false:=beq_eq_false_iff_ne.2 ht
   by_cases ht2:text=[35]
   ·have t2:(text == [35])=true:=beq_iff_eq.2 ht2
    simp (maxSteps:=2000000) -implicitDefEqProofs only[go_sem,t1,t2]
    refine KW (counted 48) (by simp only[go_sem,Int.cast_ofNat_Int]) gokN ?_
    simp (maxSteps:=2000000) -implicitDefEqProofs only[go_sem,Xc,Nat.reduceEqDiff,if_true,if_false]
    simp[fldI,txtI,numI,t1,t2]
   ·have t2:(text == [35])=false:=beq_eq_false_iff_ne.2 ht2
    simp (maxSteps:=2000000) -implicitDefEqProofs only[go_sem,t1,t2]
    simp[fldI,txtI,t1,t2]
 ·refine Ji c95_ok rfl rfl (by simp only[List.length_cons,List.length_nil]; decide) fun N=>?_
  simp (maxSteps:=2000000) -implicitDefEqProofs only[c95,go_sem,Int.cast_ofNat_Int]
  by_cases ht:text=[]
  ·have t1:(text == [])=true:=beq_iff_eq.2 ht
   simp (maxSteps:=2000000) -implicitDefEqProofs only[go_sem,t1]
   refine KW (counted 40) (by simp only[go_sem,Int.cast_ofNat_Int]) gokN ?_
   simp (maxSteps:=2000000) -implicitDefEqProofs only[go_sem,Xc,Nat.reduceEqDiff,if_true,if_false]
   refine JH JD (by decide) ?_
   simp only[go_sem]
   refine Qz (.inl rfl) (Jc4 hv 83) ?_
   simp only[go_sem]
   simp[fldI,txtI,numI,t1]
  ·have t1:(text == [])=false:=beq_eq_false_iff_ne.2 ht
   simp (maxSteps:=2000000) -implicitDefEqProofs only[go_sem,t1]
   simp[fldI,txtI,t1]
 ·refine Ji c95_ok rfl rfl (by simp only[List.length_cons,List.length_nil]; decide) fun N=>?_
  simp (maxSteps:=2000000) -implicitDefEqProofs only[c95,go_sem,Int.cast_ofNat_Int]
  by_cases ht:text=[]
  ·have t1:(text == [])=true:=beq_iff_eq.2 ht
   simp (maxSteps:=2000000) -implicitDefEqProofs only[go_sem,t1]
   refine KW (counted 41) (by simp only[go_sem,Int.cast_ofNat_Int]) gokN ?_
   simp (maxSteps:=2000000) -implicitDefEqProofs only[go_sem,Xc,Nat.reduceEqDiff,if_true,if_false]
   refine JH JD (by decide) ?_
   simp only[go_sem]
   refine Qz (.inl rfl) (Jc4 hv 98) ?_
   simp only[go_sem]
   simp[fldI,txtI,numI,t1]
  ·have t1:(text == [])=false:=beq_eq_false_iff_ne.2 ht
   simp (maxSteps:=2000000) -implicitDefEqProofs only[go_sem,t1]
   simp[fldI,txtI,t1]
 ·refine Ji c95_ok rfl rfl (by simp only[List.length_cons,List.length_nil]; decide) fun N=>?_
  simp (maxSteps:=2000000) -implicitDefEqProofs only[c95,go_sem,Int.cast_ofNat_Int]
  by_cases ht:text=[]
  ·have t1:(text == [])=true:=beq_iff_eq.2 ht
   simp (maxSteps:=2000000) -implicitDefEqProofs only[go_sem,t1]
   refine KW (counted 28) (by simp only[go_sem,Int.cast_ofNat_Int]) gokN ?_
   simp (maxSteps:=2000000) -implicitDefEqProofs only[go_sem,Xc,Nat.reduceEqDiff,if_true,if_false]
   refine JH JD (by decide) ?_
   simp only[go_sem]
   refine Qz (.inl rfl) (Jc4 hv 73) ?_
   simp only[go_sem]
   simp[fldI,txtI,numI,t1]
  ·have t1:(text == [])=false:=beq_eq_false_iff_ne.2 ht
   simp (maxSteps:=2000000) -implicitDefEqProofs only[go_sem,t1]
   simp[fldI,txtI,t1]
 ·refine Ji c95_ok rfl rfl (by simp only[List.length_cons,List.length_nil]; decide) fun N=>?_
  simp (maxSteps:=2000000) -implicitDefEqProofs only[c95,go_sem,Int.cast_ofNat_Int]
  by_cases ht:text=[]
  ·have t1:(text == [])=true:=beq_iff_eq.2 ht
   simp (maxSteps:=2000000) -implicitDefEqProofs only[go_sem,t1]
   refine KW (counted 1) (by simp only[go_sem,Int.cast_ofNat_Int]) gokN ?_
   simp (maxSteps:=2000000) -implicitDefEqProofs only[go_sem,Xc,Nat.reduceEqDiff,if_true,if_false]
   refine KW (within 0 1000000000 n) (by simp only[go_sem]) gokN ?_
   simp (maxSteps:=2000000) -implicitDefEqProofs only[go_sem]
   simp[fldI,txtI,numI,t1]
  ·have t1:(text == [])=false:=beq_eq_false_iff_ne.2 ht
   simp (maxSteps:=2000000) -implicitDefEqProofs only[go_sem,t1]
   simp[fldI,txtI,t1]
 ·refine Ji c95_ok rfl rfl (by simp only[List.length_cons,List.length_nil]; decide) fun N=>?_
  simp (maxSteps:=2000000) -implicitDefEqProofs only[c95,go_sem,Int.cast_ofNat_Int]
  by_cases ht:text=[]
  ·have t1:(text == [])=true:=beq_iff_eq.2 ht
   simp (maxSteps:=2000000) -implicitDefEqProofs only[go_sem,t1]
   refine KW (counted 2) (by simp only[go_sem,Int.cast_ofNat_Int]) gokN ?_
   simp (maxSteps:=2000000) -implicitDefEqProofs only[go_sem,Xc,Nat.reduceEqDiff,if_true,if_false]
   refine KW (within 0 1 n) (by simp only[go_sem]) gokN ?_
   simp (maxSteps:=2000000) -implicitDefEqProofs only[go_sem]
   simp[fldI,txtI,numI,t1]
  ·have t1:(text == [])=false:=beq_eq_false_iff_ne.2 ht
   simp (maxSteps:=2000000) -implicitDefEqProofs only[go_sem,t1]
   simp[fldI,txtI,t1]
 ·refine Ji c95_ok rfl rfl (by simp only[List.length_cons,List.length_nil]; decide) fun N=>?_
  simp (maxSteps:=2000000) -implicitDefEqProofs only[c95,go_sem,Int.cast_ofNat_Int]
  by_cases ht:text=[]
  ·have t1:(text == [])=true:=beq_iff_eq.2 ht
   simp (maxSteps:=2000000) -implicitDefEqProofs only[go_sem,t1]
   refine KW (counted 29) (by simp only[go_sem,Int.cast_ofNat_Int]) gokN ?_
   simp (maxSteps:=2000000) -implicitDefEqProofs only[go_sem,Xc,Nat.reduceEqDiff,if_true,if_false]
   simp[fldI,txtI,numI,t1]
  ·have t1:(text == [])=false:=beq_eq_false_iff_ne.2 ht
   simp (maxSteps:=2000000) -implicitDefEqProofs only[go_sem,t1]
   simp[fldI,txtI,t1]
 ·obtain ⟨r1,r2,r3,r4,r5,r6,r7,r8,r9,r10,r11,r12,r13,r14,r15⟩:=rest
  have hE:fldI nmd k text n hv=(text == [] && n == 0):=by
   simp only[fldI,txtI,numI]
   rw[if_neg (by omega),if_neg (by omega),if_neg (by omega),if_neg (by omega),if_neg (by omega),if_neg (by omega),if_neg (by omega),if_neg (by omega),if_neg (by omega)]
  have hC:Xc k=.tup [S [],.bool false]:=by
   simp only[Xc]
   rw[if_neg (by omega),if_neg (by omega),if_neg (by omega),if_neg (by omega)]
  rw[hE]
  have e3:=kb (m:=3) (k:=k) (by omega)
  simp only[Int.cast_ofNat_Int]at e3
  have e26:=kb (m:=26) (k:=k) (by omega)
  simp only[Int.cast_ofNat_Int]at e26
  have e42:=kb (m:=42) (k:=k) (by omega)
  simp only[Int.cast_ofNat_Int]at e42
  have e43:=kb (m:=43) (k:=k) (by omega)
  simp only[Int.cast_ofNat_Int]at e43
  have e44:=kb (m:=44) (k:=k) (by omega)
  simp only[Int.cast_ofNat_Int]at e44
  have e47:=kb (m:=47) (k:=k) (by omega)
  simp only[Int.cast_ofNat_Int]at e47
  have e64:=kb (m:=64) (k:=k) (by omega)
  simp only[Int.cast_ofNat_Int]at e64
  have e65:=kb (m:=65) (k:=k) (by omega)
  simp only[Int.cast_ofNat_Int]at e65
  have e48:=kb (m:=48) (k:=k) (by omega)
  simp only[Int.cast_ofNat_Int]at e48
  have e40:=kb (m:=40) (k:=k) (by omega)
  simp only[Int.cast_ofNat_Int]at e40
  have e41:=kb (m:=41) (k:=k) (by omega)
  simp only[Int.cast_ofNat_Int]at e41
  have e28:=kb (m:=28) (k:=k) (by omega)
  simp only[Int.cast_ofNat_Int]at e28
  have e1:=kb (m:=1) (k:=k) (by omega)
  simp only[Int.cast_ofNat_Int]at e1
  have e2:=kb (m:=2) (k:=k) (by omega)
  simp only[Int.cast_ofNat_Int]at e2
  have e29:=kb (m:=29) (k:=k) (by omega)
  simp only[Int.cast_ofNat_Int]at e29
  refine Ji c95_ok rfl rfl (by simp only[List.length_cons,List.length_nil]; decide) fun N=>?_
  by_cases ht:text=[]
  ·have t1:(text == [])=true:=beq_iff_eq.2 ht
   simp (maxSteps:=2000000) -implicitDefEqProofs only[c95,go_sem,e3,e26,e42,e43,e44,e47,e64,e65,e48,e40,e41,e28,e1,e2,e29,t1]
   refine KW (counted k) (by simp only[go_sem]) gokN ?_
   rw[hC]
   simp (maxSteps:=2000000) -implicitDefEqProofs only[go_sem,e3,e26,e42,e43,e44,e47,e64,e65,e48,e40,e41,e28,e1,e2,e29]
  ·have t1:(text == [])=false:=beq_eq_false_iff_ne.2 ht
   simp (maxSteps:=2000000) -implicitDefEqProofs only[c95,go_sem,e3,e26,e42,e43,e44,e47,e64,e65,e48,e40,e41,e28,e1,e2,e29,t1]
end Go.Cm
end
