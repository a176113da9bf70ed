/-
  Part of a proof about the package floodgatelaw02 (shortened by a program). Conditions: none.
-/
import Derived.Test.YthbifneaknlfgaaGreatDoorGP8
set_option linter.unusedSimpArgs false
set_option linter.unusedVariables false
section
open Go.Proofs
set_option maxRecDepth 100000
set_option maxHeartbeats 40000000
namespace Go.Cm
theorem all_same {α:Type}{l:List α}{p q:α→Bool}(h:∀ x∈l,p x=q x):l.all p=l.all q:=by
 induction l with
 |nil=>rfl
 |cons a l ih=>simp only[List.all_cons]; rw[h a (by simp),ih (fun x hx=>h x (by simp[hx]))]
theorem kids_conv {l:List Nd}{x:Nd}(hn:∀ y∈l,y.k < 256) (hk:∀ k∈x.kids,0≤k∧k < l.length) {c:Nat}{b:UInt8}(h:∀ k:Nat,k < 256→isR k c=(letB k == b)) (p q:Int):kidsR (kinds l x) p q c=Jy (lets l x) p q b:=by
 unfold kidsR Jy kinds lets
 have e:(((x.kids.map (Jk l)).take q.toNat).drop p.toNat).all (fun k=>isR k c)=(((x.kids.map fun k=>letB (Jk l k)).take q.toNat).drop p.toNat).all (· == b):=by
  rw[← List.map_take,← List.map_drop,← List.map_take,← List.map_drop,List.all_map,List.all_map]
  refine all_same fun k hk2=>?_
  have hr:=hk k (List.mem_of_mem_take (List.mem_of_mem_drop hk2))
  have hlt:k.toNat < l.length:=by omega
  refine h _ ?_
  unfold Jk
  rw[List.getD_eq_getElem?_getD,List.getElem?_eq_getElem hlt]
  exact hn _ (List.getElem_mem hlt)
 rw[e]; simp
theorem cls_all:∀ k:Fin 256,∀ p∈([(200,101),(201,116),(202,99),(40,66),(41,83),(42,98),(43,73),(44,78),(45,71),(48,79),(64,80)]:List (Nat×UInt8)),isR k.val p.1=(letB k.val == p.2):=by decide +kernel
theorem refKin1 (t:Tr) (x:Nd) (hx:x.Fit) (hm:t.nodes.length≤1400) (hn:∀ y∈t.nodes,y.k < 256) (hk:∀ k∈x.kids,0≤k∧k < t.nodes.length) (hmax:x.k=41→x.n < 9223372036854775807) (hnl:x.k≠28) :
  Fn Tryz.prog 44 [t.cv,.agg x.cv] (.bool (kinL x.k x.n (lets t.nodes x))):=by
 have hkn:=hx.kidn
 have hll:=Yg (l:=t.nodes) (x:=x)
 have hK:∀ (c:Nat) (b:UInt8),(c,b)∈([(200,101),(201,116),(202,99),(40,66),(41,83),(42,98),(43,73),(44,78),(45,71),(48,79),(64,80)]:List (Nat×UInt8))→∀ p q:Int,Fn Tryz.prog 87 [t.cv,.agg x.cv,.int .i64 p,.int .i64 q,.int .u8 c] (.bool (Jy (lets t.nodes x) p q b)):=by
  intro c b hcb p q
  have:=refKids t x hx hm hk p q c
  rw[kids_conv hn hk (fun k h=>cls_all ⟨k,h⟩ (c,b) hcb)]at this
  exact this
 have hnr : -9223372036854775808≤x.n:=hx.n.1
 have K200:=hK 200 101 (by decide)
 have K201:=hK 201 116 (by decide)
 have K202:=hK 202 99 (by decide)
 have K40:=hK 40 66 (by decide)
 have K41:=hK 41 83 (by decide)
 have K42:=hK 42 98 (by decide)
 have K43:=hK 43 73 (by decide)
 have K44:=hK 44 78 (by decide)
 have K45:=hK 45 71 (by decide)
 have K48:=hK 48 79 (by decide)
 have K64:=hK 64 80 (by decide)
 simp only[Int.cast_ofNat_Int]at K200 K201 K202 K40 K41 K42 K43 K44 K45 K48 K64
 obtain ⟨k,text,n,kids,pl⟩:=x
 generalize lets t.nodes ⟨k,text,n,kids,pl⟩=hv at hll K200 K201 K202 K40 K41 K42 K43 K44 K45 K48 K64 ⊢
 simp only[Nd.cv,Tr.cv,Tr.row]at hkn hll hnr hmax hnl K200 K201 K202 K40 K41 K42 K43 K44 K45 K48 K64 ⊢
 clear hK
 obtain ⟨m,hmm⟩:∃ m:Int,m=(kids.length:Int):=⟨_,rfl⟩
 rcases (show (k=1∨k=2∨k=3∨k=19∨k=20∨k=21∨k=22∨k=23∨k=24∨k=25∨k=26∨k=27∨k=29∨k=40∨k=41∨k=42∨k=43∨k=44∨k=45∨k=46∨k=47∨k=48∨k=60∨k=61∨k=62∨k=63∨k=64∨k=65)∨(k≠1∧k≠2∧k≠3∧k≠19∧k≠20∧k≠21∧k≠22∧k≠23∧k≠24∧k≠25∧k≠26∧k≠27∧k≠29∧k≠40∧k≠41∧k≠42∧k≠43∧k≠44∧k≠45∧k≠46∧k≠47∧k≠48∧k≠60∧k≠61∧k≠62∧k≠63∧k≠64∧k≠65) by omega) with (rfl | rfl | rfl | rfl | rfl | rfl | rfl | rfl | rfl | rfl | rfl | rfl | rfl | rfl | rfl | rfl | rfl | rfl | rfl | rfl | rfl | rfl | rfl | rfl | rfl | rfl | rfl | rfl) | rest
 ·refine Ja c44_ok rfl rfl fun N=>?_
  cases h0:(m == 0) with
  |false=>simp (maxSteps:=2000000) -implicitDefEqProofs only[c44,go_sem,Jb,Int.cast_ofNat_Int,← hmm,h0]; simp[kinL,hll,← hmm,h0]
  |true=>simp (maxSteps:=2000000) -implicitDefEqProofs only[c44,go_sem,Jb,Int.cast_ofNat_Int,← hmm,h0]; simp[kinL,hll,← hmm,h0]
 ·refine Ja c44_ok rfl rfl fun N=>?_
  cases h0:(m == 0) with
  |false=>simp (maxSteps:=2000000) -implicitDefEqProofs only[c44,go_sem,Jb,Int.cast_ofNat_Int,← hmm,h0]; simp[kinL,hll,← hmm,h0]
  |true=>simp (maxSteps:=2000000) -implicitDefEqProofs only[c44,go_sem,Jb,Int.cast_ofNat_Int,← hmm,h0]; simp[kinL,hll,← hmm,h0]
 ·refine Ja c44_ok rfl rfl fun N=>?_
  cases h0:(m == 0) with
  |false=>simp (maxSteps:=2000000) -implicitDefEqProofs only[c44,go_sem,Jb,Int.cast_ofNat_Int,← hmm,h0]; simp[kinL,hll,← hmm,h0]
  |true=>simp (maxSteps:=2000000) -implicitDefEqProofs only[c44,go_sem,Jb,Int.cast_ofNat_Int,← hmm,h0]; simp[kinL,hll,← hmm,h0]
 ·refine Ja c44_ok rfl rfl fun N=>?_
  cases h0:(m == 1) with
  |false=>simp (maxSteps:=2000000) -implicitDefEqProofs only[c44,go_sem,Jb,Int.cast_ofNat_Int,← hmm,h0]; simp[kinL,hll,← hmm,h0]
  |true=>
   simp (maxSteps:=2000000) -implicitDefEqProofs only[c44,go_sem,Jb,Int.cast_ofNat_Int,← hmm,h0]
   refine Js (gok rfl) (K200 (0) (1)) ?_
   cases g0:Jy hv (0) (1) 101 with
   |false=>simp (maxSteps:=2000000) -implicitDefEqProofs only[go_sem,Jb,← hmm]; simp[kinL,hll,← hmm,h0,g0]
   |true=>simp (maxSteps:=2000000) -implicitDefEqProofs only[go_sem,Jb,← hmm]; simp[kinL,hll,← hmm,h0,g0]
 ·refine Ja c44_ok rfl rfl fun N=>?_
  cases h0:(m == 1) with
  |false=>simp (maxSteps:=2000000) -implicitDefEqProofs only[c44,go_sem,Jb,Int.cast_ofNat_Int,← hmm,h0]; simp[kinL,hll,← hmm,h0]
  |true=>
   simp (maxSteps:=2000000) -implicitDefEqProofs only[c44,go_sem,Jb,Int.cast_ofNat_Int,← hmm,h0]
   refine Js (gok rfl) (K200 (0) (1)) ?_
   cases g0:Jy hv (0) (1) 101 with
   |false=>simp (maxSteps:=2000000) -implicitDefEqProofs only[go_sem,Jb,← hmm]; simp[kinL,hll,← hmm,h0,g0]
   |true=>simp (maxSteps:=2000000) -implicitDefEqProofs only[go_sem,Jb,← hmm]; simp[kinL,hll,← hmm,h0,g0]
 ·refine Ja c44_ok rfl rfl fun N=>?_
  cases h0:(m == 1) with
  |false=>simp (maxSteps:=2000000) -implicitDefEqProofs only[c44,go_sem,Jb,Int.cast_ofNat_Int,← hmm,h0]; simp[kinL,hll,← hmm,h0]
  |true=>
   simp (maxSteps:=2000000) -implicitDefEqProofs only[c44,go_sem,Jb,Int.cast_ofNat_Int,← hmm,h0]
   refine Js (gok rfl) (K200 (0) (1)) ?_
   cases g0:Jy hv (0) (1) 101 with
   |false=>simp (maxSteps:=2000000) -implicitDefEqProofs only[go_sem,Jb,← hmm]; simp[kinL,hll,← hmm,h0,g0]
   |true=>simp (maxSteps:=2000000) -implicitDefEqProofs only[go_sem,Jb,← hmm]; simp[kinL,hll,← hmm,h0,g0]
 ·refine Ja c44_ok rfl rfl fun N=>?_
  cases h0:(m == 1) with
  |false=>simp (maxSteps:=2000000) -implicitDefEqProofs only[c44,go_sem,Jb,Int.cast_ofNat_Int,← hmm,h0]; simp[kinL,hll,← hmm,h0]
  |true=>
   simp (maxSteps:=2000000) -implicitDefEqProofs only[c44,go_sem,Jb,Int.cast_ofNat_Int,← hmm,h0]
   refine Js (gok rfl) (K200 (0) (1)) ?_
   cases g0:Jy hv (0) (1) 101 with
   |false=>simp (maxSteps:=2000000) -implicitDefEqProofs only[go_sem,Jb,← hmm]; simp[kinL,hll,← hmm,h0,g0]
   |true=>simp (maxSteps:=2000000) -implicitDefEqProofs only[go_sem,Jb,← hmm]; simp[kinL,hll,← hmm,h0,g0]
 ·refine Ja c44_ok rfl rfl fun N=>?_
  cases h0:(m == 1) with
  |false=>simp (maxSteps:=2000000) -implicitDefEqProofs only[c44,go_sem,Jb,Int.cast_ofNat_Int,← hmm,h0]; simp[kinL,hll,← hmm,h0]
  |true=>
   simp (maxSteps:=2000000) -implicitDefEqProofs only[c44,go_sem,Jb,Int.cast_ofNat_Int,← hmm,h0]
   refine Js (gok rfl) (K200 (0) (1)) ?_
   cases g0:Jy hv (0) (1) 101 with
   |false=>simp (maxSteps:=2000000) -implicitDefEqProofs only[go_sem,Jb,← hmm]; simp[kinL,hll,← hmm,h0,g0]
   |true=>simp (maxSteps:=2000000) -implicitDefEqProofs only[go_sem,Jb,← hmm]; simp[kinL,hll,← hmm,h0,g0]
 ·refine Ja c44_ok rfl rfl fun N=>?_
  cases h0:(m == 1) with
  |false=>simp (maxSteps:=2000000) -implicitDefEqProofs only[c44,go_sem,Jb,Int.cast_ofNat_Int,← hmm,h0]; simp[kinL,hll,← hmm,h0]
  |true=>
   simp (maxSteps:=2000000) -implicitDefEqProofs only[c44,go_sem,Jb,Int.cast_ofNat_Int,← hmm,h0]
   refine Js (gok rfl) (K200 (0) (1)) ?_
   cases g0:Jy hv (0) (1) 101 with
   |false=>simp (maxSteps:=2000000) -implicitDefEqProofs only[go_sem,Jb,← hmm]; simp[kinL,hll,← hmm,h0,g0]
   |true=>simp (maxSteps:=2000000) -implicitDefEqProofs only[go_sem,Jb,← hmm]; simp[kinL,hll,← hmm,h0,g0]
 ·refine Ja c44_ok rfl rfl fun N=>?_
  cases h0:(m == 1) with
  |false=>simp (maxSteps:=2000000) -implicitDefEqProofs only[c44,go_sem,Jb,Int.cast_ofNat_Int,← hmm,h0]; simp[kinL,hll,← hmm,h0]
  |true=>
   simp (maxSteps:=2000000) -implicitDefEqProofs only[c44,go_sem,Jb,Int.cast_ofNat_Int,← hmm,h0]
   refine Js (gok rfl) (K201 (0) (1)) ?_
   cases g0:Jy hv (0) (1) 116 with
   |false=>simp (maxSteps:=2000000) -implicitDefEqProofs only[go_sem,Jb,← hmm]; simp[kinL,hll,← hmm,h0,g0]
   |true=>simp (maxSteps:=2000000) -implicitDefEqProofs only[go_sem,Jb,← hmm]; simp[kinL,hll,← hmm,h0,g0]
 ·refine Ja c44_ok rfl rfl fun N=>?_
  simp (maxSteps:=2000000) -implicitDefEqProofs only[c44,go_sem,Jb,Int.cast_ofNat_Int,← hmm]
  refine vr_f (K200 (0) (m)) ?_
  cases g0:Jy hv (0) (m) 101 with
  |false=>simp (maxSteps:=2000000) -implicitDefEqProofs only[go_sem,Jb,← hmm]; simp[kinL,hll,← hmm,g0]
  |true=>simp (maxSteps:=2000000) -implicitDefEqProofs only[go_sem,Jb,← hmm]; simp[kinL,hll,← hmm,g0]
 ·refine Ja c44_ok rfl rfl fun N=>?_
  cases h0:(m == 3) with
  |false=>simp (maxSteps:=2000000) -implicitDefEqProofs only[c44,go_sem,Jb,Int.cast_ofNat_Int,← hmm,h0]; simp[kinL,hll,← hmm,h0]
  |true=>
   simp (maxSteps:=2000000) -implicitDefEqProofs only[c44,go_sem,Jb,Int.cast_ofNat_Int,← hmm,h0]
   refine Js (gok rfl) (K200 (0) (1)) ?_
   cases g0:Jy hv (0) (1) 101 with
   |false=>simp (maxSteps:=2000000) -implicitDefEqProofs only[go_sem,Jb,← hmm]; simp[kinL,hll,← hmm,h0,g0]
   |true=>
    simp (maxSteps:=2000000) -implicitDefEqProofs only[go_sem,Jb,← hmm]
    refine Js (gok rfl) (K40 (1) (3)) ?_
    cases g1:Jy hv (1) (3) 66 with
    |false=>simp (maxSteps:=2000000) -implicitDefEqProofs only[go_sem,Jb,← hmm]; simp[kinL,hll,← hmm,h0,g0,g1]
    |true=>simp (maxSteps:=2000000) -implicitDefEqProofs only[go_sem,Jb,← hmm]; simp[kinL,hll,← hmm,h0,g0,g1]
 ·refine Ja c44_ok rfl rfl fun N=>?_
  cases h0:decide (0 < m) with
  |false=>simp (maxSteps:=2000000) -implicitDefEqProofs only[c44,go_sem,Jb,Int.cast_ofNat_Int,← hmm,h0]; simp[kinL,hll,← hmm,h0]
  |true=>
   simp (maxSteps:=2000000) -implicitDefEqProofs only[c44,go_sem,Jb,Int.cast_ofNat_Int,← hmm,h0]
   refine Js (gok rfl) (K200 (0) (1)) ?_
   cases g0:Jy hv (0) (1) 101 with
   |false=>simp (maxSteps:=2000000) -implicitDefEqProofs only[go_sem,Jb,← hmm]; simp[kinL,hll,← hmm,h0,g0]
   |true=>
    simp (maxSteps:=2000000) -implicitDefEqProofs only[go_sem,Jb,← hmm]
    refine Js (gok rfl) (K202 (1) (m)) ?_
    cases g1:Jy hv (1) (m) 99 with
    |false=>simp (maxSteps:=2000000) -implicitDefEqProofs only[go_sem,Jb,← hmm]; simp[kinL,hll,← hmm,h0,g0,g1]
    |true=>simp (maxSteps:=2000000) -implicitDefEqProofs only[go_sem,Jb,← hmm]; simp[kinL,hll,← hmm,h0,g0,g1]
 ·refine Ja c44_ok rfl rfl fun N=>?_
  simp (maxSteps:=2000000) -implicitDefEqProofs only[c44,go_sem,Jb,Int.cast_ofNat_Int,← hmm]
  refine vr_f (K41 (0) (n)) ?_
  cases g0:Jy hv (0) (n) 83 with
  |false=>simp (maxSteps:=2000000) -implicitDefEqProofs only[go_sem,Jb,← hmm]; simp[kinL,hll,← hmm,g0]
  |true=>
   simp (maxSteps:=2000000) -implicitDefEqProofs only[go_sem,Jb,← hmm]
   refine Js (gok rfl) (K200 (n) (m)) ?_
   cases g1:Jy hv (n) (m) 101 with
   |false=>simp (maxSteps:=2000000) -implicitDefEqProofs only[go_sem,Jb,← hmm]; simp[kinL,hll,← hmm,g0,g1]
   |true=>simp (maxSteps:=2000000) -implicitDefEqProofs only[go_sem,Jb,← hmm]; simp[kinL,hll,← hmm,g0,g1]
 ·have hmax:=hmax rfl
  refine Ja c44_ok rfl rfl fun N=>?_
  cases h0:(m == n+1) with
  |false=>
   simp (maxSteps:=2000000) -implicitDefEqProofs only[c44,go_sem,Jb,Int.cast_ofNat_Int,← hmm,h0]
   refine ⟨Jg (by omega) (by omega),?_⟩
   simp[kinL,hll,← hmm,h0]
  |true=>
   simp (maxSteps:=2000000) -implicitDefEqProofs only[c44,go_sem,Jb,Int.cast_ofNat_Int,← hmm,h0]
   refine ⟨Jg (by omega) (by omega),?_⟩
   refine Js (gok rfl) (K42 (0) (n)) ?_
   cases g0:Jy hv (0) (n) 98 with
   |false=>simp (maxSteps:=2000000) -implicitDefEqProofs only[go_sem,Jb,← hmm]; simp[kinL,hll,← hmm,h0,g0]
   |true=>
    simp (maxSteps:=2000000) -implicitDefEqProofs only[go_sem,Jb,← hmm]
    refine Js (gok rfl) (K200 (n) (m)) ?_
    cases g1:Jy hv (n) (m) 101 with
    |false=>simp (maxSteps:=2000000) -implicitDefEqProofs only[go_sem,Jb,← hmm]; simp[kinL,hll,← hmm,h0,g0,g1]
    |true=>simp (maxSteps:=2000000) -implicitDefEqProofs only[go_sem,Jb,← hmm]; simp[kinL,hll,← hmm,h0,g0,g1]
 ·refine Ja c44_ok rfl rfl fun N=>?_
  cases h0:decide (m≤1) with
  |false=>simp (maxSteps:=2000000) -implicitDefEqProofs only[c44,go_sem,Jb,Int.cast_ofNat_Int,← hmm,h0]; simp[kinL,hll,← hmm,h0]
  |true=>
   simp (maxSteps:=2000000) -implicitDefEqProofs only[c44,go_sem,Jb,Int.cast_ofNat_Int,← hmm,h0]
   refine Js (gok rfl) (K201 (0) (m)) ?_
   cases g0:Jy hv (0) (m) 116 with
   |false=>simp (maxSteps:=2000000) -implicitDefEqProofs only[go_sem,Jb,← hmm]; simp[kinL,hll,← hmm,h0,g0]
   |true=>simp (maxSteps:=2000000) -implicitDefEqProofs only[go_sem,Jb,← hmm]; simp[kinL,hll,← hmm,h0,g0]
 ·refine Ja c44_ok rfl rfl fun N=>?_
  cases h0:(m == 1) with
  |false=>simp (maxSteps:=2000000) -implicitDefEqProofs only[c44,go_sem,Jb,Int.cast_ofNat_Int,← hmm,h0]; simp[kinL,hll,← hmm,h0]
  |true=>
   simp (maxSteps:=2000000) -implicitDefEqProofs only[c44,go_sem,Jb,Int.cast_ofNat_Int,← hmm,h0]
   refine Js (gok rfl) (K200 (0) (1)) ?_
   cases g0:Jy hv (0) (1) 101 with
   |false=>simp (maxSteps:=2000000) -implicitDefEqProofs only[go_sem,Jb,← hmm]; simp[kinL,hll,← hmm,h0,g0]
   |true=>simp (maxSteps:=2000000) -implicitDefEqProofs only[go_sem,Jb,← hmm]; simp[kinL,hll,← hmm,h0,g0]
 ·refine Ja c44_ok rfl rfl fun N=>?_
  cases h0:(m == 1) with
  |false=>simp (maxSteps:=2000000) -implicitDefEqProofs only[c44,go_sem,Jb,Int.cast_ofNat_Int,← hmm,h0]; simp[kinL,hll,← hmm,h0]
  |true=>
   simp (maxSteps:=2000000) -implicitDefEqProofs only[c44,go_sem,Jb,Int.cast_ofNat_Int,← hmm,h0]
   refine Js (gok rfl) (K200 (0) (1)) ?_
   cases g0:Jy hv (0) (1) 101 with
   |false=>simp (maxSteps:=2000000) -implicitDefEqProofs only[go_sem,Jb,← hmm]; simp[kinL,hll,← hmm,h0,g0]
   |true=>simp (maxSteps:=2000000) -implicitDefEqProofs only[go_sem,Jb,← hmm]; simp[kinL,hll,← hmm,h0,g0]
 ·refine Ja c44_ok rfl rfl fun N=>?_
  simp (maxSteps:=2000000) -implicitDefEqProofs only[c44,go_sem,Jb,Int.cast_ofNat_Int,← hmm]
  refine vr_f (K200 (0) (m)) ?_
  cases g0:Jy hv (0) (m) 101 with
  |false=>simp (maxSteps:=2000000) -implicitDefEqProofs only[go_sem,Jb,← hmm]; simp[kinL,hll,← hmm,g0]
  |true=>simp (maxSteps:=2000000) -implicitDefEqProofs only[go_sem,Jb,← hmm]; simp[kinL,hll,← hmm,g0]
 ·refine Ja c44_ok rfl rfl fun N=>?_
  cases h0:(m == 2) with
  |false=>simp (maxSteps:=2000000) -implicitDefEqProofs only[c44,go_sem,Jb,Int.cast_ofNat_Int,← hmm,h0]; simp[kinL,hll,← hmm,h0]
  |true=>
   simp (maxSteps:=2000000) -implicitDefEqProofs only[c44,go_sem,Jb,Int.cast_ofNat_Int,← hmm,h0]
   refine Js (gok rfl) (K48 (0) (1)) ?_
   cases g0:Jy hv (0) (1) 79 with
   |false=>simp (maxSteps:=2000000) -implicitDefEqProofs only[go_sem,Jb,← hmm]; simp[kinL,hll,← hmm,h0,g0]
   |true=>
    simp (maxSteps:=2000000) -implicitDefEqProofs only[go_sem,Jb,← hmm]
    refine Js (gok rfl) (K200 (1) (2)) ?_
    cases g1:Jy hv (1) (2) 101 with
    |false=>simp (maxSteps:=2000000) -implicitDefEqProofs only[go_sem,Jb,← hmm]; simp[kinL,hll,← hmm,h0,g0,g1]
    |true=>simp (maxSteps:=2000000) -implicitDefEqProofs only[go_sem,Jb,← hmm]; simp[kinL,hll,← hmm,h0,g0,g1]
 ·refine Ja c44_ok rfl rfl fun N=>?_
  cases h0:(m == 3) with
  |false=>simp (maxSteps:=2000000) -implicitDefEqProofs only[c44,go_sem,Jb,Int.cast_ofNat_Int,← hmm,h0]; simp[kinL,hll,← hmm,h0]
  |true=>
   simp (maxSteps:=2000000) -implicitDefEqProofs only[c44,go_sem,Jb,Int.cast_ofNat_Int,← hmm,h0]
   refine Js (gok rfl) (K48 (0) (2)) ?_
   cases g0:Jy hv (0) (2) 79 with
   |false=>simp (maxSteps:=2000000) -implicitDefEqProofs only[go_sem,Jb,← hmm]; simp[kinL,hll,← hmm,h0,g0]
   |true=>
    simp (maxSteps:=2000000) -implicitDefEqProofs only[go_sem,Jb,← hmm]
    refine Js (gok rfl) (K200 (2) (3)) ?_
    cases g1:Jy hv (2) (3) 101 with
    |false=>simp (maxSteps:=2000000) -implicitDefEqProofs only[go_sem,Jb,← hmm]; simp[kinL,hll,← hmm,h0,g0,g1]
    |true=>simp (maxSteps:=2000000) -implicitDefEqProofs only[go_sem,Jb,← hmm]; simp[kinL,hll,← hmm,h0,g0,g1]
 ·refine Ja c44_ok rfl rfl fun N=>?_
  cases h0:(m == 0) with
  |false=>simp (maxSteps:=2000000) -implicitDefEqProofs only[c44,go_sem,Jb,Int.cast_ofNat_Int,← hmm,h0]; simp[kinL,hll,← hmm,h0]
  |true=>simp (maxSteps:=2000000) -implicitDefEqProofs only[c44,go_sem,Jb,Int.cast_ofNat_Int,← hmm,h0]; simp[kinL,hll,← hmm,h0]
 ·refine Ja c44_ok rfl rfl fun N=>?_
  cases h0:(m == 0) with
  |false=>simp (maxSteps:=2000000) -implicitDefEqProofs only[c44,go_sem,Jb,Int.cast_ofNat_Int,← hmm,h0]; simp[kinL,hll,← hmm,h0]
  |true=>simp (maxSteps:=2000000) -implicitDefEqProofs only[c44,go_sem,Jb,Int.cast_ofNat_Int,← hmm,h0]; simp[kinL,hll,← hmm,h0]
 ·refine Ja c44_ok rfl rfl fun N=>?_
  cases h0:(m == 0) with
  |false=>simp (maxSteps:=2000000) -implicitDefEqProofs only[c44,go_sem,Jb,Int.cast_ofNat_Int,← hmm,h0]; simp[kinL,hll,← hmm,h0]
  |true=>simp (maxSteps:=2000000) -implicitDefEqProofs only[c44,go_sem,Jb,Int.cast_ofNat_Int,← hmm,h0]; simp[kinL,hll,← hmm,h0]
 ·refine Ja c44_ok rfl rfl fun N=>?_
  cases h0:(m == 1) with
  |false=>simp (maxSteps:=2000000) -implicitDefEqProofs only[c44,go_sem,Jb,Int.cast_ofNat_Int,← hmm,h0]; simp[kinL,hll,← hmm,h0]
  |true=>
   simp (maxSteps:=2000000) -implicitDefEqProofs only[c44,go_sem,Jb,Int.cast_ofNat_Int,← hmm,h0]
   refine Js (gok rfl) (K201 (0) (1)) ?_
   cases g0:Jy hv (0) (1) 116 with
   |false=>simp (maxSteps:=2000000) -implicitDefEqProofs only[go_sem,Jb,← hmm]; simp[kinL,hll,← hmm,h0,g0]
   |true=>simp (maxSteps:=2000000) -implicitDefEqProofs only[go_sem,Jb,← hmm]; simp[kinL,hll,← hmm,h0,g0]
 ·refine Ja c44_ok rfl rfl fun N=>?_
  cases h0:(m == 1) with
  |false=>simp (maxSteps:=2000000) -implicitDefEqProofs only[c44,go_sem,Jb,Int.cast_ofNat_Int,← hmm,h0]; simp[kinL,hll,← hmm,h0]
  |true=>
   simp (maxSteps:=2000000) -implicitDefEqProofs only[c44,go_sem,Jb,Int.cast_ofNat_Int,← hmm,h0]
   refine Js (gok rfl) (K201 (0) (1)) ?_
   cases g0:Jy hv (0) (1) 116 with
   |false=>simp (maxSteps:=2000000) -implicitDefEqProofs only[go_sem,Jb,← hmm]; simp[kinL,hll,← hmm,h0,g0]
   |true=>simp (maxSteps:=2000000) -implicitDefEqProofs only[go_sem,Jb,← hmm]; simp[kinL,hll,← hmm,h0,g0]
 ·refine Ja c44_ok rfl rfl fun N=>?_
  cases h0:(m == 1) with
  |false=>simp (maxSteps:=2000000) -implicitDefEqProofs only[c44,go_sem,Jb,Int.cast_ofNat_Int,← hmm,h0]; simp[kinL,hll,← hmm,h0]
  |true=>
   simp (maxSteps:=2000000) -implicitDefEqProofs only[c44,go_sem,Jb,Int.cast_ofNat_Int,← hmm,h0]
   refine Js (gok rfl) (K201 (0) (1)) ?_
   cases g0:Jy hv (0) (1) 116 with
   |false=>simp (maxSteps:=2000000) -implicitDefEqProofs only[go_sem,Jb,← hmm]; simp[kinL,hll,← hmm,h0,g0]
   |true=>simp (maxSteps:=2000000) -implicitDefEqProofs only[go_sem,Jb,← hmm]; simp[kinL,hll,← hmm,h0,g0]
 ·refine Ja c44_ok rfl rfl fun N=>?_
  simp (maxSteps:=2000000) -implicitDefEqProofs only[c44,go_sem,Jb,Int.cast_ofNat_Int,← hmm]
  refine vr_f (K64 (0) (n)) ?_
  cases g0:Jy hv (0) (n) 80 with
  |false=>simp (maxSteps:=2000000) -implicitDefEqProofs only[go_sem,Jb,← hmm]; simp[kinL,hll,← hmm,g0]
  |true=>
   simp (maxSteps:=2000000) -implicitDefEqProofs only[go_sem,Jb,← hmm]
   refine ⟨Jg (by omega) (by omega),?_⟩
   refine Js (gok rfl) (K201 (n) (m-1)) ?_
   cases g1:Jy hv (n) (m-1) 116 with
   |false=>simp (maxSteps:=2000000) -implicitDefEqProofs only[go_sem,Jb,← hmm]; simp[kinL,hll,← hmm,g0,g1]
   |true=>
    simp (maxSteps:=2000000) -implicitDefEqProofs only[go_sem,Jb,← hmm]
    refine ⟨Jg (by omega) (by omega),?_⟩
    refine Js (gok rfl) (K40 (m-1) (m)) ?_
    cases g2:Jy hv (m-1) (m) 66 with
    |false=>simp (maxSteps:=2000000) -implicitDefEqProofs only[go_sem,Jb,← hmm]; simp[kinL,hll,← hmm,g0,g1,g2]
    |true=>simp (maxSteps:=2000000) -implicitDefEqProofs only[go_sem,Jb,← hmm]; simp[kinL,hll,← hmm,g0,g1,g2]
 ·obtain ⟨r0,r1,r2,r3,r4,r5,r6,r7,r8,r9,r10,r11,r12,r13,r14,r15,r16,r17,r18,r19,r20,r21,r22,r23,r24,r25,r26,r27⟩:=rest
  have e1:=kb (m:=1) (k:=k) (by omega)
  simp only[Int.cast_ofNat_Int]at e1
  have e2:=kb (m:=2) (k:=k) (by omega)
  simp only[Int.cast_ofNat_Int]at e2
  have e3:=kb (m:=3) (k:=k) (by omega)
  simp only[Int.cast_ofNat_Int]at e3
  have e19:=kb (m:=19) (k:=k) (by omega)
  simp only[Int.cast_ofNat_Int]at e19
  have e20:=kb (m:=20) (k:=k) (by omega)
  simp only[Int.cast_ofNat_Int]at e20
  have e21:=kb (m:=21) (k:=k) (by omega)
  simp only[Int.cast_ofNat_Int]at e21
  have e22:=kb (m:=22) (k:=k) (by omega)
  simp only[Int.cast_ofNat_Int]at e22
  have e23:=kb (m:=23) (k:=k) (by omega)
  simp only[Int.cast_ofNat_Int]at e23
  have e24:=kb (m:=24) (k:=k) (by omega)
  simp only[Int.cast_ofNat_Int]at e24
  have e25:=kb (m:=25) (k:=k) (by omega)
  simp only[Int.cast_ofNat_Int]at e25
  have e26:=kb (m:=26) (k:=k) (by omega)
  simp only[Int.cast_ofNat_Int]at e26
  have e27:=kb (m:=27) (k:=k) (by omega)
  simp only[Int.cast_ofNat_Int]at e27
  have e29:=kb (m:=29) (k:=k) (by omega)
  simp only[Int.cast_ofNat_Int]at e29
  have e40:=kb (m:=40) (k:=k) (by omega)
  simp only[Int.cast_ofNat_Int]at e40
  have e41:=kb (m:=41) (k:=k) (by omega)
  simp only[Int.cast_ofNat_Int]at e41
  have e42:=kb (m:=42) (k:=k) (by omega)
  simp only[Int.cast_ofNat_Int]at e42
  have e43:=kb (m:=43) (k:=k) (by omega)
  simp only[Int.cast_ofNat_Int]at e43
  have e44:=kb (m:=44) (k:=k) (by omega)
  simp only[Int.cast_ofNat_Int]at e44
  have e45:=kb (m:=45) (k:=k) (by omega)
  simp only[Int.cast_ofNat_Int]at e45
  have e46:=kb (m:=46) (k:=k) (by omega)
  simp only[Int.cast_ofNat_Int]at e46
  have e47:=kb (m:=47) (k:=k) (by omega)
  simp only[Int.cast_ofNat_Int]at e47
  have e48:=kb (m:=48) (k:=k) (by omega)
  simp only[Int.cast_ofNat_Int]at e48
  have e60:=kb (m:=60) (k:=k) (by omega)
  simp only[Int.cast_ofNat_Int]at e60
  have e61:=kb (m:=61) (k:=k) (by omega)
  simp only[Int.cast_ofNat_Int]at e61
  have e62:=kb (m:=62) (k:=k) (by omega)
  simp only[Int.cast_ofNat_Int]at e62
  have e63:=kb (m:=63) (k:=k) (by omega)
  simp only[Int.cast_ofNat_Int]at e63
  have e64:=kb (m:=64) (k:=k) (by omega)
  simp only[Int.cast_ofNat_Int]at e64
  have e65:=kb (m:=65) (k:=k) (by omega)
  simp only[Int.cast_ofNat_Int]at e65
  have e28:=kb (m:=28) (k:=k) (by omega)
  simp only[Int.cast_ofNat_Int]at e28
  have hE:kinL k n hv=(decide (4≤k) && decide (k≤18) && (m == 2) && Jy hv 0 2 101):=by
   simp only[kinL]
   rw[if_neg (by omega),if_neg (by omega),if_neg (by omega),if_neg (by omega),if_neg (by omega),if_neg (by omega),if_neg (by omega),if_neg (by omega),if_neg (by omega),if_neg (by omega),if_neg (by omega),if_neg (by omega),if_neg (by omega)]
   rw[hll,← hmm]
  rw[hE]
  refine Ja c44_ok rfl rfl fun N=>?_
  by_cases h4:4≤k
  ·have f4:((4:Int)≤(k:Int))=True:=eq_true (by omega)
   by_cases h18:k≤18
   ·have f18:((k:Int)≤18)=True:=eq_true (by omega)
    cases h0:(m == 2) with
    |false=>simp (maxSteps:=2000000) -implicitDefEqProofs only[c44,go_sem,Jb,Int.cast_ofNat_Int,← hmm,f4,f18,h0,e1,e2,e3,e19,e20,e21,e22,e23,e24,e25,e26,e27,e29,e40,e41,e42,e43,e44,e45,e46,e47,e48,e60,e61,e62,e63,e64,e65,e28]
    |true=>
     simp (maxSteps:=2000000) -implicitDefEqProofs only[c44,go_sem,Jb,Int.cast_ofNat_Int,← hmm,f4,f18,h0,e1,e2,e3,e19,e20,e21,e22,e23,e24,e25,e26,e27,e29,e40,e41,e42,e43,e44,e45,e46,e47,e48,e60,e61,e62,e63,e64,e65,e28]
     refine Js (gok rfl) (K200 0 2) ?_
     simp (maxSteps:=2000000) -implicitDefEqProofs only[go_sem]
     simp[h4,h18]
   ·have f18:((k:Int)≤18)=False:=eq_false (by omega)
    simp (maxSteps:=2000000) -implicitDefEqProofs only[c44,go_sem,Jb,Int.cast_ofNat_Int,← hmm,f4,f18,e1,e2,e3,e19,e20,e21,e22,e23,e24,e25,e26,e27,e29,e40,e41,e42,e43,e44,e45,e46,e47,e48,e60,e61,e62,e63,e64,e65,e28]
    simp[h18]
  ·have f4:((4:Int)≤(k:Int))=False:=eq_false (by omega)
   simp (maxSteps:=2000000) -implicitDefEqProofs only[c44,go_sem,Jb,Int.cast_ofNat_Int,← hmm,f4,e1,e2,e3,e19,e20,e21,e22,e23,e24,e25,e26,e27,e29,e40,e41,e42,e43,e44,e45,e46,e47,e48,e60,e61,e62,e63,e64,e65,e28]
   simp[h4]
end Go.Cm
end
