/-
  A part of the proof. Conditions: none.
-/
import Derived.Test.YtebakpoggommpaaGreatDoorQP7
set_option linter.unusedSimpArgs false
set_option linter.unusedVariables false
open Int renaming cast_ofNat_Int→Gb
open Bool renaming eq_false_or_eq_true→Ga
noncomputable section
section
set_option maxRecDepth 100000
set_option maxHeartbeats 40000000
open Go.Proofs
namespace Go.Cm
theorem all_same {α:Type}{l:List α}{p q:α→Bool}(h:∀ x∈l,p x=q x):l.all p=l.all q:=by
 induction l with
 |nil=>rfl
 |cons a l ih=>simp only[List.all_cons]; rw[h a (by simp),ih (fun x hx=>h x (by simp[hx]))]
theorem kids_conv {l:List Nd}{x:Nd}(hn:∀ y∈l,y.k < 256) (hk:∀ k∈x.kids,0≤k∧k < l.length) {c:Nat}{b:UInt8}(h:∀ k:Nat,k < 256→isR k c=(Jey k == b)) (p q:Int):kidsR (kinds l x) p q c=JU (lets l x) p q b:=by
 unfold kidsR JU kinds lets
 have e:(((x.kids.map (Jq l)).take q.toNat).drop p.toNat).all (fun k=>isR k c)=(((x.kids.map fun k=>Jey (Jq l k)).take q.toNat).drop p.toNat).all (· == b):=by
  rw[← List.map_take,← List.map_drop,← List.map_take,← List.map_drop,List.all_map,List.all_map]
  refine all_same fun k hk2=>?_
  have hr:=hk k (List.mem_of_mem_take (List.mem_of_mem_drop hk2))
  have hlt:k.toNat < l.length:=by omega
  refine h _ ?_
  unfold Jq
  rw[List.getD_eq_getElem?_getD,List.getElem?_eq_getElem hlt]
  exact hn _ (List.getElem_mem hlt)
 rw[e]; simp
theorem cls_all:∀ k:Fin 256,∀ p∈([(200,101),(201,116),(202,99),(40,66),(41,83),(42,98),(43,73),(44,78),(45,71),(48,79),(64,80)]:List (Nat×UInt8)),isR k.val p.1=(Jey k.val == p.2):=by decide +kernel
theorem refKin1 (t:Tr) (x:Nd) (hx:x.Fit) (hm:t.nodes.length≤1400) (hn:∀ y∈t.nodes,y.k < 256) (hk:∀ k∈x.kids,0≤k∧k < t.nodes.length) (hmax:x.k=41→x.n < 9223372036854775807) (hnl:x.k≠28) :
  Fn Tryz.prog 44 [t.cv,.agg x.cv] (.bool (KZ x.k x.n (lets t.nodes x))):=by
 have hkn:=hx.kidn
 have hll:=QK (l:=t.nodes) (x:=x)
 have hK:∀ (c:Nat) (b:UInt8),(c,b)∈([(200,101),(201,116),(202,99),(40,66),(41,83),(42,98),(43,73),(44,78),(45,71),(48,79),(64,80)]:List (Nat×UInt8))→∀ p q:Int,Fn Tryz.prog 98 [t.cv,.agg x.cv,.int .i64 p,.int .i64 q,.int .u8 c] (.bool (JU (lets t.nodes x) p q b)):=by
  intro c b hcb p q
  have:=refKids t x hx hm hk p q c
  rw[kids_conv hn hk (fun k h=>cls_all ⟨k,h⟩ (c,b) hcb)]at this
  exact this
 have hnr : -9223372036854775808≤x.n:=hx.n.1
 have K200:=hK 200 101 (by decide)
 have K201:=hK 201 116 (by decide)
 have K202:=hK 202 99 (by decide)
 have K40:=hK 40 66 (by decide)
 have K41:=hK 41 83 (by decide)
 have K42:=hK 42 98 (by decide)
 have K43:=hK 43 73 (by decide)
 have K44:=hK 44 78 (by decide)
 have K45:=hK 45 71 (by decide)
 have K48:=hK 48 79 (by decide)
 have K64:=hK 64 80 (by decide)
 simp only[Gb]at K200 K201 K202 K40 K41 K42 K43 K44 K45 K48 K64
 obtain ⟨k,text,n,kids,pl⟩:=x
 generalize lets t.nodes ⟨k,text,n,kids,pl⟩=hv at hll K200 K201 K202 K40 K41 K42 K43 K44 K45 K48 K64 ⊢
 simp only[Nd.cv,Tr.cv,Tr.row]at hkn hll hnr hmax hnl K200 K201 K202 K40 K41 K42 K43 K44 K45 K48 K64 ⊢
 clear hK
 obtain ⟨m,hmm⟩:∃ m:Int,m=(kids.length:Int):=⟨_,rfl⟩
 by_cases hC:k=1∨k=2∨k=3∨k=19∨k=20∨k=21∨k=22∨k=23∨k=24∨k=25∨k=26∨k=27∨k=29∨k=40∨k=41∨k=42∨k=43∨k=44∨k=45∨k=46∨k=47∨k=48∨k=60∨k=61∨k=62∨k=63∨k=64∨k=65
 rotate_left
 ·simp only[not_or]at hC
  have hE:KZ k n hv=(decide (4≤k) && decide (k≤18) && (m == 2) && JU hv 0 2 101):=by
   simp only[KZ]
   repeat rw[if_neg (by omega)]
   rw[hll,← hmm]
  rw[hE]
  have f4:((4:Int)≤(k:Int))=(4≤k):=propext (by omega)
  have f18:((k:Int)≤18)=(k≤18):=propext (by omega)
  refine Jb c44_ok rfl rfl fun N=>?_
  by_cases h4:4≤k <;> by_cases h18:k≤18 <;> cases h0:m == 2 <;> (repeat first
   |refine JV (gok rfl) (K200 0 2) ?_
   |simp (maxSteps:=2000000) -implicitDefEqProofs only[c44,go_sem,Jf,Gb,← hmm,f4,f18,h4,h18,h0,kbo,hC,hnl,not_false_eq_true]) <;> simp
 rcases hC with rfl | rfl | rfl | rfl | rfl | rfl | rfl | rfl | rfl | rfl | rfl | rfl | rfl | rfl | rfl | rfl | rfl | rfl | rfl | rfl | rfl | rfl | rfl | rfl | rfl | rfl | rfl | rfl <;> (
  try have hmax:=hmax rfl
  simp only[KZ,hll,← hmm]
  refine Jb c44_ok rfl rfl fun N=>?_
  repeat first
   |refine ⟨Jj,?_⟩
   |refine vr_fgB (by first | exact .inl rfl | exact gok rfl) (by first | exact K200 _ _ | exact K201 _ _ | exact K202 _ _ | exact K40 _ _ | exact K41 _ _ | exact K42 _ _ | exact K48 _ _ | exact K64 _ _) (fun B hb=>?_); try simp only[hb]; clear hb; cases B
   |simp (maxSteps:=2000000) -implicitDefEqProofs only[c44,go_sem,Jf,Gb,← hmm]
   |rcases Ga (m == 0) with h0 | h0 <;> rw[h0]
   |rcases Ga (m == 1) with h0 | h0 <;> rw[h0]
   |rcases Ga (m == 2) with h0 | h0 <;> rw[h0]
   |rcases Ga (m == 3) with h0 | h0 <;> rw[h0]
   |rcases Ga (m == n+1) with h0 | h0 <;> rw[h0]
   |by_cases h0:0 < m <;> simp only[h0]
   |by_cases h0:m≤1 <;> simp only[h0]
  all_goals first | simp | simp_all)
end Go.Cm
end
end
