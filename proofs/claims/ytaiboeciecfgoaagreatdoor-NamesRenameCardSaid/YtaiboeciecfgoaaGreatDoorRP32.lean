/-
  A part of the proof. Conditions: none.
-/
import Derived.Test.YtaiboeciecfgoaaGreatDoorRP31
set_option linter.unusedSimpArgs false
set_option linter.unusedVariables false
open List renaming getD_eq_getElem?_getD→Ga,contains_eq_mem→Gb
noncomputable section
section
namespace Go.Cm
section
theorem chain_app {o:List Int}{m:Nat}:∀ (x y:List Int) (a e:Int),chain o m a (x++y) e↔∃ c,chain o m a x c∧chain o m c y e
 |[],y,a,e=>by simp[chain]
 |i::x,y,a,e=>by
  simp only[List.cons_append,chain,chain_app x y]
  constructor
  ·rintro ⟨h1,c,h2,h3⟩; exact ⟨c,⟨h1,h2⟩,h3⟩
  ·rintro ⟨c,⟨h1,h2⟩,h3⟩; exact ⟨h1,c,h2,h3⟩
theorem fixA_at {α:Type}{q:α→Bool}:∀ (l:List α) (i:Nat),QU q l i = -1∧(∀ x∈l,q x=false)∨∃ j x,QU q l i=((i+j:Nat):Int)∧l[j]? = some x∧q x=true:=by
 intro l
 induction l with
 |nil=>intro i; exact .inl ⟨rfl,by simp⟩
 |cons y l ih=>
  intro i
  simp only[QU]
  cases hq:q y with
  |true=>exact .inr ⟨0,y,by simp,rfl,hq⟩
  |false=>
   rcases ih (i+1) with ⟨h1,h2⟩ | ⟨j,x,h1,h2,h3⟩
   ·exact .inl ⟨by simpa using h1,fun x hx=>by
     rcases List.mem_cons.1 hx with rfl | hx
     ·exact hq
     ·exact h2 x hx⟩
   ·exact .inr ⟨j+1,x,by rw[show i+(j+1)=i+1+j by omega]; simpa using h1,by simpa using h2,h3⟩
section
variable {t:Tr}{o:List Int}(g:GoodT t o)
def endI (t:Tr):Nat→Nat
 |0=>0
 |i+1=>(t.items.getD i 0).toNat+1
include g
theorem Jab:∀ i,i≤t.items.length→chain o t.nodes.length 0 (t.items.take i) (endI t i)∧chain o t.nodes.length (endI t i) (t.items.drop i) t.nodes.length:=by
 intro i hi
 have h:=g.its
 rw[← List.take_append_drop i t.items,chain_app]at h
 obtain ⟨c,h1,h2⟩:=h
 have hc:c=(endI t i:Int):=by
  cases i with
  |zero=>simp[chain]at h1; simp[endI,h1]
  |succ i=>
   rw[Xi (d:=0) (by omega),JaK]at h1
   simp only[endI]
   omega
 rw[hc]at h1 h2
 exact ⟨h1,h2⟩
theorem item_at {i:Nat}(hi:i < t.items.length):∃ L:Nat,t.items.getD i 0=(L:Int)∧fs o L=(endI t i:Int)∧endI t i≤L∧L < t.nodes.length∧endI t (i+1)=L+1:=by
 obtain ⟨L,F,hL,hFs,hFL,hLn,hol,hoL⟩:=g.item hi
 have h:=(Jab g i (by omega)).2
 have e0:t.items.drop i=t.items.getD i 0::t.items.drop (i+1):=by
  rw[List.drop_eq_getElem_cons hi,Ga,List.getElem?_eq_getElem hi]; rfl
 rw[e0,hL]at h
 simp only[chain,Int.toNat_natCast]at h
 have:(F:Int)=endI t i:=by rw[← hoL]; exact h.1.2.2
 refine ⟨L,hL,by rw[hFs]; exact this,by omega,hLn,?_⟩
 simp only[endI,hL,Int.toNat_natCast]
theorem par_in:∀ (N n:Nat),N < t.nodes.length→fs o N≤n→n < N→∃ m:Nat,n < m∧m≤N∧(n:Int)∈(t.nodes.getD m default).kids:=by
 intro N
 induction N using Nat.strongRecOn with
 |_ N ih=>
  intro n hN h1 h2
  have hK:=JW hN
  obtain ⟨c,hc,h3,h4⟩:=QR g.ord.ok rfl _ _ _ (n:Int) (g.ord.kids hK) h1 (by omega)
  have hr:=g.ord.kid_rng hK hc
  by_cases he:c=n
  ·subst he; exact ⟨N,h2,Nat.le_refl _,hc⟩
  ·obtain ⟨c,rfl⟩:∃ k:Nat,c=(k:Int):=⟨c.toNat,by omega⟩
   obtain ⟨m,q1,q2,q3⟩:=ih c (by omega) n (by omega) h3 (by omega)
   exact ⟨m,q1,by omega,q3⟩
def J3 (t:Tr) (n:Nat):Int:=QU (fun x:Nd=>x.kids.contains (n:Int)) t.nodes 0
theorem QI {n:Nat}(hn:n < t.nodes.length):(J3 t n = -1∧∀ m:Nat,m < t.nodes.length→(n:Int)∉(t.nodes.getD m default).kids)∨∃ m:Nat,J3 t n=(m:Int)∧n < m∧m < t.nodes.length∧(n:Int)∈(t.nodes.getD m default).kids:=by
 rcases fixA_at (q:=fun x:Nd=>x.kids.contains (n:Int)) t.nodes 0 with ⟨h1,h2⟩ | ⟨j,x,h1,h2,h3⟩
 ·refine .inl ⟨h1,fun m hm hk=>?_⟩
  have:=h2 (t.nodes.getD m default) (by rw[rowN hm]; exact List.getElem_mem hm)
  simp only[Gb,decide_eq_false_iff_not]at this
  exact this hk
 ·have hj:=(List.getElem?_eq_some_iff.1 h2).1
  have hx:t.nodes.getD j default=x:=by rw[Ga,h2]; rfl
  simp only[Gb,decide_eq_true_eq]at h3
  rw[← hx]at h3
  have:=g.kid hj h3
  exact .inr ⟨j,by rw[Nat.zero_add]at h1; exact h1,by omega,hj,h3⟩
end
end
end Go.Cm
end
end
