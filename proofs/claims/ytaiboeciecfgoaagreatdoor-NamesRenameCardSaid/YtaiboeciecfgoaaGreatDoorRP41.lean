/-
  A part of the proof. Conditions: none.
-/
import Derived.Test.YtaiboeciecfgoaaGreatDoorRP40
import Derived.Lib.SlicesCompact
set_option linter.unusedSimpArgs false
set_option linter.unusedVariables false
open Nat renaming mul_le_mul_right→Gs,le_refl→Gi,lt_succ_self→Gt,zero_mul→GD,add_zero→GG,add_mul→GH,lt_or_ge→GU
open List renaming getD_eq_getElem?_getD→Gb,getElem?_eq_getElem→Gc,length_cons→Gd,range→Ga,mem_cons→Gf,drop_eq_getElem_cons→Gn,mem_range→Gg,mem_append→Gh,mem_singleton→Gp,mem_filter→Gj,replicate→Gl,getElem?_eq_none→Gu,filter_cons→Gq,length_append→Gv,getElem_range→Gw,getElem?_eq_some_iff→GI,length_range→Gx,ext_getElem→Gy,drop_of_length_le→GJ,length_take→GK,getElem_map→GL,any_eq_true→GM,length_set→GN,tail_cons→GQ,filter_eq_nil_iff→GV,reverse_cons→GX,getElem?_set→GY,getElem?_map→GZ,length_map→G5,find?_cons→G6,drop_zero→G7,map_cons→G8
open Bool renaming and_eq_true→Gr,eq_iff_iff→Gz,not_eq_true'→G9,false_and→Ha
open Option renaming map_some→GA,getD_some→Hd
open Option.some renaming injEq→GR,inj→He
open Int renaming toNat_natCast→Gm
noncomputable section
section
namespace Go.Cm
def JeC (N:Int→List Int):Nat→List Int→List Int→List Int
 |0,_,out=>out
 |_+1,[],out=>out
 |f+1,x::todo,out=>if out.contains x then JeC N f todo out else JeC N f (todo++N x) (out++[x])
def Xn:List Int→List Int→Nat
 |[],_=>0
 |y::l,out=>(if out.contains y=true then 0 else 1)+Xn l out
def muB (l todo out:List Int):Nat:=Xn l out*(l.length+1)+todo.length
theorem left_le {out:List Int}{x:Int}:∀ m:List Int,Xn m (out++[x])≤Xn m out
 |[]=>Gi _
 |y::m=>by
  have ih:=left_le (out:=out) (x:=x) m
  simp only[Xn]
  by_cases h1:out.contains y=true
  ·have h2:(out++[x]).contains y=true:=by simp at h1 ⊢; exact .inl h1
   rw[if_pos h1,if_pos h2]; omega
  ·rw[if_neg h1]; split <;> omega
theorem XF {out:List Int}{x:Int}:∀ {l:List Int},x∈l→out.contains x=false→Xn l (out++[x]) < Xn l out
 |[],hx,_=>by cases hx
 |y::l,hx,hn=>by
  have hle:=left_le (out:=out) (x:=x) l
  simp only[Xn]
  by_cases he:y=x
  ·subst he
   have h2:(out++[y]).contains y=true:=by simp
   rw[if_pos h2,if_neg (by rw[hn]; simp)]
   omega
  ·have hxl:x∈l:=by
    rcases Gf.1 hx with h | h
    ·exact absurd h.symm he
    ·exact h
   have:=XF hxl hn
   have h3:(out++[x]).contains y=out.contains y:=by
    rw[Gz]; simp[he]
   rw[h3]
   omega
theorem Jb4 {N:Int→List Int}{l:List Int}(hN:∀ x∈l,(∀ y∈N x,y∈l)∧(N x).length≤l.length):∀ (f f':Nat) (todo out:List Int),(∀ x∈todo,x∈l)→muB l todo out < f→muB l todo out < f'→JeC N f todo out=JeC N f' todo out
 |0,_,_,_,_,h,_=>by omega
 |_,0,_,_,_,_,h=>by omega
 |f+1,f' + 1,[],out,_,_,_=>rfl
 |f+1,f' + 1,x::todo,out,ht,h1,h2=>by
  simp only[JeC]
  have hx:=ht x (by simp)
  by_cases hc:out.contains x=true
  ·rw[if_pos hc,if_pos hc]
   refine Jb4 hN f f' todo out (fun y hy=>ht y (by simp[hy])) ?_ ?_ <;> (unfold muB at *; simp only[Gd]at *; omega)
  ·rw[if_neg hc,if_neg hc]
   have hl:=XF hx (by simpa using hc)
   have hn:=hN x hx
   have hm:(Xn l (out++[x])+1)*(l.length+1)≤Xn l out*(l.length+1):=Gs _ hl
   refine Jb4 hN f f' (todo++N x) (out++[x]) (fun y hy=>?_) ?_ ?_
   ·rcases Gh.1 hy with hy | hy
    ·exact ht y (by simp[hy])
    ·exact hn.1 y hy
   all_goals
    unfold muB at *
    simp only[Gd,Gv,GH]at *
    omega
def bfs (N:Int→List Int) (l todo out:List Int):List Int:=JeC N (muB l todo out+1) todo out
theorem bfs_nil {N:Int→List Int}{l out:List Int}:bfs N l [] out=out:=rfl
theorem bfs_old {N:Int→List Int}{l todo out:List Int}{x:Int}(hN:∀ x∈l,(∀ y∈N x,y∈l)∧(N x).length≤l.length) (ht:∀ y∈x::todo,y∈l) (hc:out.contains x=true):bfs N l (x::todo) out=bfs N l todo out:=by
 unfold bfs
 rw[JeC,if_pos hc]
 refine Jb4 hN _ _ todo out (fun y hy=>ht y (by simp[hy])) ?_ (Gt _)
 unfold muB
 simp only[Gd]
 omega
theorem bfs_new {N:Int→List Int}{l todo out:List Int}{x:Int}(hN:∀ x∈l,(∀ y∈N x,y∈l)∧(N x).length≤l.length) (ht:∀ y∈x::todo,y∈l) (hc:out.contains x=false):bfs N l (x::todo) out=bfs N l (todo++N x) (out++[x]):=by
 unfold bfs
 rw[JeC,if_neg (by rw[hc]; simp)]
 have hx:=ht x (by simp)
 have hl:=XF hx hc
 have hn:=hN x hx
 have hm:(Xn l (out++[x])+1)*(l.length+1)≤Xn l out*(l.length+1):=Gs _ hl
 refine Jb4 hN _ _ _ _ (fun y hy=>?_) ?_ (Gt _)
 ·rcases Gh.1 hy with hy | hy
  ·exact ht y (by simp[hy])
  ·exact hn.1 y hy
 ·unfold muB
  simp only[Gd,Gv,GH]at *
  omega
section
def Q8 (t:Tr) (o:List Int) (i:Nat):Int:=if (nd t i).k=3 then Jfn t o i else if (nd t i).k=26 then Jfo t i else if (nd t i).k=44 then JdU t i else -1
def Qx (t:Tr) (i:Nat):Bool:=(nd t i).k == 3 || (nd t i).k == 26 || (nd t i).k == 44
def X5 (t:Tr) (o:List Int) (a b:Int):List Nat→Option (Nat×Int)
 |[]=>none
 |i::l=>if twN t i=true then some (i,a) else if (Qx t i && Q8 t o i == -1)=true then some (i,b) else X5 t o a b l
def Jf4 (t:Tr) (o:List Int) (a b:Int):List Nat→Option (Nat×Int)
 |[]=>none
 |i::l=>if (Qx t i && decide (Q8 t o i < 0))=true then some (i,b) else if twR t o i=true then some (i,a) else Jf4 t o a b l
theorem Jgz {l:List Int}{q:Int→Bool}(h:∀ x∈l,0≤x):(match l.find? q with | some d=>d | none=>-1) < 0↔(match l.find? q with | some d=>d | none=>-1) = -1:=by
 cases hf:l.find? q with
 |none=>simp
 |some d=>
  have:=h d (List.mem_of_find?_eq_some hf)
  simp only
  omega
theorem mean_neg {t:Tr}{o:List Int}{i:Nat}:Q8 t o i < 0↔Q8 t o i = -1:=by
 have h:∀ x∈Ka t,0≤x:=fun x hx=>(Qp.1 hx).1
 unfold Q8
 split
 ·exact Jgz h
 split
 ·exact Jgz h
 split
 ·exact Jgz h
 ·omega
section
variable {t:Tr}{o:List Int}(g:GoodT t o)
include g
omit g in
theorem tw_next {i:Nat}(hk:(nd t i).k=44) (h:twN t i=true):∃ k,k < i∧(nd t k).k=44∧Q8 t o k=Q8 t o i:=by
 unfold twN at h
 rw[if_neg (by rintro ⟨h1,_⟩; exact h1 hk),GM]at h
 obtain ⟨k,hki,hb⟩:=h
 rw[if_pos hk]at hb
 simp only[Gr,beq_iff_eq]at hb
 obtain ⟨h1,h2,h3⟩:=hb
 refine ⟨k,Gg.1 hki,h2,?_⟩
 unfold Q8
 rw[hk,h2,if_neg (by decide),if_neg (by decide),if_pos rfl,if_neg (by decide),if_neg (by decide),if_pos rfl]
 unfold JdU
 rw[h1,h3]
theorem scan_eq (a b:Int):∀ (n m:Nat),n+m=t.nodes.length→(∀ k,k < n→(Qx t k && Q8 t o k == -1)=false)→X5 t o a b ((Ga t.nodes.length).drop n)=Jf4 t o a b ((Ga t.nodes.length).drop n)
 |n,0,hnm,_=>by
  rw[GJ (by rw[Gx]; omega)]; rfl
 |n,m+1,hnm,hprev=>by
  have hlt:n < (Ga t.nodes.length).length:=by rw[Gx]; omega
  rw[Gn hlt,Gw]
  have hnl:n < t.nodes.length:=by omega
  have hneg:(Qx t n && decide (Q8 t o n < 0))=(Qx t n && Q8 t o n == -1):=by
   congr 1
   rw[Gz,decide_eq_true_eq,beq_iff_eq]
   exact mean_neg
  simp only[X5,Jf4]
  rw[hneg,← tw_eq g hnl]
  by_cases h1:(Qx t n && Q8 t o n == -1)=true
  ·rw[if_pos h1]
   by_cases h2:twN t n=true
   ·exfalso
    have hk:(nd t n).k=44:=by
     unfold twN at h2
     by_cases h3:(nd t n).k≠44∧Kk (nd t n).k=false
     ·rw[if_pos h3]at h2; cases h2
     ·unfold Qx at h1
      simp only[Gr,Bool.or_eq_true,beq_iff_eq]at h1
      by_cases h4:(nd t n).k=44
      ·exact h4
      ·exfalso
       apply h3
       refine ⟨h4,?_⟩
       rcases h1.1 with (e | e) | e
       ·rw[e]; rfl
       ·rw[e]; rfl
       ·exact absurd e h4
    obtain ⟨k,hkn,hkk,hkm⟩:=tw_next (o:=o) hk h2
    have hp:=hprev k hkn
    rw[hkm]at hp
    unfold Qx at hp h1
    rw[hkk]at hp
    simp only[Gr]at h1
    rw[h1.2]at hp
    simp at hp
   ·rw[if_neg h2,if_pos h1]
  ·rw[if_neg h1,if_neg h1]
   by_cases h2:twN t n=true
   ·rw[if_pos h2,if_pos h2]
   ·rw[if_neg h2,if_neg h2]
    refine scan_eq a b (n+1) m (by omega) fun k hk=>?_
    by_cases hkn:k < n
    ·exact hprev k hkn
    ·have:k=n:=by omega
     subst this
     simpa using h1
end
end
section
theorem Jeu {N M:Int→List Int}{q:Int→Prop}(hN:∀ x,q x→N x=M x∧∀ y∈N x,q y):∀ (f:Nat) (todo out:List Int),(∀ x∈todo,q x)→JeC N f todo out=JeC M f todo out
 |0,_,_,_=>rfl
 |_+1,[],_,_=>rfl
 |f+1,x::todo,out,h=>by
  have hx:=hN x (h x (by simp))
  simp only[JeC]
  split
  ·exact Jeu hN f todo out fun y hy=>h y (by simp[hy])
  ·rw[← hx.1]
   refine Jeu hN f _ _ fun y hy=>?_
   rcases Gh.1 hy with hy | hy
   ·exact h y (by simp[hy])
   ·exact hx.2 y hy
def ofL (t:Tr) (o:List Int):List Int:=(Ga t.nodes.length).map fun i=>Q8 t o i
def stN (t:Tr) (o:List Int) (i:Nat):Bool:=(nd t i).k == 41 && (bfs (fun x=>KF t o (ofL t o) x.toNat) (Ka t) (KF t o (ofL t o) i) []).contains (i:Int)
def stR (t:Tr) (o:List Int) (i:Nat):Bool:=(nd t i).k == 41 && ((Ka t).filter fun x=>(bfs (fun x=>XQ t o (ofL t o) x.toNat) (Ka t) (XQ t o (ofL t o) i) []).contains x).contains (i:Int)
theorem nd_in {t:Tr}{i:Nat}(h:(nd t i).k≠0):i < t.nodes.length:=by
 rcases GU i t.nodes.length with h1 | h1
 ·exact h1
 ·exfalso
  apply h
  unfold nd
  rw[Gb,Gu h1]
  rfl
section
variable {t:Tr}{o:List Int}(g:GoodT t o)
include g
theorem JbO {of:List Int}{s:Nat}{x:Int}(h:x∈KF t o of s):0≤x∧x < t.nodes.length∧(nd t x.toNat).k=41:=by
 unfold KF at h
 rw[Gj,Qp]at h
 obtain ⟨h0,h⟩:=h
 simp only[GM,Gg,Gr,beq_iff_eq,decide_eq_true_eq,G9,K9]at h
 obtain ⟨i,hi,h1,h2,h3,h4,h5,h6,h7⟩:=h
 refine ⟨h0.1,h0.2,?_⟩
 generalize (of.getD i (-1)).toNat=m at h3 h5
 have hm:=nd_in (t:=t) (i:=m) (by omega)
 obtain ⟨u,q1,q2,q3,q4⟩:=Xv g hm (by omega)
 have:x.toNat=u:=by omega
 rw[this]
 exact (Jbi (Jgf g q2 q4)).2.2.1 (by rw[h3]; rfl)
theorem st_eq {i:Nat}(hi:i < t.nodes.length):stN t o i=stR t o i:=by
 unfold stN stR
 by_cases hk:(nd t i).k=41
 ·have hq:∀ x:Int,(0≤x∧x < t.nodes.length∧(nd t x.toNat).k=41)→KF t o (ofL t o) x.toNat=XQ t o (ofL t o) x.toNat∧∀ y∈KF t o (ofL t o) x.toNat,(0≤y∧y < t.nodes.length∧(nd t y.toNat).k=41):=fun x hx=>
   ⟨need_eq g (by omega) hx.2.2,fun y hy=>JbO g hy⟩
  rw[← need_eq g hi hk]
  unfold bfs
  rw[Jeu hq _ _ _ fun x hx=>JbO g hx]
  congr 1
  rw[Gz]
  simp only[List.contains_eq_mem,decide_eq_true_eq,Gj,Qp]
  constructor
  ·intro h; exact ⟨by omega,h⟩
  ·intro h; exact h.2
 ·have e:((nd t i).k == 41)=false:=by simpa using hk
  rw[e,Ha,Ha]
end
def Yr (t:Tr) (o:List Int):Nat×Int:=match X5 t o 6 10 (Ga t.nodes.length) with
 |some r=>r
 |none=>match (Ga t.nodes.length).find? (stN t o) with
  |some i=>(i,9)
  |none=>(0,0)
def resR (t:Tr) (o:List Int):Nat×Int:=match Jf4 t o 6 10 (Ga t.nodes.length) with
 |some r=>r
 |none=>match (Ga t.nodes.length).find? (stR t o) with
  |some i=>(i,9)
  |none=>(0,0)
theorem res_eq {t:Tr}{o:List Int}(g:GoodT t o):Yr t o=resR t o:=by
 have h:=scan_eq g 6 10 0 t.nodes.length (by omega) (fun k hk=>by omega)
 rw[G7]at h
 have hf:∀ l:List Nat,(∀ i∈l,i < t.nodes.length)→l.find? (stN t o)=l.find? (stR t o):=by
  intro l
  induction l with
  |nil=>intro _; rfl
  |cons i l ih=>
   intro hl
   rw[G6,G6,st_eq g (hl i (by simp)),ih fun x hx=>hl x (by simp[hx])]
 unfold Yr resR
 rw[h,hf _ fun i hi=>Gg.1 hi]
end
theorem Jet {N:Int→List Int}{q:Int→Prop}(hq:∀ x,q x→∀ y∈N x,q y):∀ (f:Nat) (todo out:List Int),(∀ x∈todo,q x)→(∀ x∈out,q x)→∀ x∈JeC N f todo out,q x
 |0,_,_,_,h2,x,hx=>h2 x hx
 |_+1,[],_,_,h2,x,hx=>h2 x hx
 |f+1,y::todo,out,h1,h2,x,hx=>by
  simp only[JeC]at hx
  split at hx
  ·exact Jet hq f todo out (fun z hz=>h1 z (by simp[hz])) h2 x hx
  ·refine Jet hq f _ _ (fun z hz=>?_) (fun z hz=>?_) x hx
   ·rcases Gh.1 hz with hz | hz
    ·exact h1 z (by simp[hz])
    ·exact hq y (h1 y (by simp)) z hz
   ·rcases Gh.1 hz with hz | hz
    ·exact h2 z hz
    ·rw[Gp]at hz
     rw[hz]; exact h1 y (by simp)
theorem JaM {N:Int→List Int}{l:List Int}(hN:∀ x∈l,(∀ y∈N x,y∈l)∧(N x).length≤l.length):∀ (f:Nat) (todo out:List Int),(∀ x∈todo,x∈l)→muB l todo out < f→(∀ x∈out,∀ y∈N x,y∈out∨y∈todo)→
  (∀ x∈out,x∈JeC N f todo out)∧(∀ x∈todo,x∈JeC N f todo out)∧∀ x∈JeC N f todo out,∀ y∈N x,y∈JeC N f todo out
 |0,_,_,_,h,_=>by omega
 |f+1,[],out,_,_,h3=>by
  simp only[JeC]
  refine ⟨fun x hx=>hx,fun x hx=>(by cases hx),fun x hx y hy=>?_⟩
  rcases h3 x hx y hy with h | h
  ·exact h
  ·cases h
 |f+1,x::todo,out,ht,h1,h3=>by
  simp only[JeC]
  have hx:=ht x (by simp)
  by_cases hc:out.contains x=true
  ·rw[if_pos hc]
   have hxo:x∈out:=by simpa using hc
   obtain ⟨a1,a2,a3⟩:=JaM hN f todo out (fun y hy=>ht y (by simp[hy])) (by unfold muB at *; simp only[Gd]at *; omega) (fun z hz y hy=>by
    rcases h3 z hz y hy with h | h
    ·exact .inl h
    ·rcases Gf.1 h with rfl | h
     ·exact .inl hxo
     ·exact .inr h)
   refine ⟨a1,fun z hz=>?_,a3⟩
   rcases Gf.1 hz with rfl | hz
   ·exact a1 _ hxo
   ·exact a2 z hz
  ·rw[if_neg hc]
   have hl:=XF hx (by simpa using hc)
   have hn:=hN x hx
   have hm:(Xn l (out++[x])+1)*(l.length+1)≤Xn l out*(l.length+1):=Gs _ hl
   obtain ⟨a1,a2,a3⟩:=JaM hN f (todo++N x) (out++[x]) (fun y hy=>by
    rcases Gh.1 hy with hy | hy
    ·exact ht y (by simp[hy])
    ·exact hn.1 y hy) (by unfold muB at *; simp only[Gd,Gv,GH]at *; omega) (fun z hz y hy=>by
    rcases Gh.1 hz with hz | hz
    ·rcases h3 z hz y hy with h | h
     ·exact .inl (by simp[h])
     ·rcases Gf.1 h with rfl | h
      ·exact .inl (by simp)
      ·exact .inr (by simp[h])
    ·rw[Gp]at hz
     subst hz
     exact .inr (by simp[hy]))
   refine ⟨fun z hz=>a1 z (by simp[hz]),fun z hz=>?_,a3⟩
   rcases Gf.1 hz with rfl | hz
   ·exact a1 _ (by simp)
   ·exact a2 z (by simp[hz])
theorem free_one {N:Int→List Int}{l:List Int}(hN:∀ x∈l,(∀ y∈N x,y∈l)∧(N x).length≤l.length) (hno:∀ x∈l,x∉bfs N l (N x) []) {left:List Int}(hl:∀ x∈left,x∈l) (hne:left≠[]):∃ x∈left,∀ y∈N x,y∉left:=by
 have key:∀ (m:Nat) (x:Int),x∈left→(l.filter fun z=>(bfs N l (N x) []).contains z).length≤m→∃ x∈left,∀ y∈N x,y∉left:=by
  intro m
  induction m with
  |zero=>
   intro x hx hm
   refine ⟨x,hx,fun y hy hyl=>?_⟩
   have hc:=JaM hN _ (N x) [] (hN x (hl x hx)).1 (Gt _) (fun z hz=>by cases hz)
   have:y∈l.filter fun z=>(bfs N l (N x) []).contains z:=by
    rw[Gj]
    exact ⟨hl y hyl,by simpa [bfs]using hc.2.1 y hy⟩
   have:=List.length_pos_of_mem this
   omega
  |succ m ih=>
   intro x hx hm
   by_cases hf:∀ y∈N x,y∉left
   ·exact ⟨x,hx,hf⟩
   ·simp only[Classical.not_forall]at hf
    obtain ⟨y,hy,hyl⟩:=hf
    have hyl:y∈left:=Classical.not_not.1 hyl
    have hc:=JaM hN _ (N x) [] (hN x (hl x hx)).1 (Gt _) (fun z hz=>by cases hz)
    have hyR:y∈bfs N l (N x) []:=hc.2.1 y hy
    have hsub:∀ z∈bfs N l (N y) [],z∈bfs N l (N x) []:=Jet (q:=fun z=>z∈bfs N l (N x) []) hc.2.2 _ _ _ (hc.2.2 y hyR) (fun z hz=>by cases hz)
    refine ih y hyl ?_
    have hlt:∀ k:List Int,y∈k→(k.filter fun z=>(bfs N l (N y) []).contains z).length < (k.filter fun z=>(bfs N l (N x) []).contains z).length:=by
     have hle:∀ k:List Int,(k.filter fun z=>(bfs N l (N y) []).contains z).length≤(k.filter fun z=>(bfs N l (N x) []).contains z).length:=by
      intro k
      induction k with
      |nil=>simp
      |cons z k ihk=>
       rw[Gq,Gq]
       by_cases h1:(bfs N l (N y) []).contains z=true
       ·have h2:(bfs N l (N x) []).contains z=true:=by simp at h1 ⊢; exact hsub z h1
        rw[if_pos h1,if_pos h2]; simpa using ihk
       ·rw[if_neg h1]; split
        ·simp only[Gd]; omega
        ·exact ihk
     intro k
     induction k with
     |nil=>intro h; cases h
     |cons z k ihk=>
      intro h
      rw[Gq,Gq]
      by_cases he:z=y
      ·subst he
       have h1:¬ (bfs N l (N z) []).contains z=true:=by simpa using hno z (hl z hyl)
       have h2:(bfs N l (N x) []).contains z=true:=by simpa using hyR
       rw[if_neg h1,if_pos h2]
       have:=hle k
       simp only[Gd]
       omega
      ·have hk:y∈k:=by
        rcases Gf.1 h with h | h
        ·exact absurd h.symm he
        ·exact h
       have:=ihk hk
       by_cases h1:(bfs N l (N y) []).contains z=true
       ·have h2:(bfs N l (N x) []).contains z=true:=by simp at h1 ⊢; exact hsub z h1
        rw[if_pos h1,if_pos h2]; simpa using this
       ·rw[if_neg h1]; split
        ·simp only[Gd]; omega
        ·exact this
    have:=hlt l (hl y hyl)
    omega
 cases left with
 |nil=>exact absurd rfl hne
 |cons x left=>exact key _ x (by simp) (Gi _)
section
def upT (t:Tr):List Int:=(Ga t.nodes.length).map fun j=>J3 t j
def upTo (t:Tr) (i:Nat):List Int:=(Ga t.nodes.length).map fun j=>if J3 t j < i then J3 t j else -1
def XV (v:Int):List Int→List Int→List Int
 |r,[]=>r
 |r,k::ks=>XV v (r.set k.toNat v) ks
theorem Je5 {v:Int}:∀ (ks r:List Int),(XV v r ks).length=r.length
 |[],_=>rfl
 |k::ks,r=>by rw[XV,Je5 ks,GN]
theorem Jdz {v k:Int}:∀ (ks r:List Int),XV v r (ks++[k])=(XV v r ks).set k.toNat v
 |[],_=>rfl
 |_::ks,_=>Jdz ks _
theorem Je6 {v:Int}:∀ (ks r:List Int) (j:Nat),(∀ k∈ks,0≤k)→(XV v r ks)[j]? = if (j:Int)∈ks∧j < r.length then some v else r[j]?
 |[],_,_,_=>by simp[XV]
 |k::ks,r,j,h=>by
  rw[XV,Je6 ks _ j fun x hx=>h x (by simp[hx]),GN,GY]
  have hk:=h k (by simp)
  by_cases h1:(j:Int)∈ks∧j < r.length
  ·rw[if_pos h1,if_pos ⟨by simp[h1.1],h1.2⟩]
  ·rw[if_neg h1]
   by_cases h2:k.toNat=j
   ·rw[if_pos h2]
    by_cases h3:j < r.length
    ·rw[if_pos (by omega),if_pos ⟨by simp; left; omega,h3⟩]
    ·rw[if_neg (by omega),if_neg (fun h=>h3 h.2),Gu (by omega)]
   ·rw[if_neg h2,if_neg]
    rintro ⟨h3,h4⟩
    rcases Gf.1 h3 with h5 | h5
    ·omega
    ·exact h1 ⟨h5,h4⟩
def Xp (t:Tr) (i:Nat):List Int:=(Ga i).map (fun j=>(Xf t j:Int))++Gl (t.nodes.length-i) 0
def JcW (t:Tr):List Int:=(Ga t.nodes.length).map fun j=>(Xf t j:Int)
theorem itemTo_zero {t:Tr}:Xp t 0=Gl t.nodes.length 0:=by simp[Xp]
theorem itemTo_all {t:Tr}:Xp t t.nodes.length=JcW t:=by simp[Xp,JcW]
theorem Jfp {t:Tr}{i:Nat}(h:i≤t.nodes.length):(Xp t i).length=t.nodes.length:=by simp[Xp]; omega
theorem itemTo_succ {t:Tr}{i:Nat}(h:i < t.nodes.length):(Xp t i).set i (Xf t i:Int)=Xp t (i+1):=by
 unfold Xp
 rw[List.set_append_right _ _ (by simp)]
 simp only[G5,Gx,Nat.sub_self]
 rw[show t.nodes.length-i=(t.nodes.length-(i+1))+1 by omega,List.replicate_succ,List.set_cons_zero,List.range_succ,List.map_append]
 simp
theorem Jax {t:Tr}{i:Nat}:(upTo t i).length=t.nodes.length:=by simp[upTo]
theorem Jdu {t:Tr}:(upT t).length=t.nodes.length:=by simp[upT]
theorem JbU {t:Tr}:(JcW t).length=t.nodes.length:=by simp[JcW]
theorem upT_get {t:Tr}{i:Nat}(h:i < t.nodes.length):(upT t).getD i 0=J3 t i:=by
 simp[upT,Gb,h]
theorem itemT_get {t:Tr}{i:Nat}(h:i < t.nodes.length):(JcW t).getD i 0=Xf t i:=by
 simp[JcW,Gb,h]
section
variable {t:Tr}{o:List Int}(g:GoodT t o)
include g
theorem par_rng {j:Nat}(hj:j < t.nodes.length) : -1≤J3 t j∧J3 t j < t.nodes.length:=by
 rcases QI g hj with ⟨h,_⟩ | ⟨m,h,h1,h2,_⟩ <;> omega
theorem upTo_zero:upTo t 0=Gl t.nodes.length (-1):=by
 refine Gy (by simp[upTo]) fun j h1 h2=>?_
 have hj:j < t.nodes.length:=by rwa [Jax]at h1
 have:=par_rng g hj
 simp only[upTo,GL,Gw,List.getElem_replicate]
 split <;> omega
theorem upTo_all:upTo t t.nodes.length=upT t:=by
 refine Gy (by simp[upTo,upT]) fun j h1 h2=>?_
 have hj:j < t.nodes.length:=by rwa [Jax]at h1
 have:=par_rng g hj
 simp only[upTo,upT,GL,Gw]
 split <;> omega
theorem upTo_succ {i:Nat}(hi:i < t.nodes.length):upTo t (i+1)=XV i (upTo t i) (nd t i).kids:=by
 refine List.ext_getElem? fun j=>?_
 rw[Je6 (nd t i).kids _ _ fun k hk=>(g.kid hi hk).1,Jax]
 by_cases hj:j < t.nodes.length
 ·simp only[upTo,GZ,List.getElem?_range hj,GA]
  by_cases hm:(j:Int)∈(nd t i).kids
  ·have:=(Kn g hi hm).1
   rw[if_pos (show (j:Int)∈(nd t i).kids∧j < t.nodes.length from ⟨hm,hj⟩),if_pos (show J3 t j < ((i+1:Nat):Int) by omega),this]
  ·rw[if_neg (show ¬ ((j:Int)∈(nd t i).kids∧j < t.nodes.length) from fun h=>hm h.1)]
   have hne:J3 t j≠i:=by
    intro he
    rcases QI g hj with ⟨h,_⟩ | ⟨m,h,_,_,h4⟩
    ·omega
    ·have:m=i:=by omega
     subst this
     exact hm h4
   by_cases h1:J3 t j < i
   ·rw[if_pos h1,if_pos (show J3 t j < ((i+1:Nat):Int) by omega)]
   ·rw[if_neg h1,if_neg (show ¬ J3 t j < ((i+1:Nat):Int) by omega)]
 ·rw[if_neg (fun h=>hj h.2),Gu (by rw[Jax]; omega),Gu (by rw[Jax]; omega)]
theorem Jfq:Xf t 0=0:=by
 unfold Xf
 rw[List.length_eq_zero_iff,GV]
 intro L hL
 have:=g.itr hL
 simp; omega
theorem itemN_step {i:Nat}(hi:i < t.nodes.length):∃ L:Nat,Xf t i < t.items.length∧t.items.getD (Xf t i) 0=(L:Int)∧i≤L∧L < t.nodes.length∧Xf t (i+1)=if i=L then Xf t i+1 else Xf t i:=by
 obtain ⟨k,L,hk,hget,h1,h2,h3,h4⟩:=item_of g hi
 have hL:(L:Int)∈t.items:=List.mem_of_getElem? hget
 have hLr:=g.itr hL
 refine ⟨L,by omega,by rw[h1,Gb,hget]; rfl,h4,by omega,?_⟩
 rw[h1]
 have ha:=Jas g.ord.ok g.olen _ _ _ g.its
 have hkl:t.items=t.items.take k++(L:Int)::t.items.drop (k+1):=by
  have h6:=Gn hk
  have h7:=Gc hk
  rw[hget]at h7
  rw[← He h7]at h6
  rw[← h6,List.take_append_drop]
 rw[hkl,List.pairwise_append]at ha
 obtain ⟨_,ha2,ha3⟩:=ha
 rw[List.pairwise_cons]at ha2
 have hlt:∀ x∈t.items.take k,x < (i:Int):=fun x hx=>by
  have:=(KW g.ord.ok g.olen _ _ _ (Jab g k (Nat.le_of_lt hk)).1 x hx).2.2.1
  omega
 unfold Xf
 rw[hkl,List.filter_append,Gq,List.filter_eq_self.2 (fun x hx=>by have:=hlt x hx; simp; omega),GV.2 (fun x hx=>by have:=ha2.1 x hx; simp; omega)]
 have hlk:(t.items.take k).length=k:=by rw[GK]; omega
 by_cases he:i=L
 ·rw[if_pos he,if_pos (by simp; omega),Gv,hlk]; rfl
 ·rw[if_neg he,if_neg (by simp; omega),List.append_nil,hlk]
end
end
end Go.Cm
end
section
open Go.Proofs
namespace Go.Cm
section
section
variable {P:Program}{E:Env}{H:List CObj}
theorem putCells_get {α:Type} [Inhabited α] (enc:α→Value) (off:Nat) (d:Array α) (c:Array Value) (k:Nat):(Sort.putCells enc off d c)[k]? = (c[k]?).map fun x=>if off≤k∧k < off+d.size then enc d[k-off]! else x:=by
 simp[Sort.putCells]
theorem putRow_heap {α:Type} [Inhabited α] (enc:α→Value) (w:World) (B off:Nat) (d:Array α) {c:Array Value}{e:TypeId}{fr:Nat×Nat}(hb:w.heap[B]? = some (.cells c e fr)):(Sort.putRow enc w B off d).heap[B]? = some (.cells (Sort.putCells enc off d c) e fr):=by
 simp[Sort.putRow,Sort.mapBlock,Array.getElem?_modify,hb,Sort.onCells]
theorem putRow_other {α:Type} [Inhabited α] (enc:α→Value) (w:World) (B off:Nat) (d:Array α) (B':Nat) (h:B'≠B):(Sort.putRow enc w B off d).heap[B']? = w.heap[B']?:=by
 simp[Sort.putRow,Sort.mapBlock,Array.getElem?_modify,Ne.symm h]
theorem rels_ints {own:List Own}{imm:Nat→Nat→Option Value}:∀ {ys:List Int}{vs:List Value},JE own imm (ys.map (CV.int .i64)) vs→vs=ys.map (Value.int .i64)
 |[],_,h=>h
 |y::ys,_,h=>by
  simp only[G8,JE,rel]at h
  obtain ⟨r,rs,rfl,rfl,h2⟩:=h
  rw[rels_ints h2]; rfl
theorem YN {f id:Nat}{l l' ys:List Int}{cap:Option Nat}{v:CV}(R:Nat→Nat→Nat→Value) (hl:l≠[]) (hlen:l'.length=l.length) (hH:H[id]? = some (.arr 1 (iz l)))
  (hR:∀ (own:List Own) imm (x:Own) c,own[id]? = some x→x.z=1→l.length≤c→(∀ n,cap=some n→c=n)→x.o+c≤x.n→rel own imm v (R x.B x.o c))
  (h:∀ (blk off c:Nat) (w:World),l.length≤c→Sort.Holds (Value.int .i64) w blk off l.toArray→blk < w.heap.size→Calls P f (Value.slice (some ⟨blk,off,none⟩) l.length c::ys.map (Value.int .i64)).toArray w fun e w'=>e=.returned (R blk off c)∧∃ n os,w'=Sort.grow (Sort.putRow (Value.int .i64) (Sort.ahead w n) blk off l'.toArray) os) :
  CallsC P E f (.slc id 0 l.length cap::ys.map (CV.int .i64)) H fun v' H'=>v'=v∧H'=H.set id (.arr 1 (iz l')):=by
 intro m w vs hs hv
 have hlp:0 < l.length:=List.length_pos_iff.2 hl
 simp only[JE,rel]at hv
 obtain ⟨r,rs,hvs,⟨x,a,c,hx,rfl,hc1,hcap,ha,hroom⟩,hys⟩:=hv
 obtain rfl:=rels_ints hys
 obtain ⟨hz,cells,elem,hb,hsz,hle,hrow,hone⟩:=hs.obj id _ x hH hx
 rw[hz]at hle hrow ha hroom
 have ha:=ha (by omega)
 rw[GD,GG]at ha
 have hvs:vs=(Value.slice (some a) l.length c::ys.map (Value.int .i64)).toArray:=by
  cases vs; simp only[]at hvs; rw[hvs]
 subst hvs ha
 have hrd:∀ j,j < l.length→cells[x.o+j]? = some (Value.int .i64 (l.getD j 0)):=by
  intro j hj
  obtain ⟨r,h1,h2⟩:=(hrow j [.int .i64 (l.getD j 0)] (by simp[iz,Gc hj])).2 0 _ rfl
  simp only[rel]at h2
  subst h2
  simpa using h1
 have hB:x.B < w.heap.size:=(Array.getElem?_eq_some_iff.1 hb).1
 have hHolds:Sort.Holds (Value.int .i64) w x.B x.o l.toArray:=by
  intro j hj
  have hj':j < l.length:=by simpa using hj
  refine ⟨?_,?_⟩
  ·simp only[World.cell?,hb]
   rw[hrd j hj']
   simp[getElem!_pos,hj',Gb,Gc hj']
  ·simp[World.frozen?,hb]
 refine ⟨trivial,fun cs _=>?_⟩
 obtain ⟨e,w',fr,⟨rfl,n,os,rfl⟩,hst,hl2⟩:=h x.B x.o c w hc1 hHolds hB cs
 have hb1:(Sort.putRow (Value.int .i64) (Sort.ahead w n) x.B x.o l'.toArray).heap[x.B]? = some (.cells (Sort.putCells (Value.int .i64) x.o l'.toArray cells) elem (0,0)):=putRow_heap _ _ _ _ _ (by rw[Sort.heap_ahead]; exact hb)
 have hsz1:(Sort.putRow (Value.int .i64) (Sort.ahead w n) x.B x.o l'.toArray).heap.size=w.heap.size:=by rw[Sort.size_putRow]; rfl
 have hot:∀ B,B≠x.B→(Sort.putRow (Value.int .i64) (Sort.ahead w n) x.B x.o l'.toArray).heap[B]? = w.heap[B]?:=fun B hB=>by rw[putRow_other _ _ _ _ _ _ hB]; rfl
 have hget:∀ k,(Sort.putCells (Value.int .i64) x.o l'.toArray cells)[k]? = if x.o≤k∧k < x.o+l.length then some (Value.int .i64 (l'.getD (k-x.o) 0)) else cells[k]?:=by
  intro k
  rw[putCells_get]
  by_cases hk:x.o≤k∧k < x.o+l.length
  ·have h1:=hrd (k-x.o) (by omega)
   rw[show x.o+(k-x.o)=k by omega]at h1
   have h3:k-x.o < l'.length:=by omega
   rw[h1,if_pos hk,GA,if_pos (by simp; omega)]
   simp[getElem!_pos,h3,Gb,Gc h3]
  ·rw[if_neg hk]
   cases hck:cells[k]? with
   |none=>rfl
   |some v=>rw[GA,if_neg (by simp; omega)]
 have hobj:Y0 m.own m.imm x (.arr 1 (iz l')) (Sort.putRow (Value.int .i64) (Sort.ahead w n) x.B x.o l'.toArray):=by
  refine ⟨hz,_,elem,hb1,?_,?_,?_,?_⟩
  ·simp only[Sort.putCells,Array.size_mapIdx]; exact hsz
  ·rw[hz,Jf,hlen]; rw[Jf]at hle; exact hle
  ·intro j e he
   rw[hz]
   have hj:j < l'.length:=by
    have:=(GI.1 he).1
    rwa [Jf]at this
   simp only[iz,GZ,Gc hj,GA,GR]at he
   subst he
   refine ⟨rfl,fun t c hc=>?_⟩
   cases t with
   |zero=>
    simp only[List.getElem?_cons_zero,GR]at hc
    subst hc
    refine ⟨.int .i64 (l'[j]),?_,by simp only[rel]⟩
    show (Sort.putCells (Value.int .i64) x.o l'.toArray cells)[x.o+j*1+0]? = _
    rw[hget,if_pos (by omega),show x.o+j*1+0-x.o=j by omega,Gb,Gc hj]; rfl
   |succ t=>simp at hc
  ·intro i v hv
   rw[hget]at hv
   split at hv
   ·simp only[GR]at hv; subst hv; rfl
   ·exact hone i v hv
 have hsame:(Sort.putRow (Value.int .i64) (Sort.ahead w n) x.B x.o l'.toArray).os=w.os∧(Sort.putRow (Value.int .i64) (Sort.ahead w n) x.B x.o l'.toArray).output=w.output∧(Sort.putRow (Value.int .i64) (Sort.ahead w n) x.B x.o l'.toArray).tape=w.tape:=⟨rfl,rfl,rfl⟩
 have hs1:=hs.put hH rfl hx hsz1 hot (fun i hi=>by simp only[World.cell?,hb1,hb]; rw[hget,if_neg (show ¬ (x.o≤i∧i < x.o+l.length) by omega)]) hobj (by intro s b h; cases h)
 have he1:Ext H.length m H w m (H.set id (.arr 1 (iz l'))) _:=Ext.put hH rfl hx hsz1 hot hsame
 have hg:∀ B,B < (Sort.putRow (Value.int .i64) (Sort.ahead w n) x.B x.o l'.toArray).heap.size→(Sort.grow (Sort.putRow (Value.int .i64) (Sort.ahead w n) x.B x.o l'.toArray) os).heap[B]? = (Sort.putRow (Value.int .i64) (Sort.ahead w n) x.B x.o l'.toArray).heap[B]?:=fun B hB=>Sort.heap_grow_old _ _ hB
 have hgs:(Sort.putRow (Value.int .i64) (Sort.ahead w n) x.B x.o l'.toArray).heap.size≤(Sort.grow (Sort.putRow (Value.int .i64) (Sort.ahead w n) x.B x.o l'.toArray) os).heap.size:=by rw[Sort.size_grow]; omega
 exact ⟨_,_,fr,⟨R x.B x.o c,m,v,_,rfl,he1.trans (Ext.grown hgs hg ⟨rfl,rfl,rfl⟩),hs1.grown hgs hg,hR _ _ x c hx hz hc1 hcap (by simp only[GD,Nat.mul_one,GG]at hroom; exact hroom),rfl,rfl⟩,(show StepsIn _ _ _ _ from Jf1 hst),hl2⟩
theorem callsC_sort {f id:Nat}{l:List Int}{cap:Option Nat}(hl:l≠[]) (hbig:l.length≤1000000) (hH:H[id]? = some (.arr 1 (iz l)))
  (h:∀ (blk off c:Nat) (w:World),Sort.Holds (Value.int .i64) w blk off l.toArray→blk < w.heap.size→l.length < 4611686018427387904→Calls P f #[.slice (some ⟨blk,off,none⟩) l.length c] w fun e w'=>e=.returned (.tuple #[])∧∃ n os,w'=Sort.grow (Sort.putRow (Value.int .i64) (Sort.ahead w n) blk off (l.mergeSort fun x y=>decide (x≤y)).toArray) os) :
  CallsC P E f [.slc id 0 l.length cap] H fun v' H'=>v'=.tup []∧H'=H.set id (.arr 1 (iz (l.mergeSort fun x y=>decide (x≤y)))):=
 YN (ys:=[]) (fun _ _ _=>.tuple #[]) hl (List.length_mergeSort _) hH (fun own imm x c _ _ _ _ _=>by simp only[rel,JE]; exact ⟨_,rfl,rfl⟩) fun blk off c w _ h1 h2=>h blk off c w h1 h2 (by omega)
theorem compact_len (l:List Int):(Lib.compact l).length≤l.length:=by
 unfold Lib.compact Lib.compactUpTo
 rw[G5]
 have:=List.length_filter_le (Lib.keeps l.toArray) (Ga l.length)
 rwa [Gx]at this
theorem JeP {f id:Nat}{l:List Int}{cap:Option Nat}(hl:l≠[]) (hbig:l.length≤1000000) (hH:H[id]? = some (.arr 1 (iz l)))
  (h:∀ (blk off c:Nat) (w:World),Sort.Holds (Value.int .i64) w blk off l.toArray→l.length≤9223372036854775807→l.length≤c→Calls P f #[.slice (some ⟨blk,off,none⟩) l.length c] w fun e w'=>e=.returned (.slice (some ⟨blk,off,none⟩) (Lib.compact l).length c)∧∃ n,w'=Sort.putRow (Value.int .i64) (Sort.ahead w n) blk off (Lib.compact l++Gl (l.length-(Lib.compact l).length) 0).toArray) :
  CallsC P E f [.slc id 0 l.length cap] H fun v' H'=>v'=.slc id 0 (Lib.compact l).length cap∧H'=H.set id (.arr 1 (iz (Lib.compact l++Gl (l.length-(Lib.compact l).length) 0))):=
 have hle:=compact_len l
 YN (ys:=[]) (fun blk off c=>.slice (some ⟨blk,off,none⟩) (Lib.compact l).length c) hl (by simp; omega) hH (fun own imm x c hx hz hc hcap hroom=>by
  simp only[rel]
  exact ⟨x,_,c,hx,rfl,by omega,hcap,fun _=>by rw[GD,GG],by rw[hz]; omega⟩) fun blk off c w hc h1 _=>(h blk off c w h1 (by omega) hc).mono fun e w' ⟨h3,n,h4⟩=>⟨h3,n,#[],by rw[Sort.grow_empty]; exact h4⟩
theorem Jen {l:List Int}{x:Int}:x∈Lib.compact l↔x∈l:=by
 unfold Lib.compact Lib.compactUpTo
 simp only[List.mem_map,Gj,Gg]
 constructor
 ·rintro ⟨i,⟨hi,_⟩,rfl⟩
  rw[getElem!_pos l.toArray i (by simpa using hi)]
  simp
 ·intro hx
  have key:∀ (n i:Nat),i≤n→i < l.length→l.toArray[i]! = x→∃ i,(i < l.length∧Lib.keeps l.toArray i=true)∧l.toArray[i]! = x:=by
   intro n
   induction n with
   |zero=>intro i h1 h2 h3; exact ⟨i,⟨h2,by simp[Lib.keeps]; left; omega⟩,h3⟩
   |succ n ih=>
    intro i h1 h2 h3
    by_cases hk:Lib.keeps l.toArray i=true
    ·exact ⟨i,⟨h2,hk⟩,h3⟩
    ·simp only[Lib.keeps,decide_eq_true_eq,not_or,ne_eq,Classical.not_not]at hk
     exact ih (i-1) (by omega) (by omega) (by rw[← hk.2]; exact h3)
  obtain ⟨i,hi,rfl⟩:=List.getElem_of_mem hx
  exact key i i (Gi _) hi (by rw[getElem!_pos l.toArray i (by simpa using hi)]; simp)
theorem compact_asc {l:List Int}(h:l.Pairwise (·≤·)):(Lib.compact l).Pairwise (· < ·):=by
 unfold Lib.compact Lib.compactUpTo
 rw[List.pairwise_map]
 refine List.Pairwise.imp_of_mem ?_ (List.pairwise_lt_range.filter _)
 intro a b ha hb hab
 simp only[Gj,Gg]at ha hb
 have hk:=hb.2
 simp only[Lib.keeps,decide_eq_true_eq]at hk
 have hk:=hk.resolve_left (by omega)
 have hg:∀ i,i < l.length→l.toArray[i]! = l.getD i 0:=fun i hi=>by
  rw[getElem!_pos l.toArray i (by simpa using hi),Gb,Gc hi]; simp
 rw[hg b hb.1,hg (b-1) (by omega)]at hk
 rw[hg a ha.1,hg b hb.1]
 rw[List.pairwise_iff_getElem]at h
 have hle:∀ i j,i≤j→j < l.length→l.getD i 0≤l.getD j 0:=fun i j hij hj=>by
  rw[Gb,Gb,Gc hj,Gc (show i < l.length by omega)]
  by_cases he:i=j
  ·subst he; exact Int.le_refl _
  ·exact h i j _ _ (by omega)
 have h1:=hle a (b-1) (by omega) (by omega)
 have h2:=hle (b-1) b (by omega) hb.1
 omega
theorem sort_asc (l:List Int):(l.mergeSort fun x y=>decide (x≤y)).Pairwise (·≤·):=by
 have:=List.pairwise_mergeSort (le:=fun x y:Int=>decide (x≤y)) (fun a b c h1 h2=>by simp at *; omega) (fun a b=>by simp; omega) l
 exact this.imp fun h=>by simpa using h
theorem sort_mem {l:List Int}{x:Int}:x∈(l.mergeSort fun x y=>decide (x≤y))↔x∈l:=List.mem_mergeSort
theorem sort_strict {l:List Int}(h:l.Nodup):(l.mergeSort fun x y=>decide (x≤y)).Pairwise (· < ·):=by
 have h1:=sort_asc l
 have h2:(l.mergeSort fun x y=>decide (x≤y)).Nodup:=(List.mergeSort_perm l _).nodup_iff.2 h
 exact (h1.and h2).imp fun ⟨a,b⟩=>by have:_≠_:=b; omega
end
end
end Go.Cm
end
section
namespace Go.Cm
section
def QZ (t:Tr) (o:List Int) (of:List Int) (s:Nat):List Nat→List Int
 |[]=>[]
 |i::l=>if (decide (0≤of.getD i (-1)) && ((nd t (of.getD i (-1)).toNat).k == 42 && ((nd t i).k == 3 && (Ja0 o i s && (J3 t (J3 t (of.getD i (-1)).toNat).toNat == J3 t s && !buL t (upL t (JI t s) t.nodes.length i) false)))))=true
  then J3 t (of.getD i (-1)).toNat::QZ t o of s l else QZ t o of s l
theorem needC_app {t:Tr}{o of:List Int}{s:Nat}:∀ (l m:List Nat),QZ t o of s (l++m)=QZ t o of s l++QZ t o of s m
 |[],_=>rfl
 |i::l,m=>by
  simp only[List.cons_append,QZ,needC_app l m]
  split <;> simp
theorem JdQ {t:Tr}{o of:List Int}{s:Nat}{x:Int}:∀ (l:List Nat),x∈QZ t o of s l↔∃ i∈l,(decide (0≤of.getD i (-1)) && ((nd t (of.getD i (-1)).toNat).k == 42 && ((nd t i).k == 3 && (Ja0 o i s && (J3 t (J3 t (of.getD i (-1)).toNat).toNat == J3 t s && !buL t (upL t (JI t s) t.nodes.length i) false)))))=true∧J3 t (of.getD i (-1)).toNat=x
 |[]=>by simp[QZ]
 |i::l=>by
  simp only[QZ,Gf,exists_eq_or_imp]
  split
  ·rename_i h
   rw[Gf,JdQ l]
   constructor
   ·rintro (e | e)
    ·exact .inl ⟨h,e.symm⟩
    ·exact .inr e
   ·rintro (⟨_,e⟩ | e)
    ·exact .inl e.symm
    ·exact .inr e
  ·rename_i h
   rw[JdQ l]
   constructor
   ·exact .inr
   ·rintro (⟨e,_⟩ | e)
    ·exact absurd e h
    ·exact e
theorem JdR {t:Tr}{o of:List Int}{s:Nat}:∀ (l:List Nat),(QZ t o of s l).length≤l.length
 |[]=>Gi _
 |i::l=>by
  have:=JdR (t:=t) (o:=o) (of:=of) (s:=s) l
  simp only[QZ]
  split <;> simp only[Gd] <;> omega
section
variable {t:Tr}{o:List Int}(g:GoodT t o)
include g
theorem blw_up {j a:Nat}(hj:j < t.nodes.length) (ha:a < t.nodes.length) (hne:j≠a):Ja0 o j a=if J3 t j < 0 then false else Ja0 o (J3 t j).toNat a:=by
 rcases QI g hj with ⟨hp,_⟩ | ⟨m,hp,hjm,hm,hk⟩
 ·rw[hp,if_pos (by decide),Bool.eq_false_iff]
  intro h
  obtain ⟨m,q,_⟩:=X7 g ha (K9.1 h) hne
  omega
 ·rw[hp,if_neg (by omega),Gm,Gz,K9,K9]
  constructor
  ·intro h
   obtain ⟨m',q1,_,_,q4,_⟩:=X7 g ha h hne
   have:m'=m:=by omega
   rw[← this]; exact q4
  ·intro h
   exact Jat g ha (Jd0 g hm hk) h
omit g in
theorem JfZ {top f m:Nat}:∃ l,upL t top f m=m::l:=by
 cases f with
 |zero=>exact ⟨_,rfl⟩
 |succ f=>unfold upL; split <;> exact ⟨_,rfl⟩
omit g in
theorem late_end {top f:Nat}{late:Bool}:buL t (upL t top f top) late=late:=by
 cases f with
 |zero=>rfl
 |succ f=>unfold upL; rw[if_pos rfl]; rfl
theorem late_step {s f a:Nat}{late:Bool}(hs:s < t.nodes.length) (htop:(JI t s:Int)∈(nd t s).kids) (hb:blw o a (JI t s)) (hf:t.nodes.length≤a+f) :
  (a=JI t s∧J3 t a=s)∨(a≠JI t s∧∃ m f':Nat,J3 t a=m∧m≠s∧a < m∧m < t.nodes.length∧blw o m (JI t s)∧(a:Int)∈(nd t m).kids∧t.nodes.length≤m+f'∧buL t (upL t (JI t s) f a) late=buL t (upL t (JI t s) f' m) (Jcg t m a late)):=by
 have hk:=Kn g hs htop
 by_cases he:a=JI t s
 ·exact .inl ⟨he,by rw[he]; exact hk.1⟩
 ·have htl:JI t s < t.nodes.length:=by omega
  obtain ⟨m,q1,q2,q3,q4,q5⟩:=X7 g htl hb he
  have hal:a < t.nodes.length:=by have:=hb.1; omega
  obtain ⟨f',rfl⟩:∃ f',f=f' + 1:=⟨f-1,by omega⟩
  refine .inr ⟨he,m,f',q1,by omega,q2,by omega,q4,q5,by omega,?_⟩
  have hu:upL t (JI t s) (f' + 1) a=a::upL t (JI t s) f' m:=by
   rw[upL,if_neg he,q1,Gm]
  obtain ⟨l,hl⟩:=JfZ (top:=JI t s) (f:=f') (m:=m)
  rw[hu,hl,buL]
theorem set_kid {s:Nat}(hs:s < t.nodes.length) (hk:(nd t s).k=41):(JI t s:Int)∈(nd t s).kids∧0 < (nd t s).kids.length:=by
 obtain ⟨a,hN,hl,k1,k2⟩:=Jf2 g hs hk
 change (nd t s).kids.length=a+1 at hl
 exact ⟨(KP g hs (i:=(nd t s).kids.length-1) (by omega)).1,by omega⟩
theorem need_done {of:List Int}{s:Nat}:Lib.compact ((QZ t o of s (Ga t.nodes.length)).mergeSort fun x y=>decide (x≤y))=KF t o of s:=by
 refine JfJ (compact_asc (sort_asc _)) (JaP.filter _) fun x=>?_
 unfold KF
 rw[Jen,sort_mem,JdQ,Gj,Qp]
 simp only[GM,Gg,Gr,beq_iff_eq,decide_eq_true_eq,G9]
 constructor
 ·rintro ⟨i,hi,⟨h1,h2,h3,h4,h5,h6⟩,rfl⟩
  have hm:=nd_in (t:=t) (i:=(of.getD i (-1)).toNat) (by omega)
  obtain ⟨u,q1,q2,q3,q4⟩:=Xv g hm (by omega)
  exact ⟨⟨by omega,by omega⟩,i,hi,h3,h1,h2,h4,rfl,h5,h6⟩
 ·rintro ⟨_,i,hi,h3,h1,h2,h4,rfl,h5,h6⟩
  exact ⟨i,hi,⟨h1,h2,h3,h4,h5,h6⟩,rfl⟩
end
end
section
theorem pairs_get {t:Tr}{q:Nat→Nat→Prop}:∀ (l:List Nat) (k:Nat),Jco t q l→k+1 < l.length→q (l.getD (k+1) 0) (l.getD k 0)
 |[],_,_,h=>by simp at h
 |[x],_,_,h=>by simp at h
 |c::u::l,0,h,_=>h.1
 |c::u::l,k+1,h,hk=>by
  have:=pairs_get (u::l) k h.2 (by simpa using hk)
  simpa using this
theorem rev_get {l:List Nat}{i:Nat}(h:i < l.length):l.reverse.getD i 0=l.getD (l.length-1-i) 0:=by
 rw[Gb,List.getElem?_reverse h,Gb]
theorem pairs_rev {t:Tr}{q:Nat→Nat→Prop}{l:List Nat}{i:Nat}(h:Jco t q l) (hi:i+1 < l.reverse.length):q (l.reverse.getD i 0) (l.reverse.getD (i+1) 0):=by
 rw[List.length_reverse]at hi
 rw[rev_get (by omega),rev_get (by omega)]
 have:=pairs_get l (l.length-1-(i+1)) h (by omega)
 rwa [show l.length-1-(i+1)+1=l.length-1-i by omega]at this
theorem tdL_drop {t:Tr}{l:List Nat}{i:Nat}(hi:i+1 < l.length):tdL t (l.drop i) false=match JgS t (l.getD i 0) (l.getD (i+1) 0) with | some b=>b | none=>tdL t (l.drop (i+1)) false:=by
 rw[Gn (show i < l.length by omega),Gn hi,tdL]
 simp only[Gb,Gc (show i < l.length by omega),Gc hi,Hd]
 cases JgS t l[i] l[i+1] <;> rfl
theorem tdL_end {t:Tr}{l:List Nat}{i:Nat}(hi:l.length≤i+1):tdL t (l.drop i) false=false:=by
 rcases GU i l.length with h | h
 ·rw[Gn h,GJ (by omega)]; rfl
 ·rw[GJ h]; rfl
def setL (b:List Bool):List Int:=((Ga b.length).filter fun i=>b.getD i false).map fun i:Nat=>(i:Int)
def J9 (n:Nat) (f:Int→Bool):List Bool:=(Ga n).map fun i:Nat=>f i
theorem KZ {n:Nat}{f:Int→Bool}:(J9 n f).length=n:=by simp[J9]
theorem JfG {n i:Nat}{f:Int→Bool}(h:i < n):(J9 n f).getD i false=f i:=by
 simp[J9,Gb,h]
theorem JfF {n i:Nat}{f g:Int→Bool}(h:i < n) (h1:∀ j:Nat,j < n→j≠i→g j=f j) (h2:g i=true):(J9 n f).set i true=J9 n g:=by
 refine Gy (by simp[J9]) fun j a1 a2=>?_
 rw[KZ]at a2
 rw[List.getElem_set]
 simp only[J9,GL,Gw]
 split
 ·rename_i e; subst e; exact h2.symm
 ·rename_i e; exact (h1 j a2 (fun x=>e x.symm)).symm
theorem boolsN_congr {n:Nat}{f g:Int→Bool}(h:∀ j:Nat,j < n→f j=g j):J9 n f=J9 n g:=by
 unfold J9
 exact List.map_congr_left fun j hj=>h j (Gg.1 hj)
theorem JcP {n:Nat}:J9 n (fun _=>false)=Gl n false:=by
 refine Gy (by simp[J9]) fun j a1 a2=>?_
 simp[J9]
theorem Je4 {t:Tr}{f:Int→Bool}:setL (J9 t.nodes.length f)=(Ka t).filter f:=by
 unfold setL Ka
 rw[List.filter_map,KZ]
 congr 1
 refine List.filter_congr fun i hi=>?_
 rw[JfG (Gg.1 hi)]; rfl
def JaS (t:Tr) (o of:List Int) (s:Nat) (x:Int) (i:Nat):Bool:=(nd t i).k == 3 && (decide (0≤of.getD i (-1)) && (Ja0 o i (JI t s) && ((nd t (of.getD i (-1)).toNat).k == 42 && (J3 t (of.getD i (-1)).toNat == x && (J3 t x.toNat == J3 t s && !tdL t (upL t (JI t s) t.nodes.length i).reverse false)))))
theorem needR_eq {t:Tr}{o of:List Int}{s:Nat}:XQ t o of s=setL (J9 t.nodes.length fun x=>(Ga t.nodes.length).any (JaS t o of s x)):=by
 rw[Je4]; rfl
section
variable {t:Tr}{o:List Int}(g:GoodT t o)
include g
theorem up_kids:∀ (f c top:Nat),top < t.nodes.length→blw o c top→Jco t (fun u c=>(c:Int)∈(nd t u).kids∧u < t.nodes.length) (upL t top f c)
 |0,_,_,_,_=>trivial
 |f+1,c,top,htop,hct=>by
  unfold upL
  by_cases he:c=top
  ·rw[if_pos he]; trivial
  ·rw[if_neg he]
   obtain ⟨m,hp,hcm,hmt,hmb,hk⟩:=X7 g htop hct he
   rw[hp,Gm]
   have hm:m < t.nodes.length:=by omega
   have ih:=up_kids f m top htop hmb
   obtain ⟨l,hl⟩:=JfZ (top:=top) (f:=f) (m:=m)
   rw[hl]at ih ⊢
   exact ⟨⟨hk,hm⟩,ih⟩
theorem up_rng:∀ (f c top:Nat),top < t.nodes.length→blw o c top→∀ x∈upL t top f c,x < t.nodes.length
 |0,c,top,htop,hct,x,hx=>by
  simp only[upL,Gp]at hx
  have:=hct.1; omega
 |f+1,c,top,htop,hct,x,hx=>by
  unfold upL at hx
  have:=hct.1
  by_cases he:c=top
  ·rw[if_pos he,Gp]at hx; omega
  ·rw[if_neg he]at hx
   obtain ⟨m,hp,hcm,hmt,hmb,hk⟩:=X7 g htop hct he
   rw[hp,Gm]at hx
   rcases Gf.1 hx with h | h
   ·omega
   ·exact up_rng f m top htop hmb x h
theorem way_step {top f a:Nat}(htop:top < t.nodes.length) (hb:blw o a top) (hf:t.nodes.length≤a+f) (hne:a≠top):∃ m f':Nat,J3 t a=m∧a < m∧m < t.nodes.length∧blw o m top∧t.nodes.length≤m+f'∧∀ w:List Nat,(upL t top f a).tail.reverse++w=(upL t top f' m).tail.reverse++(m::w):=by
 obtain ⟨m,q1,q2,q3,q4,q5⟩:=X7 g htop hb hne
 obtain ⟨f',rfl⟩:∃ f',f=f' + 1:=⟨f-1,by have:=hb.1; omega⟩
 refine ⟨m,f',q1,q2,by omega,q4,by omega,fun w=>?_⟩
 obtain ⟨l,hl⟩:=JfZ (top:=top) (f:=f') (m:=m)
 rw[upL,if_neg hne,q1,Gm,GQ,hl,GQ,GX,List.append_assoc]; rfl
omit g in
theorem way_start {top f a:Nat}:(upL t top f a).reverse=(upL t top f a).tail.reverse++[a]:=by
 obtain ⟨l,hl⟩:=JfZ (top:=top) (f:=f) (m:=a)
 rw[hl,GX,GQ]
omit g in
theorem way_end {top f:Nat}:(upL t top f top).tail=[]:=by
 cases f with
 |zero=>rfl
 |succ f=>rw[upL,if_pos rfl]; rfl
theorem up_len {top f a:Nat}(htop:top < t.nodes.length) (hb:blw o a top) (hf:t.nodes.length≤a+f):(upL t top f a).length≤t.nodes.length-a:=by
 induction f generalizing a with
 |zero=>have:=hb.1; omega
 |succ f ih=>
  unfold upL
  have:=hb.1
  by_cases he:a=top
  ·rw[if_pos he]; simp; omega
  ·rw[if_neg he]
   obtain ⟨m,q1,q2,q3,q4,q5⟩:=X7 g htop hb he
   rw[q1,Gm,Gd]
   have:=ih q4 (by omega)
   omega
end
end
section
section
variable {P:Program}{E:Env}{n0:Nat}{N:Fr}{Q:Exit→List CV→List CObj→Prop}{H:List CObj}{T:List CV}{k:List KItem}{m:Bk}{w:World}
theorem Jf3 {id k:Nat}{o o':CObj}(h:(H.set id o')[k]? = some o):(k=id∧o=o')∨(k≠id∧H[k]? = some o):=by
 rw[GY]at h
 split at h
 ·rename_i e
  split at h
  ·exact .inl ⟨e.symm,(He h).symm⟩
  ·cases h
 ·rename_i e; exact .inr ⟨fun x=>e x.symm,h⟩
theorem Sim.trunc {id z:Nat}{els:List (List CV)}(hs:Sim E m H w) (hH:H[id]? = some (.arr z els)) (j:Nat):Sim E m (H.set id (.arr z (els.take j))) w∧Ext n0 m H w m (H.set id (.arr z (els.take j))) w:=by
 have key:∀ (k:Nat) o,(H.set id (.arr z (els.take j)))[k]? = some o→∃ o',H[k]? = some o'∧o'.alive=o.alive∧(k≠id→o'=o):=by
  intro k o h
  rcases Jf3 h with ⟨rfl,rfl⟩ | ⟨h1,h2⟩
  ·exact ⟨_,hH,rfl,fun h=>absurd rfl h⟩
  ·exact ⟨o,h2,rfl,fun _=>rfl⟩
 refine ⟨⟨by rw[GN]; exact hs.len,fun k o x hk hx=>?_,hs.imm,hs.one,fun k k' o o' x x' hk hk' ha ha' hx hx' hB=>?_,fun k o x hk ha hx=>?_,fun k s b hk=>?_,fun k o x hk ha hx=>?_,hs.extlt,hs.gl⟩,
  ⟨Gi _,fun _ _ _=>rfl,J5.refl _,fun B hB=>.inl ?_,fun B i v hv=>.inl hv,fun k x _ hx=>hx,fun h=>h,rfl,rfl,rfl⟩⟩
 ·rcases Jf3 hk with ⟨rfl,rfl⟩ | ⟨_,h2⟩
  ·obtain ⟨hz,c,elem,h1,h2,h3,h4,h5⟩:=hs.obj k _ x hH hx
   refine ⟨hz,c,elem,h1,h2,?_,fun i e he=>?_,h5⟩
   ·have:(els.take j).length*x.z≤els.length*x.z:=Gs _ (by rw[GK]; omega)
    omega
   ·have hij:i < j:=by
     have:=(GI.1 he).1
     rw[GK]at this; omega
    rw[List.getElem?_take,if_pos hij]at he
    exact h4 i e he
  ·exact hs.obj k o x h2 hx
 ·obtain ⟨p,hp,hpa,_⟩:=key k o hk
  obtain ⟨p',hp',hpa',_⟩:=key k' o' hk'
  exact hs.sep k k' p p' x x' hp hp' (hpa.trans ha) (hpa'.trans ha') hx hx' hB
 ·obtain ⟨p,hp,hpa,_⟩:=key k o hk
  exact hs.ro k p x hp (hpa.trans ha) hx
 ·rcases Jf3 hk with ⟨_,h2⟩ | ⟨_,h2⟩
  ·cases h2
  ·exact hs.ext k s b h2
 ·obtain ⟨p,hp,hpa,_⟩:=key k o hk
  exact hs.extsep k p x hp (hpa.trans ha) hx
 ·rcases hB with h | ⟨k,o,x,hk,ha,hx,hB⟩
  ·exact .inl h
  ·obtain ⟨p,hp,hpa,_⟩:=key k o hk
   exact .inr ⟨k,p,x,hp,hpa.trans ha,hx,hB⟩
theorem CallsC.trunc {f id z j:Nat}{args:List CV}{els:List (List CV)}{v:CV}{R R':CV→List CObj→Prop}(h:CallsC P E f args H R) (hR:∀ v H',R v H'→R' v H'∨∃ id z els j,H'[id]? = some (.arr z els)∧R' v (H'.set id (.arr z (els.take j)))):CallsC P E f args H R':=by
 intro m w vs hs hv
 refine (h m w vs hs hv).mono ?_
 rintro e w' ⟨r,m',v,H',h1,h2,h3,h4,h5⟩
 rcases hR _ _ h5 with g | ⟨id,z,els,j,g1,g2⟩
 ·exact ⟨r,m',v,H',h1,h2,h3,h4,g⟩
 ·obtain ⟨t1,t2⟩:=h3.trunc (n0:=H.length) g1 j
  exact ⟨r,m',v,_,h1,h2.trans t2,t1,h4,g2⟩
def rowW (id:Nat) (els:List (List CV)):CV:=.slc id 0 els.length (Jcb els)
def JeA (P:Program) (f:Nat) (args:List CV) (z:Nat) (els:List (List CV)):Prop:=∀ (E:Env) (H:List CObj),CallsC P E f args H fun v H'=>v=rowW H.length els∧H'=H++[.arr z els]
theorem rowW_shift {els:List (List CV)}(i n:Nat) {own own':List Own}{imm:Nat→Nat→Option Value}{r:Value}(ho:∀ (k:Nat) x,own[k]? = some x→own'[n+k]? = some x) (h:rel own imm (rowW i els) r):rel own' imm (rowW (n+i) els) r:=by
 simp only[rowW,rel]at h ⊢
 obtain ⟨x,a,c,hx,g⟩:=h
 exact ⟨x,a,c,ho _ _ hx,g⟩
theorem Jd7 {f:Nat}{args:List CV}{z:Nat}{els:List (List CV)}(h:CallsC P Env.none f args [] fun v H'=>∃ id,v=rowW id els∧H'[id]? = some (.arr z els)) (ha:Jm args=true) (hc:Jq els=true):JeA P f args z els:=fun E H=>by
 refine CallsC.frameG (mk:=fun n=>rowW n els) (G:=[.arr z els]) (h.ren fun v H' ⟨id,hv,hH⟩=>⟨[id],?_,?_,?_⟩) ha (fun o ho=>by simp only[Gp]at ho; rw[ho]; exact .inr ⟨_,_,rfl,hc⟩) fun n own own' imm r ho h=>rowW_shift 0 n ho h
 ·have:=(GI.1 hH).1
  simp[JeG,this]
 ·rw[hv]; simp[rowW,ren,Jo]
 ·simp only[Kw,G8,List.map_nil,Gb,hH,Hd,Jp,Jb hc]
theorem JeA.fn {f:Nat}{args:List CV}{z:Nat}{els:List (List CV)}(h:JeA P f args z els) (ha:Jm args=true) (hc:Jq els=true):Fn P f args (.rslc z els none):=by
 refine Jai (((h Env.none []).mono fun v H' ⟨h1,h2⟩=>?_)) ha rfl
 subst h1 h2
 refine .inr ⟨0,z,els,rfl,hc,?_⟩
 simp only[rowW,frz,List.length_nil,if_true,Nat.zero_add,Gi,G7,List.take_length]
 exact wk.refl _
theorem vr_rowW {d:Option Nat}{g:Option (Nat×Bool)}{f:Nat}{xa:List IArg}{l:List IOper}{z:Nat}{els:List (List CV)}(hg:GOk T g) (hcall:JeA P f (xa.map (JQ T)) z els) (h:Kr P E n0 N Q (.ops l::k) (put T d (rowW H.length els)) (H++[.arr z els])):Ok P E n0 N Q (.ops (⟨d,.call f xa,g⟩::l)::k) T H:=
 Xc hg (hcall E H) fun v H' ⟨h1,h2⟩=>by rw[h1,h2]; exact h
end
end
end Go.Cm
end
end
