/-
  A part of the proof. Conditions: none.
-/
import Derived.Test.YtaiboeciecfgoaaGreatDoorUA3
set_option linter.unusedSimpArgs false
set_option linter.unusedVariables false
open Bool renaming and_eq_true→Ga,or_eq_true→Gj,not_eq_true'→Gq,false_eq_true→Gu,or_eq_false_iff→Gy,true_or→GM
open List renaming getElem?_eq_getElem→Gl,contains_iff_mem→Gg,getElem?_eq_some_iff→Gp,all_eq_true→Gh,getElem?_set→Gm,range→Gc,replicate→Gn,getD_eq_getElem?_getD→Gt,mem_of_getElem?→Gs,mem_range→Gr,getElem?_eq_none→Gv,any_eq_true→Gw,ext_getElem?→Gz,idxOf_lt_length_of_mem→GN,getElem?_of_mem→GQ,getElem?_range→GR,getElem_idxOf→GU,getElem?_map→GV,mem_filter→GX,length_set→GY,mem_cons→GZ,any_cons→G5
open Array renaming getElem?_eq_getElem→GA,mem_of_getElem?→GD,mem_toList_iff→GG,replicate→GH,getElem?_push_lt→G6,range→GI
open Option.some renaming injEq→Gb,inj→G7
open Nat renaming le_refl→Gf,beq→Gi,zero_add→GJ,lt_or_ge→GK,le_of_lt→GL,lt_succ_self→G8
open Option renaming map_some→Gx,getD_some→G9
open Prod.mk renaming injEq→Gd
noncomputable section
section
namespace Go.Cm
section
mutual
def nid (r:Nat):CV→Bool
 |.ptr j _ _=>j != r
 |.slc j _ _ _=>j != r
 |.map j=>j != r
 |.fn _ l1 l2=>Jgw r l1 && Jgw r l2
 |.iface _ c=>nid r c
 |.agg l=>Jgw r l
 |.tup l=>Jgw r l
 |_=>true
def Jgw (r:Nat):List CV→Bool
 |[]=>true
 |c::cs=>nid r c && Jgw r cs
end
theorem JfY {r:Nat}:∀ {l:List CV}{i:Nat}{c:CV},Jgw r l=true→l[i]? = some c→nid r c=true
 |[],_,_,_,h=>by simp at h
 |d::l,0,c,h,hc=>by simp at hc; subst hc; simp[Jgw]at h; exact h.1
 |d::l,i+1,c,h,hc=>by simp[Jgw]at h; exact JfY h.2 (by simpa using hc)
theorem nidL_of {r:Nat}:∀ {l:List CV},(∀ (i:Nat) c,l[i]? = some c→nid r c=true)→Jgw r l=true
 |[],_=>rfl
 |d::l,h=>by simp only[Jgw,Ga]; exact ⟨h 0 d rfl,nidL_of fun i c hc=>h (i+1) c (by simpa using hc)⟩
def nidO (r:Nat):CObj→Bool
 |.arr _ els=>els.all (Jgw r)
 |.map kvs=>kvs.all fun p=>nid r p.1 && nid r p.2
 |_=>true
def nidH (r:Nat) (H:List CObj):Bool:=H.all (nidO r)
mutual
theorem Jdz {own own':List Own}{imm:Nat→Nat→Option Value}{r:Nat}(ho:∀ i,i≠r→own'[i]? = own[i]?):∀ (c:CV) (v:Value),nid r c=true→rel own imm c v→rel own' imm c v
 |.un,_,_,h=>by simp only[rel]
 |.bool _,_,_,h=>by simp only[rel]at h ⊢; exact h
 |.int _ _,_,_,h=>by simp only[rel]at h ⊢; exact h
 |.str _,_,_,h=>by simp only[rel]at h ⊢; exact h
 |.nilp,_,_,h=>by simp only[rel]at h ⊢; exact h
 |.ptr j _ _,_,hn,h=>by
  simp only[nid,bne_iff_ne]at hn
  simp only[rel]at h ⊢
  obtain ⟨x,hx,e⟩:=h
  exact ⟨x,(ho j hn).trans hx,e⟩
 |.rptr cs,_,_,h=>by simp only[rel]at h ⊢; exact h
 |.nils,_,_,h=>by simp only[rel]at h ⊢; exact h
 |.slc j _ _ _,_,hn,h=>by
  simp only[nid,bne_iff_ne]at hn
  simp only[rel]at h ⊢
  obtain ⟨x,a,c,hx,e⟩:=h
  exact ⟨x,a,c,(ho j hn).trans hx,e⟩
 |.rslc z els _,_,_,h=>by simp only[rel]at h ⊢; exact h
 |.nilm,_,_,h=>by simp only[rel]at h ⊢; exact h
 |.map j,_,hn,h=>by
  simp only[nid,bne_iff_ne]at hn
  simp only[rel]at h ⊢
  obtain ⟨x,hx,e⟩:=h
  exact ⟨x,(ho j hn).trans hx,e⟩
 |.fn _ l1 l2,_,hn,h=>by
  simp only[nid,Ga]at hn
  simp only[rel]at h ⊢
  obtain ⟨vs1,vs2,e,h1,h2⟩:=h
  exact ⟨vs1,vs2,e,Jay ho l1 _ hn.1 h1,Jay ho l2 _ hn.2 h2⟩
 |.yld _,_,_,h=>by simp only[rel]at h ⊢; exact h
 |.nilf,_,_,h=>by simp only[rel]at h ⊢; exact h
 |.iface _ c,_,hn,h=>by
  simp only[nid]at hn
  simp only[rel]at h ⊢
  obtain ⟨r,e,h1⟩:=h
  exact ⟨r,e,Jdz ho c _ hn h1⟩
 |.nili,_,_,h=>by simp only[rel]at h ⊢; exact h
 |.agg l,_,hn,h=>by
  simp only[nid]at hn
  simp only[rel]at h ⊢
  obtain ⟨vs,e,h1⟩:=h
  exact ⟨vs,e,Jay ho l _ hn h1⟩
 |.tup l,_,hn,h=>by
  simp only[nid]at hn
  simp only[rel]at h ⊢
  obtain ⟨vs,e,h1⟩:=h
  exact ⟨vs,e,Jay ho l _ hn h1⟩
theorem Jay {own own':List Own}{imm:Nat→Nat→Option Value}{r:Nat}(ho:∀ i,i≠r→own'[i]? = own[i]?):∀ (l:List CV) (vs:List Value),Jgw r l=true→JE own imm l vs→JE own' imm l vs
 |[],_,_,h=>by simp only[JE]at h ⊢; exact h
 |c::cs,_,hn,h=>by
  simp only[Jgw,Ga]at hn
  simp only[JE]at h ⊢
  obtain ⟨r,rs,e,h1,h2⟩:=h
  exact ⟨r,rs,e,Jdz ho c _ hn.1 h1,Jay ho cs _ hn.2 h2⟩
end
theorem Je1 {own own':List Own}{imm:Nat→Nat→Option Value}{r:Nat}(ho:∀ i,i≠r→own'[i]? = own[i]?) {x:Own}{o:CObj}{w w':World}(hn:nidO r o=true) (hw:o.alive=true→w'.heap[x.B]? = w.heap[x.B]?) (h:YW own imm x o w):YW own' imm x o w':=by
 cases o with
 |arr z els=>
  obtain ⟨hz,c,elem,h1,h2,h3,h4,h5⟩:=h
  simp only[nidO,Gh]at hn
  refine ⟨hz,c,elem,(hw rfl).trans h1,h2,h3,fun j e he=>⟨(h4 j e he).1,fun t c hc=>?_⟩,h5⟩
  obtain ⟨r',h6,h7⟩:=(h4 j e he).2 t c hc
  exact ⟨r',h6,Jdz ho c r' (JfY (hn e (Gs he)) hc) h7⟩
 |map kvs=>
  obtain ⟨es,clock,h1,h2,h3⟩:=h
  simp only[nidO,Gh]at hn
  refine ⟨es,clock,(hw rfl).trans h1,h2,fun i k v e hk he=>?_⟩
  have hh:=hn (k,v) (Gs hk)
  simp only[Ga]at hh
  exact ⟨Jdz ho k _ hh.1 (h3 i k v e hk he).1,Jdz ho v _ hh.2 (h3 i k v e hk he).2⟩
 |dead=>trivial
 |ext s b=>trivial
section
variable {P:Program}{E:Env}{n0:Nat}{m:Bk}{H:List CObj}{w w':World}
theorem Sim.rebind (hs:Sim E m H w) {ob:Obj}(hw:w'.heap=w.heap.push ob) {r:Nat}(hr:H[r]? = some .dead) (hn:nidH r H=true) (x:Own) (o:CObj) (hB:x.B=w.heap.size)
  (ho:YW (m.own.set r x) m.imm x o w') (hne:∀ s b,o≠.ext s b):Sim E { m with own:=m.own.set r x } (H.set r o) w':=by
 have hrl:r < H.length:=(Gp.1 hr).1
 have hown:∀ i,i≠r→(m.own.set r x)[i]? = m.own[i]?:=fun i hi=>by rw[Gm,if_neg (fun e=>hi e.symm)]
 have hownr:(m.own.set r x)[r]? = some x:=by rw[Gm,if_pos rfl,if_pos (by rw[hs.len]; exact hrl)]
 have key:∀ (k:Nat) o1,(H.set r o)[k]? = some o1→(k=r∧o1=o)∨(k≠r∧H[k]? = some o1):=by
  intro k o1 hk
  rw[Gm]at hk
  split at hk
  ·rename_i e; subst e; simp[hrl]at hk; exact .inl ⟨rfl,hk.symm⟩
  ·rename_i e; exact .inr ⟨fun h=>e h.symm,hk⟩
 have old:∀ {B},B < w.heap.size→w'.heap[B]? = w.heap[B]?:=fun {B} h=>by rw[hw,G6 h,GA h]
 simp only[nidH,Gh]at hn
 refine ⟨by simp[hs.len],fun k o1 x1 hk hx=>?_,fun B i v hv=>?_,hs.one,fun k k' o1 o2 x1 x2 hk hk' ha ha' hx hx' he=>?_,fun k o1 x1 hk ha hx i hi=>?_,fun k s b hk=>?_,fun k o1 x1 hk ha hx=>?_,fun B hB'=>?_,?_⟩
 ·rcases key k o1 hk with ⟨rfl,rfl⟩ | ⟨hne',hk0⟩
  ·simp only[hownr,Gb]at hx; subst hx; exact ho
  ·simp only at hx
   rw[hown k hne']at hx
   exact Je1 hown (hn o1 (Gs hk0)) (fun ha=>old (Xx hs hk0 ha hx)) (hs.obj k o1 x1 hk0 hx)
 ·exact (cell?_congr (old (JbJ hs hv))).trans (hs.imm B i v hv)
 ·simp only at hx hx'
  rcases key k o1 hk with ⟨rfl,rfl⟩ | ⟨h1,h2⟩ <;> rcases key k' o2 hk' with ⟨rfl,rfl⟩ | ⟨h3,h4⟩
  ·rfl
  ·rw[hownr]at hx; cases hx
   rw[hown _ h3]at hx'
   have:=Xx hs h4 ha' hx'; omega
  ·rw[hownr]at hx'; cases hx'
   rw[hown _ h1]at hx
   have:=Xx hs h2 ha hx; omega
  ·rw[hown _ h1]at hx; rw[hown _ h3]at hx'
   exact hs.sep k k' o1 o2 x1 x2 h2 h4 ha ha' hx hx' he
 ·simp only at hx ⊢
  rcases key k o1 hk with ⟨rfl,rfl⟩ | ⟨h1,h2⟩
  ·rw[hownr]at hx; cases hx
   cases hv:m.imm x.B i with
   |none=>rfl
   |some v=>have:=JbJ hs hv; omega
  ·rw[hown _ h1]at hx
   exact hs.ro k o1 x1 h2 ha hx i hi
 ·rcases key k _ hk with ⟨_,h⟩ | ⟨h1,h2⟩
  ·exact (hne s b h.symm).elim
  ·exact E.stable _ _ _ _ _ _ _ (hs.ext k s b h2) (fun B hB'=>old (hs.extlt B hB')) (by rw[hw]; simp) (J4.refl _) (fun B i v h=>.inl h) (fun B i v hv=>(cell?_congr (old (JbJ hs hv))).trans (hs.imm B i v hv)) hs.one
 ·simp only at hx ⊢
  rcases key k o1 hk with ⟨rfl,rfl⟩ | ⟨h1,h2⟩
  ·rw[hownr]at hx; cases hx
   exact fun h=>by have:=hs.extlt _ h; omega
  ·rw[hown _ h1]at hx
   exact hs.extsep k o1 x1 h2 ha hx
 ·have:=hs.extlt B hB'
  rw[hw]; simp; omega
 ·exact ⟨hs.gl.1.mono fun B hB=>old (hs.gl.1.lt hB),hs.gl.2⟩
theorem Ext.rebind (hs:Sim E m H w) {ob:Obj}(hw:w'.heap=w.heap.push ob) (hsame:w'.os=w.os∧w'.output=w.output∧w'.tape=w.tape) {r:Nat}(hr:H[r]? = some .dead) (hn0:n0≤r) (x:Own) (o:CObj) (hB:x.B=w.heap.size) :
  Ext n0 m H w { m with own:=m.own.set r x } (H.set r o) w' where
 size:=by rw[hw]; simp
 frame B hB hn:=by rw[hw,G6 hB,GA hB]
 imm:=J4.refl _
 newOwn B h:=by
  have hrl:r < H.length:=(Gp.1 hr).1
  rcases h with h | ⟨k,o1,x1,hk,ha,hx,rfl⟩
  ·exact .inl (.inl h)
  ·simp only at hx
   rw[Gm]at hk hx
   split at hk
   ·rename_i e; subst e
    rw[if_pos rfl]at hx
    split at hx
    ·cases hx; exact .inr (by omega)
    ·cases hx
   ·rename_i e
    rw[if_neg e]at hx
    exact .inl (.inr ⟨k,o1,x1,hk,ha,hx,rfl⟩)
 newImm B i v h:=.inl h
 base k x' hk hx:=by simp only; rw[Gm,if_neg (by omega)]; exact hx
 long h:=by simpa using h
 same:=hsame
theorem Sim.less {K:List CObj}(hs:Sim E m K w) (hl:K.length=H.length) (hk:∀ (r:Nat) o,H[r]? = some o→K[r]? = some o∨o=.dead):Sim E m H w where
 len:=by rw[hs.len,hl]
 obj k o x h hx:=by
  rcases hk k o h with h1 | rfl
  ·exact hs.obj k o x h1 hx
  ·trivial
 imm:=hs.imm
 one:=hs.one
 sep k k' o o' x x' h h' ha ha' hx hx' he:=by
  rcases hk k o h with h1 | rfl
  ·rcases hk k' o' h' with h2 | rfl
   ·exact hs.sep k k' o o' x x' h1 h2 ha ha' hx hx' he
   ·cases ha'
  ·cases ha
 ro k o x h ha hx:=by
  rcases hk k o h with h1 | rfl
  ·exact hs.ro k o x h1 ha hx
  ·cases ha
 ext k s b h:=by
  rcases hk k _ h with h1 | h1
  ·exact hs.ext k s b h1
  ·cases h1
 extsep k o x h ha hx:=by
  rcases hk k o h with h1 | rfl
  ·exact hs.extsep k o x h1 ha hx
  ·cases ha
 extlt:=hs.extlt
 gl:=hs.gl
theorem CallsC.more {f:Nat}{args:List CV}{K:List CObj}{R:CV→List CObj→Prop}(h:CallsC P E f args H R) (hl:K.length=H.length) (hk:∀ (r:Nat) o,H[r]? = some o→K[r]? = some o∨o=.dead) (hx:∀ (r:Nat) s b,K[r]? = some (.ext s b)→H[r]? = some (.ext s b)) :
  CallsC P E f args K fun v K'=>∃ H',R v H'∧H.length≤H'.length∧K'.length=H'.length∧(∀ r,r < H.length→H[r]?≠K[r]?→K'[r]? = K[r]?)∧∀ r,(r < H.length→H[r]? = K[r]?)→K'[r]? = H'[r]?:=by
 classical
 intro m w vs hs hv
 refine (h m w vs (hs.less hl hk) hv).mono ?_
 rintro e w' ⟨r,m',v,H',rfl,hext,hs',hrel,hR⟩
 have hlen':H.length≤H'.length:=by rw[← hs'.len]; exact hext.long (by rw[hs.len,hl]; exact Gf _)
 let K':List CObj:=(Gc H'.length).map fun r=>if r < H.length∧H[r]?≠K[r]? then K.getD r .dead else H'.getD r .dead
 have hKl:K'.length=H'.length:=by simp only[K',List.length_map,List.length_range]
 have hK1:∀ r,r < H.length→H[r]?≠K[r]?→K'[r]? = K[r]?:=by
  intro r hr hne
  have h1:r < H'.length:=by omega
  have h2:r < K.length:=by omega
  simp only[K',GV,GR h1,Gx]
  rw[if_pos ⟨hr,hne⟩]
  simp[Gt,Gl h2]
 have hK2:∀ r,(r < H.length→H[r]? = K[r]?)→K'[r]? = H'[r]?:=by
  intro r hr
  by_cases h1:r < H'.length
  ·simp only[K',GV,GR h1,Gx]
   rw[if_neg (fun hh=>hh.2 (hr hh.1))]
   simp[Gt,Gl h1]
  ·rw[Gv (by omega),Gv (by omega)]
 have cs:∀ (r:Nat) o,K'[r]? = some o→(r < H.length∧H[r]? = some .dead∧K[r]? = some o∧H[r]?≠K[r]?)∨H'[r]? = some o:=by
  intro r o ho
  by_cases hr:r < H.length∧H[r]?≠K[r]?
  ·rw[hK1 r hr.1 hr.2]at ho
   have h1:H[r]? = some H[r]:=Gl hr.1
   rcases hk r _ h1 with h2 | h2
   ·exact absurd (h1.trans h2.symm) hr.2
   ·exact .inl ⟨hr.1,by rw[h1,h2],ho,hr.2⟩
  ·rw[hK2 r (fun h=>Classical.byContradiction fun hn=>hr ⟨h,hn⟩)]at ho
   exact .inr ho
 have notOwned:∀ (r:Nat) o x,H[r]? = some .dead→K[r]? = some o→o.alive=true→m.own[r]? = some x→¬ owned m H x.B:=by
  rintro r o x hd hKr ha hx' (h1 | ⟨k,o1,x1,h2,ha1,hx1,he⟩)
  ·exact hs.extsep r o x hKr ha hx' (.inl h1)
  ·rcases hk k o1 h2 with h3 | rfl
   ·have:=hs.sep k r o1 o x1 x h3 hKr ha1 ha hx1 hx' he
    subst this
    rw[hd]at h2; cases h2; cases ha1
   ·cases ha1
 have notOwned':∀ (r:Nat) o x,H[r]? = some .dead→K[r]? = some o→o.alive=true→m.own[r]? = some x→¬ owned m' H' x.B:=by
  intro r o x hd hKr ha hx' ho
  rcases hext.newOwn _ ho with h1 | h1
  ·exact notOwned r o x hd hKr ha hx' h1
  ·have:=Xx hs hKr ha hx'; omega
 have ownr:∀ (r:Nat) x,r < H.length→m'.own[r]? = some x→m.own[r]? = some x:=by
  intro r x hr hx'
  have h1:r < m.own.length:=by rw[hs.len,hl]; exact hr
  have:=hext.base r m.own[r] hr (Gl h1)
  rw[hx']at this; cases this
  exact Gl h1
 have hownLe:Kj m.own m'.own:=fun j x hj=>hext.base j x (by rw[← hl,← hs.len]; exact (Gp.1 hj).1) hj
 have hsim:Sim E m' K' w':=by
  refine ⟨by rw[hs'.len,hKl],fun k o x hk' hx'=>?_,hs'.imm,hs'.one,fun k k' o o' x x' h1 h1' ha ha' hx1 hx1' he=>?_,fun k o x h1 ha hx1 i hi=>?_,fun k s b h1=>?_,fun k o x h1 ha hx1=>?_,hs'.extlt,hs'.gl⟩
  ·rcases cs k o hk' with ⟨h1,h2,h3,_⟩ | h1
   ·have hx0:=ownr k x h1 hx'
    refine Kk hownLe hext.imm (fun ha=>?_) (hs.obj k o x h3 hx0)
    exact hext.frame _ (Xx hs h3 ha hx0) (notOwned k o x h2 h3 ha hx0)
   ·exact hs'.obj k o x h1 hx'
  ·rcases cs k o h1 with ⟨a1,a2,a3,_⟩ | a1 <;> rcases cs k' o' h1' with ⟨b1,b2,b3,_⟩ | b1
   ·exact hs.sep k k' o o' x x' a3 b3 ha ha' (ownr k x a1 hx1) (ownr k' x' b1 hx1') he
   ·exact absurd (.inr ⟨k',o',x',b1,ha',hx1',he.symm⟩) (notOwned' k o x a2 a3 ha (ownr k x a1 hx1))
   ·exact absurd (.inr ⟨k,o,x,a1,ha,hx1,he⟩) (notOwned' k' o' x' b2 b3 ha' (ownr k' x' b1 hx1'))
   ·exact hs'.sep k k' o o' x x' a1 b1 ha ha' hx1 hx1' he
  ·rcases cs k o h1 with ⟨a1,a2,a3,_⟩ | a1
   ·have hx0:=ownr k x a1 hx1
    cases hv':m'.imm x.B i with
    |none=>rfl
    |some u=>
     rcases hext.newImm _ _ _ hv' with h | h | h
     ·rw[hs.ro k o x a3 ha hx0 i hi]at h; cases h
     ·exact absurd h (notOwned k o x a2 a3 ha hx0)
     ·have:=Xx hs a3 ha hx0; omega
   ·exact hs'.ro k o x a1 ha hx1 i hi
  ·rcases cs k _ h1 with ⟨a1,a2,a3,a4⟩ | a1
   ·exact absurd ((hx k s b a3).trans a3.symm) a4
   ·exact hs'.ext k s b a1
  ·rcases cs k o h1 with ⟨a1,a2,a3,_⟩ | a1
   ·exact fun hb=>hb.elim (fun hb=>notOwned' k o x a2 a3 ha (ownr k x a1 hx1) (.inl hb)) (fun hb=>hs.extsep k o x a3 ha (ownr k x a1 hx1) (.inr hb))
   ·exact hs'.extsep k o x a1 ha hx1
 have hsubK:∀ B,owned m H B→owned m K B:=by
  rintro B (h1 | ⟨k,o1,x1,h2,ha1,hx1,he⟩)
  ·exact .inl h1
  ·rcases hk k o1 h2 with h3 | rfl
   ·exact .inr ⟨k,o1,x1,h3,ha1,hx1,he⟩
   ·cases ha1
 refine ⟨r,m',v,K',rfl,⟨hext.size,fun B hB hn=>hext.frame B hB fun h=>hn (hsubK B h),hext.imm,fun B hB=>?_,fun B i v hv'=>?_,fun k x hk' hx'=>hext.base k x (by omega) hx',fun h=>by have:=hext.long (by omega); omega,hext.same⟩,hsim,hrel,H',hR,hlen',hKl,hK1,hK2⟩
 ·rcases hB with h1 | ⟨k,o,x,h1,ha,hx1,rfl⟩
  ·exact (hext.newOwn B (.inl h1)).imp_left (hsubK B)
  ·rcases cs k o h1 with ⟨a1,a2,a3,_⟩ | a1
   ·exact .inl (.inr ⟨k,o,x,a3,ha,ownr k x a1 hx1,rfl⟩)
   ·exact (hext.newOwn _ (.inr ⟨k,o,x,a1,ha,hx1,rfl⟩)).imp_left (hsubK _)
 ·rcases hext.newImm _ _ _ hv' with h | h | h
  ·exact .inl h
  ·exact .inr (.inl (hsubK _ h))
  ·exact .inr (.inr h)
end
end
section
def Ki (op:IOp) (T:List CV):Option (Cond×CObj×(Nat→CV)):=
 match op with
 |.alloc zero=>some (.tt,.arr zero.length [zero],fun i=>.ptr i 0 0)
 |.box a=>match (JO T a).cells with
  |some l=>if KY l=true then some (.tt,.arr l.length [l],fun i=>.ptr i 0 0) else none
  |none=>none
 |.bslice z n zero parts=>match Qw T z (Gn n zero) parts with
  |some els=>some (.tt,.arr z els,fun i=>.slc i 0 n (some n))
  |none=>none
 |.mkmap=>some (.tt,.map [],fun i=>.map i)
 |.mkslice z bytes zero l c=>match JO T l,JO T c with
  |.int .i64 l,.int .i64 c=>some (.and (.ile 0 l) (.and (.ile l c) (.and (.ile c 281474976710656) (.ile (bytes*c) 281474976710656))),.arr z (Gn l.toNat zero),fun i=>.slc i 0 l.toNat (some c.toNat))
  |_,_=>none
 |_=>none
def xOf (w:World) (ob:Obj) (o:CObj):Own:=
 match ob,o with
 |.cells c _ _,.arr z _=>⟨w.heap.size,0,c.size,z⟩
 |_,_=>⟨w.heap.size,0,0,0⟩
theorem xOf_B {w:World}{ob:Obj}{o:CObj}:(xOf w ob o).B=w.heap.size:=by
 unfold xOf; split <;> rfl
def GoodA (P:Program) (m:Bk) (w:World) (s:Sem Next) (f:Nat→CV) (o:CObj):Prop:=
 ∃ ob r,s.run P w=.ok (.value r) (w.alloc ob)∧(∀ s b,o≠.ext s b)∧YW m.own m.imm (xOf w ob o) o (w.alloc ob)∧∀ (own':List Own) k,own'[k]? = some (xOf w ob o)→rel own' m.imm (f k) r
section
variable {P:Program}{E:Env}{n0:Nat}{m:Bk}{H H':List CObj}{w:World}{T:List CV}{a:Act}{c:Cond}{v:CV}{o:Oper}
theorem JbK {s:Sem Next}{f:Nat→CV}{r:Value}{cells:Array Value}{elem:TypeId}{z:Nat}{els:List (List CV)}(h:s.run P w=.ok (.value r) (w.alloc (.cells cells elem)))
  (hz:els.length*z≤cells.size) (hc:relO m.own m.imm z els (fun i=>cells[i]?) 0) (h1:∀ (i:Nat) v,cells[i]? = some v→v.oneCell'=true) (hr:∀ (own':List Own) k,own'[k]? = some ⟨w.heap.size,0,cells.size,z⟩→rel own' m.imm (f k) r):GoodA P m w s f (.arr z els):=by
 refine ⟨.cells cells elem,r,h,by (intro s b h; cases h),?_,hr⟩
 exact ⟨rfl,cells,elem,heap_alloc_new w _,rfl,by simpa [xOf]using hz,hc,h1⟩
theorem alc_alloc {t:TypeId}{z:List CV}{f:Nat→CV}{ob:CObj}(ho:o.op=.alloc t) (hz:zeroOf P t=some z) (he:Ki (.alloc z) T=some (c,ob,f)) (hp:Pre E n0 m H w T a):GoodA P m w (execOp a.eval o) f ob:=by
 simp only[Ki,Gb,Gd]at he
 obtain ⟨_,rfl,rfl⟩:=he
 obtain ⟨i,zv,_,_,hrun,hrel,hlen,h1z⟩:=QR (w:=w) hz
 have hr:=hrel m.own m.imm
 refine JbK (r:=.pointer (some ⟨w.heap.size,0,none⟩)) (cells:=zv.cells) (elem:=t) ?_ ?_ (Jc0 hr) (fun i v hv=>QM hr h1z v (GG.2 (GD hv))) ?_
 ·simp[execOp,ho,Instr.alloc,hrun,newVar,newRow]
 ·have:=Js hr; simp at this; simp[this]
 ·intro own' k hk
  simp only[rel]
  exact ⟨_,hk,by simp⟩
theorem alc_box {t:TypeId}{x:Operand}{i:IArg}{f:Nat→CV}{ob:CObj}(ho:o.op=.box t x) (hx:Jt x=some i) (he:Ki (.box i) T=some (c,ob,f)) (hp:Pre E n0 m H w T a):GoodA P m w (execOp a.eval o) f ob:=by
 have h1:=Jy hp.tmps hx
 simp only[Ki]at he
 split at he
 ·rename_i l hl
  split at he
  ·rename_i h1l
   simp only[Gb,Gd]at he
   obtain ⟨_,rfl,rfl⟩:=he
   have hr:=Yl h1 hl
   refine JbK (r:=.pointer (some ⟨w.heap.size,0,none⟩)) (cells:=(a.eval x).cells) (elem:=t) ?_ ?_ (Jc0 hr) (fun i v hv=>QM hr h1l v (GG.2 (GD hv))) ?_
   ·simp[execOp,ho,Instr.box,newVar,newRow]
   ·have:=Js hr; simp at this; simp[this]
   ·intro own' k hk
    simp only[rel]
    exact ⟨_,hk,by simp⟩
  ·cases he
 ·cases he
theorem alc_mkmap {t:TypeId}{f:Nat→CV}{ob:CObj}(ho:o.op=.makeMap t none) (he:Ki .mkmap T=some (c,ob,f)) (hp:Pre E n0 m H w T a):GoodA P m w (execOp a.eval o) f ob:=by
 simp only[Ki,Gb,Gd]at he
 obtain ⟨_,rfl,rfl⟩:=he
 refine ⟨.map #[] 0,.map (some w.heap.size),by simp[execOp,ho,Instr.makeMap],by (intro s b h; cases h),⟨#[],0,heap_alloc_new w _,rfl,fun i k v e h=>by simp at h⟩,?_⟩
 intro own' k hk
 simp only[rel]
 exact ⟨_,hk,by simp[xOf]⟩
theorem alc_bslice {t e:TypeId}{n:Nat}{ps:Array (Nat×Operand)}{z:List CV}{l:List (Nat×IArg)}(ho:o.op=.buildSlice t n ps) (hd:P.underlying t=some (.slice e)) (hz:zeroOf P e=some z) (hl:Yp ps.toList=some l) (h0:z.length≠0) (hn:n*z.length≤2 ^ 24)
  {f:Nat→CV} {ob:CObj} (he:Ki (.bslice z.length n z l) T=some (c,ob,f)) (hp:Pre E n0 m H w T a):GoodA P m w (execOp a.eval o) f ob:=by
 obtain ⟨i,zv,hi,_,hrun,hrel,hlen,h1z⟩:=QR (P:=P) (w:=w) hz
 simp only[Ki]at he
 split at he
 ·rename_i out hout
  simp only[Gb,Gd]at he
  obtain ⟨_,rfl,rfl⟩:=he
  have hsz:(sizeOf e).run P w=.ok z.length w:=by simp[sizeOf,typeInfo,hi,hlen]
  let base:Array Value:=(GI (n*z.length)).map (fun j=>zv.cells[j % zv.cells.size]!)
  have hrow:=QW (hrel m.own m.imm) n n h0 (Gf _)
  have hbase:Xn m.own m.imm z.length (Gn n z) base.toList:=by
   obtain ⟨vs,hok,hR⟩:=Yd hrow
   have hvl:=hok.len
   have:vs=base.toList:=by
    apply Gz
    intro j
    by_cases hj:j < vs.length
    ·have:=hR j vs[j] (Gl hj)
     rw[Gl hj,← this,Array.getElem?_toList,GJ]
    ·rw[Gv (by omega),Gv]
     simp[base]at hvl ⊢; omega
   rw[← this]; exact hok
  have hone:∀ v∈base.toList,v.oneCell'=true:=by
   intro v hv
   obtain ⟨j,hj⟩:=GQ hv
   have hj':base[j]? = some v:=by simpa using hj
   exact JbF (hrel m.own m.imm) h1z h0 (N:=n*z.length) j v hj'
  obtain ⟨vs',hv,hr',hone',hol⟩:=YF (a:=a) hp.tmps ps.toList l _ out base hl hout hbase hone
  have hvl:=hr'.len
  simp at hol
  refine JbK (r:=.slice (some ⟨w.heap.size,0,none⟩) n n) (cells:=vs') (elem:=e) (z:=z.length) ?_ (by simp at hvl; omega) (hr'.relO fun j v hv=>by simpa using hv) (fun j v hv=>hone' v (GG.2 (GD hv))) ?_
  ·have hl2:(ps.map (fun (p:Nat×Operand)=>(p.1,a.eval p.2))).toList=ps.toList.map fun p=>(p.1,a.eval p.2):=by simp
   have hn':¬ (n*z.length > 2 ^ 24):=by omega
   simp only[execOp,ho,Instr.buildSlice,Sem.run_bind,run_underlying hd,Result.andThen_ok,hsz,hn',if_false]
   by_cases hn0:n*z.length=0
   ·have hb0:base=(GI (n*z.length)).map (fun x=>(#[]:Array Value)[x % 0]!):=by
     apply Array.ext
     ·simp[base]
     ·intro j h1 _; simp[base,hn0]at h1
    rw[hb0]at hv
    simp only[hn0,if_true,Sem.run_bind,Sem.run_pure,Result.andThen_ok,List.size_toArray,List.length_nil]at hv ⊢
    rw[hl2]
    simp only[hv,newRow,Sem.run_bind,run_newObj,Result.andThen_ok,Sem.run_pure,World.alloc_eq]
   ·simp only[hn0,if_false,Sem.run_bind,Sem.run_pure,Result.andThen_ok,hrun]
    rw[hl2]
    simp only[base]at hv
    simp only[hv,newRow,Sem.run_bind,run_newObj,Result.andThen_ok,Sem.run_pure,World.alloc_eq]
  ·intro own' k hk
   simp only[rel]
   refine ⟨_,_,_,hk,rfl,Gf _,by simp,fun _=>by simp,by simp at hvl ⊢; rw[hvl,hol]; exact Gf _⟩
 ·cases he
theorem alc_mkslice {t e:TypeId}{z:List CV}{i:TypeInfo}{lo co:Operand}{il ic:IArg}(ho:o.op=.makeSlice t lo co) (hd:P.underlying t=some (.slice e)) (hz:zeroOf P e=some z) (hi:P.info? e=some i) (hl:Jt lo=some il) (hco:Jt co=some ic) (h0:z.length≠0)
  {f:Nat→CV} {ob:CObj} (he:Ki (.mkslice z.length i.bytes z il ic) T=some (c,ob,f)) (hc:c.holds) (hp:Pre E n0 m H w T a):GoodA P m w (execOp a.eval o) f ob:=by
 have h1:=Jy hp.tmps hl
 have h2:=Jy hp.tmps hco
 obtain ⟨i',zv,hi',_,hrun,hrel,hlen,h1z⟩:=QR (w:=w) hz
 rw[hi]at hi'; cases hi'
 simp only[Ki]at he
 split at he
 ·rename_i l cc e1 e2
  rw[e1]at h1; rw[e2]at h2
  simp only[rel]at h1 h2
  simp only[Gb,Gd]at he
  obtain ⟨rfl,rfl,rfl⟩:=he
  simp only[Cond.holds]at hc
  obtain ⟨hc0,hc1,hc2,hc3⟩:=hc
  have hlw:IntKind.i64.wrap l=l:=InR.wrap (k:=.i64) ⟨by simp[IntKind.min,IntKind.signed,IntKind.bits]; omega,by simp[IntKind.max,IntKind.signed,IntKind.bits]; omega⟩
  have hcw:IntKind.i64.wrap cc=cc:=InR.wrap (k:=.i64) ⟨by simp[IntKind.min,IntKind.signed,IntKind.bits]; omega,by simp[IntKind.max,IntKind.signed,IntKind.bits]; omega⟩
  have t1:¬ (cc < 0∨281474976710656 < (i.bytes:Int)*cc):=by omega
  have hzl:=Js (hrel m.own m.imm)
  have hzn:zv.cells.size=z.length:=by simpa using hzl.symm
  have hil:i.size=z.length:=hlen.symm
  refine JbK (r:=.slice (some ⟨w.heap.size,0,none⟩) l.toNat cc.toNat) (cells:=(GI (cc.toNat*z.length)).map (fun j=>zv.cells[j % zv.cells.size]!)) (elem:=e) (z:=z.length) ?_ ?_ (QW (hrel _ _) _ _ h0 (by omega)) (JbF (hrel m.own m.imm) h1z h0) ?_
  ·have hsz:(sizeOf e).run P w=.ok z.length w:=by simp[sizeOf,typeInfo,hi,hil]
   have t2:((decide (cc < 0) || decide ((i.bytes:Int)*cc > 2 ^ 48)) || decide (l < 0) || decide (l > cc))=false:=by
    simp only[Gy,decide_eq_false_iff_not]
    have:(2:Int) ^ 48=281474976710656:=rfl
    rw[this]; omega
   simp only[execOp,ho,Instr.makeSlice,Sem.run_bind,run_underlying hd,Result.andThen_ok,h1,h2,asInt,asIntOf,Sem.run_pure,typeInfo,run_program,hi,hlw,hcw,t2]
   simp only[Gu,if_false,Sem.run_bind,run_askRoom,Result.andThen_ok,hsz,newRow,run_newObj,Sem.run_pure]
   by_cases hn:cc.toNat*z.length=0
   ·simp[hn]; congr 2; exact Array.ext (by simp) (fun i h1 _=>by simp at h1)
   ·simp[hn,hrun]
  ·simp; exact Nat.mul_le_mul_right _ (by omega)
  ·intro own' k hk
   simp only[rel]
   refine ⟨_,_,_,hk,rfl,by omega,by simp,fun _=>by simp,by simp⟩
 ·cases he
theorem alc_sound {i:IOp}{f:Nat→CV}{ob:CObj}(hcomp:QC P o.op=some i) (he:Ki i T=some (c,ob,f)) (hc:c.holds) (hp:Pre E n0 m H w T a):GoodA P m w (execOp a.eval o) f ob:=by
 cases hop:o.op <;> rw[hop]at hcomp <;> simp only[QC]at hcomp
 case alloc t=>obtain ⟨b,hb,rfl⟩:=QU hcomp; exact alc_alloc hop hb he hp
 case box t x=>obtain ⟨b,hb,rfl⟩:=QU hcomp; exact alc_box hop hb he hp
 case buildSlice t n ps=>
  split at hcomp
  ·split at hcomp
   ·split at hcomp
    ·rename_i hcond; cases hcomp; exact alc_bslice hop ‹_› ‹_› ‹_› hcond.1 hcond.2 he hp
    ·cases hcomp
   ·cases hcomp
  ·cases hcomp
 case makeMap t r=>
  cases r <;> simp only[QC]at hcomp <;> (try cases hcomp; done)
  cases hcomp; exact alc_mkmap hop he hp
 case makeSlice t l c=>
  split at hcomp
  ·split at hcomp
   ·split at hcomp
    ·cases hcomp; exact alc_mkslice hop ‹_› ‹_› ‹_› ‹_› ‹_› ‹_› he hc hp
    ·cases hcomp
   ·cases hcomp
  ·cases hcomp
 case unOp op t x=>
  cases op <;> simp only[QC]at hcomp <;> (try cases hcomp; done)
  all_goals (obtain ⟨b,hb,rfl⟩:=QU hcomp; simp[Ki]at he)
 case makeFunc fn l1 l2=>
  cases fn <;> simp only[QC]at hcomp <;> (try cases hcomp; done)
  split at hcomp
  ·cases hcomp; simp[Ki]at he
  ·cases hcomp
 all_goals
  (repeat' split at hcomp)
  all_goals first
   |(cases hcomp; done)
   |(cases hcomp; simp[Ki]at he; done)
   |(obtain ⟨_,_,h9⟩:=QU hcomp; subst h9; simp[Ki]at he; done)
   |skip
 all_goals skip
variable {N:Fr}{Q:Exit→List CV→List CObj→Prop}{k:List KItem}
theorem ok_allocAt {io:IOper}{l:List IOper}{f:Nat→CV}{ob:CObj}{r:Nat}(hg:GOk T io.guard) (he:Ki io.op T=some (c,ob,f)) (hc:c.holds) (hr:H[r]? = some .dead) (hn0:n0≤r) (hnT:Jgw r T=true) (hnH:nidH r H=true)
  (h:Ok P E n0 N Q (.ops l::k) (put T io.dst (f r)) (H.set r ob)):Ok P E n0 N Q (.ops (io::l)::k) T H:=by
 intro m w a b cs kr rest hp hd hk
 obtain ⟨ops,i,is,kr',o,rfl,ho,hco,hk'⟩:=JaA hk
 obtain ⟨hw,hdst,hop⟩:=Y2 hco hg hp.tmps
 obtain ⟨cell,rv,hrun,hne,_,_⟩:=alc_sound hop he hc hp
 have hrl:r < H.length:=(Gp.1 hr).1
 have hown:∀ i,i≠r→(m.own.set r (xOf w cell ob))[i]? = m.own[i]?:=fun i hi=>by rw[Gm,if_neg (fun e=>hi e.symm)]
 have hownr:(m.own.set r (xOf w cell ob))[r]? = some (xOf w cell ob):=by rw[Gm,if_pos rfl,if_pos (by rw[hp.sim.len]; exact hrl)]
 have hT1:JE (m.own.set r (xOf w cell ob)) m.imm T a.tmps.toList:=Jay hown T _ hnT hp.tmps
 have hs1:Sim E { m with own:=m.own.set r (xOf w cell ob) } H w:=by
  have hnH':=hnH
  simp only[nidH,Gh]at hnH'
  refine ⟨by simp[hp.sim.len],fun k o1 x1 hk hx=>?_,hp.sim.imm,hp.sim.one,fun k k' o1 o2 x1 x2 hk hk' ha ha' hx hx' he=>?_,fun k o1 x1 hk ha hx=>?_,hp.sim.ext,fun k o1 x1 hk ha hx=>?_,hp.sim.extlt,hp.sim.gl⟩
  all_goals
   have cs:∀ (k:Nat) o1,H[k]? = some o1→o1.alive=true→k≠r:=by
    intro k o1 hk ha e
    subst e
    rw[hr]at hk; cases hk; cases ha
  ·by_cases hkr:k=r
   ·subst hkr; rw[hr]at hk; cases hk; trivial
   ·simp only at hx; rw[hown k hkr]at hx
    exact Je1 hown (hnH' o1 (Gs hk)) (fun _=>rfl) (hp.sim.obj k o1 x1 hk hx)
  ·simp only at hx hx'
   rw[hown k (cs k o1 hk ha)]at hx; rw[hown k' (cs k' o2 hk' ha')]at hx'
   exact hp.sim.sep k k' o1 o2 x1 x2 hk hk' ha ha' hx hx' he
  ·simp only at hx; rw[hown k (cs k o1 hk ha)]at hx
   exact hp.sim.ro k o1 x1 hk ha hx
  ·simp only at hx; rw[hown k (cs k o1 hk ha)]at hx
   exact hp.sim.extsep k o1 x1 hk ha hx
 obtain ⟨cell2,rv2,hrun2,_,hobj,hptr⟩:=alc_sound (m:={ m with own:=m.own.set r (xOf w cell ob) }) hop he hc ⟨hs1,hT1,hp.long⟩
 rw[hrun]at hrun2
 simp only[Result.ok.injEq,Next.value.injEq]at hrun2
 obtain ⟨rfl,hww⟩:=hrun2
 have hcc:cell=cell2:=by
  have e1:=heap_alloc_new w cell
  rw[hww,heap_alloc_new w cell2]at e1
  exact (G7 e1).symm
 subst hcc
 have hst:=Jb1 (b:=b) (cs:=cs) (is:=is) (kr:=kr'++rest) ho hw (semAt_plain hop) hrun (.inl rfl)
 rw[hdst]at hst
 have hheap:(w.alloc cell).heap=w.heap.push cell:=rfl
 have hext:Ext n0 m H w { m with own:=m.own.set r (xOf w cell ob) } (H.set r ob) (w.alloc cell):=Ext.rebind hp.sim hheap ⟨rfl,rfl,rfl⟩ hr hn0 _ _ xOf_B
 refine Reach.step (.one hst) hext (h _ (w.alloc cell) _ b cs (.inRegion ops is::kr') rest (Jcb (Sim.rebind hp.sim hheap hr hnH _ _ xOf_B hobj hne) hT1 (by simpa using hp.long) (hptr _ r hownr)) ?_ hk')
 rw[put_defers]; exact hd.ext hext
end
end
section
structure Plan where
 n:Nat
 isW:Nat→Bool
 isA:Nat→Bool
 rid:Nat→Nat
 ob:Nat→CObj
 hc:Nat→List CObj
 v:Nat→CV
structure Plan.Fills (p:Plan) (X:Nat→Bool) (h H':List CObj):Prop where
 len:H'.length=h.length
 inn:∀ a,a < p.n→p.isA a=true→X a=true→h[p.rid a]? = some .dead→H'[p.rid a]? = some (p.ob a)
 out:∀ r:Nat,(∀ a,a < p.n→p.isA a=true→X a=true→p.rid a=r→h[r]?≠some .dead)→H'[r]? = h[r]?
section
variable (P:Program) (E:Env) (n0:Nat) (N:Fr) (Q:Exit→List CV→List CObj→Prop) (k:List KItem)
def Leads (io:IOper) (T:List CV) (H:List CObj) (T':List CV) (H':List CObj):Prop:=∀ l',Ok P E n0 N Q (.ops l'::k) T' H'→Ok P E n0 N Q (.ops (io::l')::k) T H
structure Plan.Good (p:Plan) (l:List IOper) (es:List (List Nat)) (T:List CV):Prop where
 hn:p.n=l.length
 ord:Ordered l es
 chain:∀ i j,i < j→j < p.n→p.isW i=true→p.isW j=true→i∈es.getD j []
 dis:∀ j,p.isA j=true→p.isW j=false
 inj:∀ a b,a < p.n→b < p.n→p.isA a=true→p.isA b=true→p.rid a=p.rid b→a=b
 base:∀ a,a < p.n→p.isA a=true→n0≤p.rid a
 stay:∀ j,j < p.n→p.isW j=false→p.hc (j+1)=p.hc j
 dead:∀ m,m≤p.n→∀ a,a < p.n→p.isA a=true→(∀ i,i < m→p.isW i=true→a∉es.getD i [])→(p.hc m)[p.rid a]? = some .dead∧nidH (p.rid a) (p.hc m)=true
 nT:∀ a,a < p.n→p.isA a=true→Jgw (p.rid a) T=true
 nv:∀ j,j < p.n→∀ a,a < p.n→p.isA a=true→a≠j→a∉es.getD j []→nid (p.rid a) (p.v j)=true
 no:∀ b,b < p.n→p.isA b=true→∀ a,a < p.n→p.isA a=true→a=b∨a∉es.getD b []→nidO (p.rid a) (p.ob b)=true
 makes:∀ j,j < p.n→p.isA j=true→∃ c f,GOk (tst l p.v T j) (KG l j).guard∧Ki (KG l j).op (tst l p.v T j)=some (c,p.ob j,f)∧c.holds∧p.v j=f (p.rid j)
 reads:∀ j,j < p.n→p.isA j=false→p.isW j=false→∀ T2 H2 m X,agree (KG l j).rd (tst l p.v T j) T2→m≤p.n→(∀ i,i < p.n→p.isW i=true→i∈es.getD j []→i < m)→(∀ i,i < p.n→p.isW i=true→j∈es.getD i []→m≤i)→
  (∀ a,a < p.n→p.isA a=true→a∈es.getD j []→X a=true)→p.Fills X (p.hc m) H2→Leads P E n0 N Q k (KG l j) T2 H2 (put T2 (KG l j).dst (p.v j)) H2
 writes:∀ j,j < p.n→p.isW j=true→∀ T2 H2 X,agree (KG l j).rd (tst l p.v T j) T2→(∀ a,a < p.n→p.isA a=true→a∈es.getD j []→X a=true)→(∀ a,a < p.n→p.isA a=true→j∈es.getD a []→X a=false)→
  p.Fills X (p.hc j) H2→∀ l',(∀ H3,p.Fills X (p.hc (j+1)) H3→Ok P E n0 N Q (.ops l'::k) (put T2 (KG l j).dst (p.v j)) H3)→Ok P E n0 N Q (.ops (KG l j::l')::k) T2 H2
end
section
variable {P:Program}{E:Env}{n0:Nat}{N:Fr}{Q:Exit→List CV→List CObj→Prop}{H:List CObj}{T:List CV}{k:List KItem}{l:List IOper}{es:List (List Nat)}{p:Plan}
theorem prefix_ex (hg:p.Good P E n0 N Q k l es T) {S:Nat→Bool}(hcl:∀ i,i < p.n→S i=true→∀ e∈es.getD i [],S e=true):∀ b,b≤p.n→∃ m,m≤b∧∀ i,i < b→p.isW i=true→(S i=true↔i < m)
 |0,_=>⟨0,Gf _,fun i hi=>by omega⟩
 |b+1,hb=>by
  obtain ⟨m,hm,h⟩:=prefix_ex hg hcl b (by omega)
  by_cases hw:p.isW b=true∧S b=true
  ·refine ⟨b+1,Gf _,fun i hi hwi=>⟨fun _=>hi,fun _=>?_⟩⟩
   by_cases hib:i=b
   ·subst hib; exact hw.2
   ·exact hcl b (by omega) hw.2 i (hg.chain i b (by omega) (by omega) hwi hw.1)
  ·refine ⟨m,by omega,fun i hi hwi=>?_⟩
   by_cases hib:i=b
   ·subst hib
    exact ⟨fun hS=>absurd ⟨hwi,hS⟩ hw,fun hlt=>by omega⟩
   ·exact h i (by omega) hwi
theorem hc_same (hg:p.Good P E n0 N Q k l es T) {a:Nat}:∀ d,a+d≤p.n→(∀ i,a≤i→i < a+d→p.isW i=false)→p.hc (a+d)=p.hc a
 |0,_,_=>rfl
 |d+1,h,hn=>by
  have h1:=hg.stay (a+d) (by omega) (hn (a+d) (by omega) (by omega))
  rw[← Nat.add_assoc,h1]
  exact hc_same hg d (by omega) fun i hi hi'=>hn i hi (by omega)
theorem Plan.Fills.congr {X Y:Nat→Bool}{h H':List CObj}(hf:p.Fills X h H') (hxy:∀ a,a < p.n→p.isA a=true→X a=Y a):p.Fills Y h H':=
 ⟨hf.len,fun a ha hA hY hd=>hf.inn a ha hA ((hxy a ha hA).trans hY) hd,fun r hr=>hf.out r fun a ha hA hX=>hr a ha hA ((hxy a ha hA).symm.trans hX)⟩
theorem any_orderF (hg:p.Good P E n0 N Q k l es T) (hfin:∀ Hf,p.Fills (fun _=>true) (p.hc p.n) Hf→Ok P E n0 N Q k (tst l p.v T l.length) Hf) {S:Nat→Bool}{is:List Nat}(h:Sched l.length es S is) :
  ∀ T' H',(∀ i,i < l.length→S i=true→∀ e∈es.getD i [],S e=true)→At l p.v T S T'→(∀ m,m≤p.n→(∀ i,i < p.n→p.isW i=true→(S i=true↔i < m))→p.Fills S (p.hc m) H')→Ok P E n0 N Q (.ops (is.map (KG l))::k) T' H':=by
 have hln:=hg.hn
 induction h with
 |nil hn=>
  rename_i S
  intro T' H' hcl hA hB
  have hall:∀ i,i < l.length→S i=true:=by
   intro i
   induction i using Nat.strongRecOn with
   |_ i ih=>
    intro hi
    cases hS:S i with
    |true=>rfl
    |false=>
     obtain ⟨e,he,hSe⟩:=hn i hi hS
     have hlt:=hg.ord.lt i hi e he
     have:=ih e hlt (by omega)
     rw[this]at hSe; cases hSe
  rw[hA.all hg.ord hall]
  refine Yg (hfin H' ?_)
  exact (hB p.n (Gf _) fun i hi _=>⟨fun _=>hi,fun _=>hall i (by omega)⟩).congr fun a ha _=>hall a (by omega)
 |cons hi hS hr _ ih=>
  rename_i S j is hrest
  intro T' H' hcl hA hB
  have hj:j < p.n:=by omega
  have hcl':∀ i,i < l.length→(fun x=>S x || x == j) i=true→∀ e∈es.getD i [],(fun x=>S x || x == j) e=true:=by
   intro i hil hSi e he
   simp only[Gj,beq_iff_eq]at hSi ⊢
   rcases hSi with h | h
   ·exact .inl (hcl i hil h e he)
   ·subst h; exact .inl (hr e he)
  have hag:=hA.agree hg.ord hcl hi hS hr
  obtain ⟨m,hm,hpre⟩:=prefix_ex hg (fun i hi=>hcl i (by omega)) p.n (Gf _)
  have hnotin:∀ i,i < p.n→S i=true→j∉es.getD i []:=fun i hil hSi hin=>by
   have:=hcl i (by omega) hSi j hin
   rw[hS]at this; cases this
  cases hAj:p.isA j with
  |true=>
   have hWj:=hg.dis j hAj
   obtain ⟨c,f,hgd,hal,hc,hv⟩:=hg.makes j hj hAj
   have hF:=hB m hm hpre
   have hdd:=hg.dead m hm j hj hAj (fun i him hwi=>hnotin i (by omega) ((hpre i (by omega) hwi).2 him))
   have hH'd:H'[p.rid j]? = some .dead:=by
    rw[hF.out (p.rid j) fun a ha hAa hSa he=>?_]
    ·exact hdd.1
    ·have:=hg.inj a j ha hj hAa hAj he
     subst this; rw[hS]at hSa; cases hSa
   have hnT:Jgw (p.rid j) T'=true:=by
    refine nidL_of fun s c hc=>?_
    have hsl:s < T.length:=by rw[← hA.len]; exact (Gp.1 hc).1
    have hget:T'.getD s .un=c:=by simp[Gt,hc]
    by_cases hex:∃ i,i < l.length∧S i=true∧(KG l i).dst=some s
    ·obtain ⟨i,hil,hSi,hd⟩:=hex
     rw[hA.inn i s hil hSi hd hsl]at hget
     rw[← hget]
     exact hg.nv i (by omega) j hj hAj (by intro e; subst e; rw[hS]at hSi; cases hSi) (hnotin i (by omega) hSi)
    ·rw[hA.out s fun i hil hSi hd=>hex ⟨i,hil,hSi,hd⟩]at hget
     refine JfY (hg.nT j hj hAj) (i:=s) ?_
     rw[Gl hsl,← hget]
     simp[Gt,Gl hsl]
   have hnH:nidH (p.rid j) H'=true:=by
    simp only[nidH,Gh]
    intro o ho
    obtain ⟨r,hr'⟩:=GQ ho
    by_cases hex:∃ a,a < p.n∧p.isA a=true∧S a=true∧p.rid a=r∧(p.hc m)[r]? = some .dead
    ·obtain ⟨a,h1,h2,h3,rfl,h4⟩:=hex
     rw[hF.inn a h1 h2 h3 h4]at hr'
     cases hr'
     exact hg.no a h1 h2 j hj hAj (.inr (hnotin a h1 h3))
    ·rw[hF.out r fun a h1 h2 h3 h4 h5=>hex ⟨a,h1,h2,h3,h4,h5⟩]at hr'
     have:=hdd.2
     simp only[nidH,Gh]at this
     exact this o (Gs hr')
   refine ok_allocAt (f:=f) (ob:=p.ob j) (r:=p.rid j) (Yj hag hgd) ?_ hc hH'd (hg.base j hj hAj) hnT hnH ?_
   ·have e1:Ki (KG l j).op T'=Ki (KG l j).op (tst l p.v T j):=by
     have ha:=(Jg hag).2
     generalize (KG l j).op=op at ha
     cases op <;> simp only[Ki]
     case box x=>rw[Jj (x:=x) ha]
     case bslice z n zero ps=>rw[YN (ps:=ps) ha]
     case mkslice z b zero x y=>simp only[IOp.rd]at ha; rw[Jj (Jg ha).1,Jj (Jg ha).2]
    rw[e1]; exact hal
   ·rw[← hv]
    refine ih _ _ hcl' (hA.step hg.ord hi hS) fun m' hm' hpre'=>?_
    have hpre2:∀ i,i < p.n→p.isW i=true→(S i=true↔i < m'):=fun i hil hwi=>by
     have hne:i≠j:=by intro e; subst e; rw[hWj]at hwi; cases hwi
     have:=hpre' i hil hwi
     simpa [hne]using this
    have hF':=hB m' hm' hpre2
    have hdd':=hg.dead m' hm' j hj hAj (fun i him hwi=>hnotin i (by omega) ((hpre2 i (by omega) hwi).2 him))
    have hlt:p.rid j < H'.length:=(Gp.1 hH'd).1
    refine ⟨by rw[GY]; exact hF'.len,fun a ha hAa hXa hd=>?_,fun r hr'=>?_⟩
    ·by_cases haj:a=j
     ·subst haj; simp[hlt]
     ·rw[Gm,if_neg (fun e=>haj (hg.inj j a hj ha hAj hAa e).symm)]
      exact hF'.inn a ha hAa (by simpa [haj]using hXa) hd
    ·by_cases hrj:p.rid j=r
     ·exact absurd (hrj▸hdd'.1) (hr' j hj hAj (by simp) hrj)
     ·rw[Gm,if_neg hrj]
      exact hF'.out r fun a ha hAa hSa he=>hr' a ha hAa (by simp[hSa]) he
  |false=>
   have same:∀ (h H2:List CObj),p.Fills S h H2→p.Fills (fun x=>S x || x == j) h H2:=fun h H2 hf=>hf.congr fun a ha hAa=>by
    have:a≠j:=by intro e; subst e; rw[hAj]at hAa; cases hAa
    simp[this]
   cases hWj:p.isW j with
   |false=>
    have hF:=hB m hm hpre
    refine hg.reads j hj hAj hWj T' H' m S hag hm (fun i hil hwi hin=>(hpre i hil hwi).1 (hr i hin)) (fun i hil hwi hin=>?_) (fun a _ _ hin=>hr a hin) hF _ (ih _ _ hcl' (hA.step hg.ord hi hS) fun m' hm' hpre'=>?_)
    ·rcases GK i m with h | h
     ·exact absurd hin (hnotin i hil ((hpre i hil hwi).2 h))
     ·exact h
    ·refine same _ _ (hB m' hm' fun i hil hwi=>?_)
     have hne:i≠j:=by intro e; subst e; rw[hWj]at hwi; cases hwi
     have:=hpre' i hil hwi
     simpa [hne]using this
   |true=>
    have hpj:∀ i,i < p.n→p.isW i=true→(S i=true↔i < j):=by
     intro i hil hwi
     constructor
     ·intro hSi
      rcases Nat.lt_trichotomy i j with h | h | h
      ·exact h
      ·subst h; rw[hS]at hSi; cases hSi
      ·exact absurd (hg.chain j i h hil hWj hwi) (hnotin i hil hSi)
     ·exact fun hlt=>hr i (hg.chain i j hlt hj hwi hWj)
    have hF:=hB j (by omega) hpj
    refine hg.writes j hj hWj T' H' S hag (fun a _ _ hin=>hr a hin) (fun a ha _ hin=>by
     cases hSa:S a with
     |false=>rfl
     |true=>exact absurd hin (hnotin a ha hSa)) hF _ fun H3 hF3=>ih _ _ hcl' (hA.step hg.ord hi hS) fun m' hm' hpre'=>?_
    have hjm:j < m':=(hpre' j hj hWj).1 (by simp)
    have:=hc_same hg (a:=j+1) (m' - (j+1)) (by omega) (fun i h1 h2=>by
     cases hwi:p.isW i with
     |false=>rfl
     |true=>
      have h3:=(hpre' i (by omega) hwi).2 (by omega)
      have hne:i≠j:=by omega
      have h4:S i=true:=by simpa [hne]using h3
      have:=(hpj i (by omega) hwi).1 h4
      omega)
    rw[show j+1+(m' - (j+1))=m' by omega]at this
    rw[this]
    exact same _ _ hF3
theorem ok_dregF {es' : List (List Nat)} (hclo : JcP l.length es es' = true) (hm : P.follows .mixedOrders = true) (hg : p.Good P E n0 N Q k l es' T) (h0 : p.hc 0 = H) (hfin : ∀ Hf, p.Fills (fun _ => true) (p.hc p.n) Hf → Ok P E n0 N Q k (tst l p.v T l.length) Hf) : Ok P E n0 N Q (.code (.dreg l es) :: k) T H := by
  intro m w a b cs kr rest hp hd hk
  simp only [XC] at hk
  obtain ⟨c', kr', rfl, hc, hk'⟩ := hk
  obtain ⟨id, ops, rfl, h1, rfl⟩ := Jc4 hc
  obtain ⟨hl, hgt⟩ := Qs _ _ h1
  have hln : ops.size = l.length := by simpa using hl.symm
  have hsch := JcW ops ops.size (w.tape w.drawn (.order b.fn id)) (GH ops.size false) (by simp) (by simp)
  have hst := stepR_region_draw (P := P) (b := b) (a := a) (k := kr' ++ rest) (cs := cs) (w := w) (ops := ops) (id := id)
  simp only [Region.schedule, hm, GM, if_true, Region.linearise] at hst
  generalize Region.linearise.go .any ops ops.size (w.tape w.drawn (.order b.fn id)) (GH ops.size false) [] = is at hsch hst
  have hS0 : (fun i => (GH ops.size false).getD i false) = fun _ => false := by
    funext i
    simp only [Array.getD_eq_getD_getElem?, Array.getElem?_replicate]
    split <;> rfl
  rw [hS0, hln] at hsch
  have hlts : ∀ i ∈ is, i < l.length := by
    clear hst
    generalize (fun _ => false : Nat → Bool) = S at hsch
    induction hsch with
    | nil _ => intro i hi; cases hi
    | cons h _ _ _ ih => intro i hi; rcases GZ.1 hi with h' | h'
                         · subst h'; exact h
                         · exact ih i h'
  have hsch := Jdt hclo hsch fun _ _ h => by cases h
  have hrun := any_orderF hg hfin hsch T H (fun _ _ h => by cases h) ⟨rfl, fun _ _ => rfl, fun _ _ _ h => by cases h⟩ (fun m' hm' hpre => by
    have hc0 := hc_same hg (a := 0) m' (by omega) (fun i _ h2 => by
      cases hwi : p.isW i with
      | false => rfl
      | true =>
        have := (hpre i (by omega) hwi).2 (by omega)
        cases this)
    rw [GJ] at hc0
    rw [hc0, h0]
    exact ⟨rfl, fun _ _ _ h => (by cases h), fun _ _ => rfl⟩)
  have hs' : Sim E m H { w with drawn := w.drawn + 1 } := hp.sim.congr rfl
  have hx : Ext n0 m H w m H { w with drawn := w.drawn + 1 } := Ext.congr rfl ⟨rfl, rfl, rfl⟩
  refine Reach.step (.one hst) hx (hrun m _ a b cs (.inRegion ops is :: kr') rest ⟨hs', hp.tmps, hp.long⟩ (hd.ext hx) ?_)
  simp only [XC]
  refine ⟨ops, is, kr', rfl, ⟨by simp, fun j i hj => ?_⟩, hk'⟩
  have hi := hlts i (Gs hj)
  obtain ⟨io, h2, h3⟩ := hgt i (ops[i]'(by omega)) (by simp)
  exact ⟨ops[i]'(by omega), io, GA (by omega), by simp [hj, KG, Gt, h2], h3⟩
end
end
mutual
def Jc9:CV→CV→Bool
 |.un,d=>match d with | .un=>true | _=>false
 |.bool b,d=>match d with | .bool b'=>b == b' | _=>false
 |.int k n,d=>match d with | .int k' n'=>decide (k=k') && decide (n=n') | _=>false
 |.str s,d=>match d with | .str s'=>decide (s.data.toList=s'.data.toList) | _=>false
 |.nilp,d=>match d with | .nilp=>true | _=>false
 |.ptr a b c,d=>match d with | .ptr a' b' c'=>Gi a a' && (Gi b b' && Gi c c') | _=>false
 |.rptr l,d=>match d with | .rptr l'=>Jcp l l' | _=>false
 |.nils,d=>match d with | .nils=>true | _=>false
 |.slc a b c e,d=>match d with | .slc a' b' c' e'=>Gi a a' && (Gi b b' && (Gi c c' && decide (e=e'))) | _=>false
 |.rslc z l c,d=>match d with | .rslc z' l' c'=>Gi z z' && (cvEqLL l l' && decide (c=c')) | _=>false
 |.nilm,d=>match d with | .nilm=>true | _=>false
 |.map a,d=>match d with | .map a'=>Gi a a' | _=>false
 |.fn f a b,d=>match d with | .fn f' a' b'=>Gi f f' && (Jcp a a' && Jcp b b') | _=>false
 |.yld a,d=>match d with | .yld a'=>Gi a a' | _=>false
 |.nilf,d=>match d with | .nilf=>true | _=>false
 |.iface t c,d=>match d with | .iface t' c'=>Gi t t' && Jc9 c c' | _=>false
 |.nili,d=>match d with | .nili=>true | _=>false
 |.agg l,d=>match d with | .agg l'=>Jcp l l' | _=>false
 |.tup l,d=>match d with | .tup l'=>Jcp l l' | _=>false
def Jcp:List CV→List CV→Bool
 |[],d=>match d with | []=>true | _=>false
 |a::l,d=>match d with | b::l'=>Jc9 a b && Jcp l l' | _=>false
def cvEqLL:List (List CV)→List (List CV)→Bool
 |[],d=>match d with | []=>true | _=>false
 |a::l,d=>match d with | b::l'=>Jcp a b && cvEqLL l l' | _=>false
end
theorem str_ext {s s':ByteArray}(h:s.data.toList=s'.data.toList):s=s':=by
 cases s; cases s'; simp at h; rw[h]
mutual
theorem JaF:∀ (c d:CV),Jc9 c d=true→c=d
 |.un,d,h=>by cases d <;> simp[Jc9]at h ⊢
 |.bool b,d,h=>by cases d <;> simp[Jc9]at h ⊢; exact h
 |.int k n,d,h=>by cases d <;> simp[Jc9]at h ⊢; exact h
 |.str s,d,h=>by cases d <;> simp[Jc9]at h ⊢; exact str_ext (by simpa using h)
 |.nilp,d,h=>by cases d <;> simp[Jc9]at h ⊢
 |.ptr a b c,d,h=>by cases d <;> simp[Jc9]at h ⊢; exact h
 |.rptr l,d,h=>by cases d <;> simp[Jc9]at h ⊢; exact Qi _ _ h
 |.nils,d,h=>by cases d <;> simp[Jc9]at h ⊢
 |.slc a b c e,d,h=>by cases d <;> simp[Jc9]at h ⊢; exact h
 |.rslc z l c,d,h=>by cases d <;> simp[Jc9]at h ⊢; exact ⟨h.1,JcE _ _ h.2.1,h.2.2⟩
 |.nilm,d,h=>by cases d <;> simp[Jc9]at h ⊢
 |.map a,d,h=>by cases d <;> simp[Jc9]at h ⊢; exact h
 |.fn f a b,d,h=>by cases d <;> simp[Jc9]at h ⊢; exact ⟨h.1,Qi _ _ h.2.1,Qi _ _ h.2.2⟩
 |.yld a,d,h=>by cases d <;> simp[Jc9]at h ⊢; exact h
 |.nilf,d,h=>by cases d <;> simp[Jc9]at h ⊢
 |.iface t c,d,h=>by cases d <;> simp[Jc9]at h ⊢; exact ⟨h.1,JaF _ _ h.2⟩
 |.nili,d,h=>by cases d <;> simp[Jc9]at h ⊢
 |.agg l,d,h=>by cases d <;> simp[Jc9]at h ⊢; exact Qi _ _ h
 |.tup l,d,h=>by cases d <;> simp[Jc9]at h ⊢; exact Qi _ _ h
theorem Qi:∀ (c d:List CV),Jcp c d=true→c=d
 |[],d,h=>by cases d <;> simp[Jcp]at h ⊢
 |a::l,d,h=>by
  cases d <;> simp[Jcp]at h ⊢
  exact ⟨JaF _ _ h.1,Qi _ _ h.2⟩
theorem JcE:∀ (c d:List (List CV)),cvEqLL c d=true→c=d
 |[],d,h=>by cases d <;> simp[cvEqLL]at h ⊢
 |a::l,d,h=>by
  cases d <;> simp[cvEqLL]at h ⊢
  exact ⟨Qi _ _ h.1,JcE _ _ h.2⟩
end
inductive BT (α:Type) where
 |nil
 |node (k:Nat) (a:α) (l r:BT α)
def BT.get {α:Type}:BT α→Nat→Option α
 |.nil,_=>none
 |.node k a l r,i=>match Gi i k with
  |true=>some a
  |false=>match Nat.ble i k with
   |true=>l.get i
   |false=>r.get i
inductive Ent where
 |code (F:IFunc)
 |pure (F:IFunc)
 |nat (g:List CV→Option CV)
 |iter (F:IFunc) (h:List CV→List CV→Option (List (List CV)))
abbrev JcS:=Nat→List CV→List CObj→Option (CV×List CObj)
def xchk (r:Option (Cond×CV×List CObj)):Option (CV×List CObj):=
 match r with
 |some (c,v,H')=>match c.check with
  |true=>some (v,H')
  |false=>none
 |none=>none
def xop (cl:JcS) (op:IOp) (T:List CV) (H:List CObj):Option (CV×List CObj):=
 match op with
 |.call f as=>cl f (as.map (JO T)) H
 |.callv x as=>match JO T x with
  |.fn f l1 l2=>cl f (l1++as.map (JO T)++l2) H
  |_=>none
 |op=>xchk (exec op T H)
def xgd (T:List CV):Option (Nat×Bool)→Option Bool
 |none=>some true
 |some (s,want)=>match T.getD s .un with
  |.bool t=>some (t == want)
  |.tup []=>some false
  |_=>none
def vop:IOp→Bool
 |.mv _=>true
 |.bin _ _ _ _=>true
 |.eqs _ _ _ _=>true
 |.not _=>true
 |.neg _=>true
 |.conv _ _=>true
 |.pick _ _ _=>true
 |.build _ _=>true
 |.field _ _ _ _=>true
 |.faddr _ _=>true
 |.extract _ _=>true
 |.nchk _=>true
 |.mmx _ _ _=>true
 |.mkfn _ _ _=>true
 |.sliceS _ _ _=>true
 |.indexS _ _=>true
 |_=>false
def rop:IOp→Bool
 |.load _ _ _=>true
 |.lookup _ _ _ _ _=>true
 |.len _ _=>true
 |.iaddr _ _ _=>true
 |.slice _ _ _ _ _=>true
 |_=>false
def aop:IOp→Bool
 |.alloc _=>true
 |.box _=>true
 |.bslice _ _ _ _=>true
 |.mkmap=>true
 |.mkslice _ _ _ _ _=>true
 |_=>false
def cop:IOp→Bool
 |.call _ _=>true
 |.callv _ _=>true
 |_=>false
def hop (op:IOp):Bool:=!(vop op) && !(rop op)
def XF (l:List IOper) (es:List (List Nat)):List Nat:=
 (Gc l.length).filter fun j=>aop (KG l j).op && (Gc l.length).any fun i=>i != j && hop (KG l i).op && !((es.getD j []).contains i) && !((es.getD i []).contains j)
abbrev Made:=List (Nat×Nat×CObj)
def X5 (pre:List Nat):Made→List CObj→List CObj
 |[],h=>h
 |(a,r,o)::fa,h=>match pre.contains a with
  |true=>match (X5 pre fa h)[r]? with
   |some .dead=>(X5 pre fa h).set r o
   |_=>X5 pre fa h
  |false=>X5 pre fa h
def dstep (cl:JcS) (es:List (List Nat)) (as:List Nat) (base j:Nat) (io:IOper) (T:List CV) (h:List CObj) (fa:Made):Option (CV×List CObj×Made):=
 match xgd T io.guard with
 |some true=>match as.contains j with
  |true=>match Ki io.op T with
   |some (c,o,f)=>match c.check with
    |true=>some (f (base+as.idxOf j),h,(j,base+as.idxOf j,o)::fa)
    |false=>none
   |none=>none
  |false=>match vop io.op with
   |true=>match exec io.op T []with
    |some (c,v,[])=>match c.check with
     |true=>some (v,h,fa)
     |false=>none
    |_=>none
   |false=>match rop io.op with
    |true=>match exec io.op T (X5 (es.getD j []) fa h) with
     |some (c,v,_)=>match c.check with
      |true=>some (v,h,fa)
      |false=>none
     |none=>none
    |false=>match xop cl io.op T (X5 (es.getD j []) fa h) with
     |some (v,h')=>some (v,h',fa)
     |none=>none
 |some false=>some (.tup [],h,fa)
 |none=>none
def dpass (cl:JcS) (es:List (List Nat)) (as:List Nat) (base:Nat):List IOper→Nat→List CV→List CObj→Made→Option (List (CV×List CObj×Made))
 |[],_,_,_,_=>some []
 |io::l,j,T,h,fa=>match dstep cl es as base j io T h fa with
  |some (v,h',fa')=>match dpass cl es as base l (j+1) (put T io.dst v) h' fa' with
   |some ds=>some ((v,h',fa')::ds)
   |none=>none
  |none=>none
def Jgk (l:List IOper) (es es':List (List Nat)) (as sk:List Nat):Bool:=
 JcP l.length es es' && (ordered l es' && ((Gc l.length).all fun j=>(Gc j).all fun i=>(as.contains i || sk.contains i) || ((as.contains j || sk.contains j) || !(hop (KG l i).op) || !(hop (KG l j).op) || (es'.getD j []).contains i)))
def wat (l:List IOper) (as sk:List Nat) (j:Nat):Bool:=hop (KG l j).op && !(as.contains j || sk.contains j)
def mkd (as sk:List Nat) (j:Nat):Bool:=as.contains j && !(sk.contains j)
def spots (l:List IOper) (es:List (List Nat)) (as sk:List Nat) (j:Nat):List Nat:=
 (Gc (l.length+1)).filter fun m=>(m == 0 || wat l as sk (m-1)) && ((Gc l.length).all fun i=>!(wat l as sk i) || ((!((es.getD j []).contains i) || decide (i < m)) && (!((es.getD i []).contains j) || decide (m≤i))))
def KM (l:List IOper) (as sk:List Nat):Nat→Nat
 |0=>0
 |j+1=>if wat l as sk j then j+1 else KM l as sk j
def hcAt (h0:List CObj) (ds:List (CV×List CObj×Made)):Nat→List CObj
 |0=>h0
 |j+1=>((ds[j]?).map fun d=>d.2.1).getD h0
def JbX (ds:List (CV×List CObj×Made)) (j:Nat):CV:=((ds[j]?).map fun d=>d.1).getD .un
def Jfg (ds:List (CV×List CObj×Made)):Nat→Made
 |0=>[]
 |j+1=>((ds[j]?).map fun d=>d.2.2).getD []
def JfR (l:List IOper) (es:List (List Nat)) (as sk:List Nat) (h0:List CObj) (ds:List (CV×List CObj×Made)) (T:List CV) (j:Nat):Bool:=
 match rop (KG l j).op with
 |false=>true
 |true=>match xgd (tst l (JbX ds) T j) (KG l j).guard with
  |some true=>(spots l es as sk j).all fun m=>m == KM l as sk j || match exec (KG l j).op (tst l (JbX ds) T j) (X5 (es.getD j []) (Jfg ds j) (hcAt h0 ds m)) with
   |some (c,v,_)=>c.check && Jc9 v (JbX ds j)
   |none=>false
  |_=>true
def Jf1 (l:List IOper) (es:List (List Nat)) (as sk:List Nat) (base:Nat) (h0:List CObj) (ds:List (CV×List CObj×Made)) (T:List CV):Bool:=
 as.all fun a=>sk.contains a || (decide (a < l.length) && (Jgw (base+as.idxOf a) T && (((Gc l.length).all fun j=>(j == a || (es.getD j []).contains a || nid (base+as.idxOf a) (JbX ds j)) && (!(wat l as sk j) || (es.getD j []).contains a || (es.getD a []).contains j || cop (KG l j).op)) &&
  (((Jfg ds l.length).all fun e=>(e.1 != a && (es.getD e.1 []).contains a) || nidO (base+as.idxOf a) e.2.2) &&
  ((Gc (l.length+1)).all fun m=>(!(m == 0 || wat l as sk (m-1))) || (match (Gc m).any fun i=>wat l as sk i && (es.getD i []).contains a with | true=>(match (hcAt h0 ds m)[base+as.idxOf a]? with | some .dead=>false | _=>true) | false=>(match (hcAt h0 ds m)[base+as.idxOf a]? with | some .dead=>true | _=>false) && nidH (base+as.idxOf a) (hcAt h0 ds m)))))))
def skips (l:List IOper) (ds:List (CV×List CObj×Made)) (T:List CV):List Nat:=
 (Gc l.length).filter fun j=>match xgd (tst l (JbX ds) T j) (KG l j).guard with
  |some false=>true
  |_=>false
def xdreg (cl:JcS) (l:List IOper) (es:List (List Nat)) (T:List CV) (H:List CObj):Option (List CV×List CObj):=
 match dpass cl (clo es) (XF l (clo es)) H.length l 0 T (H++Gn (XF l (clo es)).length .dead) []with
  |none=>none
  |some ds=>match Jgk l es (clo es) (XF l (clo es)) (skips l ds T) && ((Gc l.length).all (JfR l (clo es) (XF l (clo es)) (skips l ds T) (H++Gn (XF l (clo es)).length .dead) ds T) && Jf1 l (clo es) (XF l (clo es)) (skips l ds T) H.length (H++Gn (XF l (clo es)).length .dead) ds T) with
   |false=>none
   |true=>some (tst l (JbX ds) T l.length,X5 (XF l (clo es)) (Jfg ds l.length) (hcAt (H++Gn (XF l (clo es)).length .dead) ds l.length))
def fzId (H:List CObj) (ih:CV→Option Nat):CV→Option Nat
 |.ptr id _ _=>match H[id]? with
  |some (.arr _ els)=>match Jo els with
   |true=>some id
   |false=>els.findSome? fun e=>e.findSome? ih
  |_=>none
 |.slc id _ _ _=>match H[id]? with
  |some (.arr _ els)=>match Jo els with
   |true=>some id
   |false=>els.findSome? fun e=>e.findSome? ih
  |_=>none
 |.fn _ l1 l2=>match l1.findSome? ih with
  |some id=>some id
  |none=>l2.findSome? ih
 |.iface _ c=>ih c
 |.agg l=>l.findSome? ih
 |.tup l=>l.findSome? ih
 |_=>none
def fzFind (H:List CObj) (n:Nat):CV→Option Nat:=
 Nat.rec (motive:=fun _=>CV→Option Nat) (fun _=>none) (fun _ ih=>fzId H ih) n
def xfz (f:IArg) (n:Nat):List CV→List CObj→Option (List CV×List CObj):=
 Nat.rec (motive:=fun _=>List CV→List CObj→Option (List CV×List CObj)) (fun _ _=>none) (fun _ ih T H=>match (JO T f).closed with
  |true=>some (T,H)
  |false=>match fzFind H 20 (JO T f) with
   |some id=>match H[id]? with
    |some (.arr z els)=>match Jo els with
     |true=>ih (J9 id z els T) (KA id z els H)
     |false=>none
    |_=>none
   |none=>none) n
def xfzV (n:Nat):CV→List CObj→Option CV:=
 Nat.rec (motive:=fun _=>CV→List CObj→Option CV) (fun _ _=>none) (fun _ ih v H=>match v.closed with
  |true=>some v
  |false=>match fzFind H 20 v with
   |some id=>match H[id]? with
    |some (.arr z els)=>match Jo els with
     |true=>ih (frz id z els v) (KA id z els H)
     |false=>none
    |_=>none
   |none=>none) n
section
theorem xchk_some {r:Option (Cond×CV×List CObj)}{v:CV}{H':List CObj}(h:xchk r=some (v,H')):∃ c,r=some (c,v,H')∧c.holds:=by
 unfold xchk at h
 split at h
 ·split at h
  ·rename_i hc
   simp only[Gb,Gd]at h
   obtain ⟨rfl,rfl⟩:=h
   exact ⟨_,rfl,Cond.holds_of_check hc⟩
  ·cases h
 ·cases h
def FnOk (P:Program) (f:Nat):Prop:=∃ fn,P.funcs[f]? = some fn∧fn.body.isSome=true∧fn.name≠ "runtime.NumGoroutine"
def Jgu (P:Program) (E:Env) (cl:JcS):Prop:=∀ f args H v H',cl f args H=some (v,H')→FnOk P f∧CallsC P E f args H fun v' H2=>v'=v∧H2=H'
section
variable {P:Program}{E:Env}{n0:Nat}{N:Fr}{Q:Exit→List CV→List CObj→Prop}{H H':List CObj}{T:List CV}{k:List KItem}{cl:JcS}
theorem xop_plain {op:IOp}(h:cop op=false):xop cl op T H=xchk (exec op T H):=by
 cases op <;> first | rfl | simp[cop]at h
theorem xop_leads (hcl:Jgu P E cl) {d:Option Nat}{op:IOp}{g:Option (Nat×Bool)}{v:CV}(hg:GOk T g) (h:xop cl op T H=some (v,H')):Leads P E n0 N Q k ⟨d,op,g⟩ T H (put T d v) H':=by
 intro l' hok
 by_cases hc:cop op=true
 ·cases op <;> simp[cop]at hc
  ·rename_i f as
   obtain ⟨_,hC⟩:=hcl _ _ _ _ _ h
   exact Ja1 hg hC fun v' H2 ⟨h1,h2⟩=>by rw[h1,h2]; exact hok
  ·rename_i x as
   simp only[xop]at h
   split at h
   ·rename_i f l1 l2 hx
    obtain ⟨⟨fn,h1,h2,h3⟩,hC⟩:=hcl _ _ _ _ _ h
    exact JbC hg hx h1 h2 h3 hC fun v' H2 ⟨h4,h5⟩=>by rw[h4,h5]; exact hok
   ·cases h
 ·rw[xop_plain (by simpa using hc)]at h
  obtain ⟨c,he,hch⟩:=xchk_some h
  exact JcK (io:=⟨d,op,g⟩) hg he hch hok
theorem Jat {g:Option (Nat×Bool)}(h:xgd T g=some true):GOk T g:=by
 unfold xgd at h
 split at h
 ·exact .inl rfl
 ·rename_i s want
  split at h
  ·rename_i t ht
   simp only[Gb,beq_iff_eq]at h
   subst h
   exact .inr ⟨s,t,rfl,ht⟩
  ·cases h
  ·cases h
theorem Jbq {io:IOper}{l:List IOper}(h:xgd T io.guard=some false) (hok:Ok P E n0 N Q (.ops l::k) (put T io.dst (.tup [])) H):Ok P E n0 N Q (.ops (io::l)::k) T H:=by
 obtain ⟨d,op,g⟩:=io
 simp only at h
 unfold xgd at h
 split at h
 ·cases h
 ·rename_i s want
  split at h
  ·rename_i t ht
   simp only[Gb,beq_eq_false_iff_ne]at h
   have:t = !want:=by cases t <;> cases want <;> simp_all
   exact Jac rfl (.inl (by rw[ht,this])) hok
  ·rename_i ht
   exact Jac rfl (.inr ht) hok
  ·cases h
theorem Ya {io:IOper}{T2:List CV}(h:agree io.rd T T2):xgd T io.guard=xgd T2 io.guard:=by
 obtain ⟨d,op,g⟩:=io
 cases g with
 |none=>rfl
 |some g=>
  obtain ⟨s,want⟩:=g
  have:=(Jg h).1 s (by simp)
  simp only[xgd,this]
theorem vop_any {op:IOp}{c:Cond}{x:CV}{H0:List CObj}(hop:vop op=true) (h:exec op T []=some (c,x,H0)) (H:List CObj):exec op T H=some (c,x,H):=by
 cases op <;> simp only[vop,Gu]at hop
 case mmx big a b=>
  simp only[exec]at h ⊢
  split at h
  ·split at h
   ·rename_i hk
    rw[if_pos hk]
    simp only[Gb,Gd]at h ⊢
    exact ⟨h.1,h.2.1,trivial⟩
   ·cases h
  ·cases h
 all_goals
  simp only[exec]at h ⊢
  repeat' split at h
  all_goals simp_all
theorem rop_more {op:IOp}{c:Cond}{x:CV}{H0 K:List CObj}(hop:rop op=true) (h:exec op T H=some (c,x,H0)) (hk:∀ (r:Nat) o,H[r]? = some o→o.alive=true→K[r]? = some o):exec op T K=some (c,x,K):=by
 have ha:∀ (r:Nat) z els,H[r]? = some (.arr z els)→K[r]? = some (.arr z els):=fun r z els h=>hk r _ h rfl
 have hm:∀ (r:Nat) kvs,H[r]? = some (.map kvs)→K[r]? = some (.map kvs):=fun r kvs h=>hk r _ h rfl
 cases op <;> simp only[rop,Gu]at hop
 case load ag n a=>
  simp only[exec]at h ⊢
  split at h
  ·split at h
   ·rename_i hH; rw[ha _ _ _ hH]; split at h <;> simp_all
   ·cases h
  ·split at h
   ·simp_all
   ·split at h <;> simp_all
  ·cases h
 case slice z a lo hi mx=>
  simp only[exec]at h ⊢
  split at h
  ·rename_i l hh m h1 h2 h3
   split at h
   ·rename_i c' v' h4
    have:K6 z K (JO T a) l hh m=some (c',v'):=by
     cases hx:JO T a <;> rw[hx]at h4 <;> simp only[K6,reduceCtorEq]at h4 ⊢ <;> try exact h4
     split at h4
     ·rename_i hH; rw[ha _ _ _ hH]; exact h4
     ·cases h4
    rw[this]; simp_all
   ·cases h
  ·cases h
 case iaddr z a i=>
  simp only[exec]at h ⊢
  split at h
  ·split at h
   ·rename_i hH; rw[ha _ _ _ hH]; split at h <;> simp_all
   ·cases h
  ·split at h <;> simp_all
  ·cases h
 case lookup tk zero ok m i=>
  simp only[exec]at h ⊢
  split at h
  ·rename_i hkey
   rw[if_pos hkey]
   split at h
   ·simp_all
   ·split at h
    ·rename_i hH; rw[hm _ _ hH]; simp only; split at h <;> simp_all
    ·cases h
   ·cases h
  ·cases h
 case len tk a=>
  simp only[exec]at h ⊢
  split at h
  ·split at h <;> simp_all
  ·split at h <;> simp_all
  ·split at h <;> simp_all
  ·split at h <;> simp_all
  ·split at h <;> simp_all
  ·split at h
   ·rename_i hH; rw[hm _ _ hH]; simp only; split at h <;> simp_all
   ·cases h
  ·cases h
end
end
section
def hcF (h0:List CObj) (ds:List (CV×List CObj×Made)):Nat→List CObj
 |0=>h0
 |j+1=>((ds[j]?).map fun d=>d.2.1).getD h0
def faF (f0:Made) (ds:List (CV×List CObj×Made)):Nat→Made
 |0=>f0
 |j+1=>((ds[j]?).map fun d=>d.2.2).getD []
theorem hcF_eq (h0:List CObj) (ds):∀ j,hcF h0 ds j=hcAt h0 ds j
 |0=>rfl
 |_+1=>rfl
theorem faF_eq (ds):∀ j,faF [] ds j=Jfg ds j
 |0=>rfl
 |_+1=>rfl
theorem dpass_get {cl:JcS}{es:List (List Nat)}{as:List Nat}{base:Nat}:∀ (l:List IOper) (j:Nat) (T:List CV) (h0:List CObj) (fa:Made) (ds:List (CV×List CObj×Made)),dpass cl es as base l j T h0 fa=some ds→
  ds.length=l.length∧∀ i,i < l.length→dstep cl es as base (j+i) (KG l i) (tst l (JbX ds) T i) (hcF h0 ds i) (faF fa ds i)=some (JbX ds i,hcF h0 ds (i+1),faF fa ds (i+1))
 |[],_,_,_,_,ds,h=>by simp only[dpass,Gb]at h; subst h; simp
 |io::l,j,T,h0,fa,ds,h=>by
  simp only[dpass]at h
  split at h
  ·rename_i v h' fa' hd
   split at h
   ·rename_i ds' hds
    simp only[Gb]at h
    subst h
    obtain ⟨hl,hg⟩:=dpass_get l (j+1) (put T io.dst v) h' fa' ds' hds
    have key:∀ i,tst (io::l) (JbX ((v,h',fa')::ds')) T (i+1)=tst l (JbX ds') (put T io.dst v) i:=by
     intro i
     induction i with
     |zero=>rfl
     |succ i ih=>rw[tst,ih]; rfl
    refine ⟨by simp[hl],fun i hi=>?_⟩
    cases i with
    |zero=>exact hd
    |succ i=>
     have hi':i < l.length:=by simpa using hi
     have:=hg i hi'
     have e1:hcF h0 ((v,h',fa')::ds') (i+1)=hcF h' ds' i:=by
      cases i with
      |zero=>rfl
      |succ i=>
       have:i < ds'.length:=by omega
       simp[hcF,Gl this]
     have e2:hcF h0 ((v,h',fa')::ds') (i+1+1)=hcF h' ds' (i+1):=by
      have:i < ds'.length:=by omega
      simp[hcF,Gl this]
     have e3:faF fa ((v,h',fa')::ds') (i+1)=faF fa' ds' i:=by cases i <;> rfl
     rw[key,e1,e2,e3,show j+(i+1)=j+1+i by omega]
     exact this
   ·cases h
  ·cases h
def QJ (l:List IOper) (as sk:List Nat) (base:Nat) (T:List CV) (h0:List CObj) (ds:List (CV×List CObj×Made)):Plan where
 n:=l.length
 isW:=wat l as sk
 isA:=mkd as sk
 rid:=fun a=>base+as.idxOf a
 ob:=fun a=>((Ki (KG l a).op (tst l (JbX ds) T a)).map fun r=>r.2.1).getD .dead
 hc:=hcAt h0 ds
 v:=JbX ds
theorem Jgs {op:IOp}{T:List CV}{c:Cond}{o:CObj}{f:Nat→CV}(h:Ki op T=some (c,o,f)):o.alive=true:=by
 cases op <;> simp only[Ki,reduceCtorEq]at h
 all_goals (repeat' split at h)
 all_goals first | (cases h; done) | (simp only[Gb,Gd]at h; obtain ⟨_,rfl,_⟩:=h; rfl)
theorem Plan.Fills.unique {p:Plan}{X:Nat→Bool}{h H1 H2:List CObj}(a:p.Fills X h H1) (b:p.Fills X h H2):H1=H2:=by
 refine Gz fun r=>?_
 by_cases hr:∃ c,c < p.n∧p.isA c=true∧X c=true∧p.rid c=r∧h[r]? = some .dead
 ·obtain ⟨c,h1,h2,h3,rfl,h4⟩:=hr
  rw[a.inn c h1 h2 h3 h4,b.inn c h1 h2 h3 h4]
 ·have hn:∀ c,c < p.n→p.isA c=true→X c=true→p.rid c=r→h[r]?≠some .dead:=fun c h1 h2 h3 h4 h5=>hr ⟨c,h1,h2,h3,h4,h5⟩
  rw[a.out r hn,b.out r hn]
theorem Jba {p:Plan}(hinj:∀ a b,a < p.n→b < p.n→p.isA a=true→p.isA b=true→p.rid a=p.rid b→a=b) {pre:List Nat}:∀ (fa:Made) (h:List CObj),(∀ e∈fa,e.1 < p.n∧p.isA e.1=true∧e.2.1=p.rid e.1∧e.2.2=p.ob e.1)→
  p.Fills (fun a=>pre.contains a && fa.any fun e=>e.1 == a) h (X5 pre fa h)
 |[],h,_=>⟨rfl,fun a _ _ hX=>by simp at hX,fun _ _=>rfl⟩
 |(a,r,o)::fa,h,hf=>by
  obtain ⟨h1,h2,h3,h4⟩:=hf (a,r,o) (by simp)
  simp only at h1 h2 h3 h4
  subst h3; subst h4
  have ih:=Jba hinj (pre:=pre) fa h fun e he=>hf e (by simp[he])
  have hlen:=ih.len
  simp only[X5]
  split
  ·rename_i hpre
   have hH1:(∀ c,c < p.n→p.isA c=true→(pre.contains c && fa.any fun e=>e.1 == c)=true→p.rid c=p.rid a→h[p.rid a]?≠some .dead)→(X5 pre fa h)[p.rid a]? = h[p.rid a]?:=ih.out (p.rid a)
   have hA:h[p.rid a]? = some .dead→(X5 pre fa h)[p.rid a]? = some .dead∨(X5 pre fa h)[p.rid a]? = some (p.ob a):=by
    intro hd
    by_cases hx:(pre.contains a && fa.any fun e=>e.1 == a)=true
    ·exact .inr (ih.inn a h1 h2 hx hd)
    ·refine .inl ((hH1 fun c hc1 hc2 hc3 hc4=>?_).trans hd)
     have:=hinj c a hc1 h1 hc2 h2 hc4
     subst this
     exact absurd hc3 hx
   have hB:h[p.rid a]?≠some .dead→(X5 pre fa h)[p.rid a]? = h[p.rid a]?:=fun hd=>hH1 fun _ _ _ _ _=>hd
   split
   ·rename_i hdead
    have hlt:p.rid a < (X5 pre fa h).length:=(Gp.1 hdead).1
    refine ⟨by rw[GY]; exact hlen,fun b hb1 hb2 hb3 hb4=>?_,fun r' hr'=>?_⟩
    ·by_cases hab:b=a
     ·subst hab; simp[hlt]
     ·rw[Gm,if_neg (fun e=>hab (hinj a b h1 hb1 h2 hb2 e).symm)]
      refine ih.inn b hb1 hb2 ?_ hb4
      have hne:(a == b)=false:=by simpa using fun e=>hab e.symm
      simpa [hne]using hb3
    ·by_cases hra:p.rid a=r'
     ·subst hra
      have:=hr' a h1 h2 (by rw[hpre]; simp) rfl
      rw[hB this]at hdead
      exact absurd hdead this
     ·rw[Gm,if_neg hra]
      refine ih.out r' fun c hc1 hc2 hc3 hc4=>hr' c hc1 hc2 ?_ hc4
      simp only[Ga,G5,Gj]at hc3 ⊢
      exact ⟨hc3.1,.inr hc3.2⟩
   ·rename_i hnd
    refine ⟨hlen,fun b hb1 hb2 hb3 hb4=>?_,fun r' hr'=>?_⟩
    ·by_cases hab:b=a
     ·subst hab
      rcases hA hb4 with h5 | h5
      ·exact absurd h5 hnd
      ·exact h5
     ·refine ih.inn b hb1 hb2 ?_ hb4
      have hne:(a == b)=false:=by simpa using fun e=>hab e.symm
      simpa [hne]using hb3
    ·refine ih.out r' fun c hc1 hc2 hc3 hc4=>hr' c hc1 hc2 ?_ hc4
     simp only[Ga,G5,Gj]at hc3 ⊢
     exact ⟨hc3.1,.inr hc3.2⟩
  ·rename_i hpre
   refine ih.congr fun b hb1 hb2=>?_
   by_cases hab:a=b
   ·subst hab; rw[hpre]; simp
   ·have hne:(a == b)=false:=by simpa using hab
    simp[hne]
section
variable {cl:JcS}{l:List IOper}{es:List (List Nat)}{as sk:List Nat}{base:Nat}{T:List CV}{h0:List CObj}{ds:List (CV×List CObj×Made)}
structure DKnow (cl:JcS) (l:List IOper) (es:List (List Nat)) (as sk:List Nat) (base:Nat) (T:List CV) (h0:List CObj) (ds:List (CV×List CObj×Made)):Prop where
 step:∀ i,i < l.length→dstep cl es as base i (KG l i) (tst l (JbX ds) T i) (hcAt h0 ds i) (Jfg ds i)=some (JbX ds i,hcAt h0 ds (i+1),Jfg ds (i+1))
 sk:∀ i,i < l.length→(sk.contains i=true↔xgd (tst l (JbX ds) T i) (KG l i).guard=some false)
theorem dknow (h:dpass cl es as base l 0 T h0 []=some ds):DKnow cl l es as (skips l ds T) base T h0 ds:=by
 obtain ⟨_,hg⟩:=dpass_get l 0 T h0 [] ds h
 refine ⟨fun i hi=>?_,fun i hi=>?_⟩
 ·have:=hg i hi
  rw[GJ,hcF_eq,hcF_eq,faF_eq,faF_eq]at this
  exact this
 ·rw[Gg]
  simp only[skips,GX,Gr]
  constructor
  ·rintro ⟨_,h⟩
   split at h
   ·assumption
   ·cases h
  ·intro h
   exact ⟨hi,by rw[h]⟩
theorem XK {j:Nat}{io:IOper}{T:List CV}{h h':List CObj}{fa fa':Made}{v:CV}(hd:dstep cl es as base j io T h fa=some (v,h',fa')) :
  (xgd T io.guard=some true∧as.contains j=true∧∃ c o f,Ki io.op T=some (c,o,f)∧c.holds∧v=f (base+as.idxOf j)∧h'=h∧fa'=(j,base+as.idxOf j,o)::fa)∨
  (fa'=fa∧((xgd T io.guard=some false∧v=.tup []∧h'=h)∨(as.contains j=false∧xgd T io.guard=some true∧((vop io.op=true∧h'=h∧∃ c,exec io.op T []=some (c,v,[])∧c.holds)∨
   (vop io.op=false∧rop io.op=true∧h'=h∧∃ c H0,exec io.op T (X5 (es.getD j []) fa h)=some (c,v,H0)∧c.holds)∨(vop io.op=false∧rop io.op=false∧xop cl io.op T (X5 (es.getD j []) fa h)=some (v,h')))))):=by
 unfold dstep at hd
 split at hd
 ·rename_i hg
  split at hd
  ·rename_i ha
   split at hd
   ·rename_i c o f hal
    split at hd
    ·rename_i hc
     simp only[Gb,Gd]at hd
     obtain ⟨rfl,rfl,rfl⟩:=hd
     exact .inl ⟨hg,ha,c,o,f,hal,Cond.holds_of_check hc,rfl,rfl,rfl⟩
    ·cases hd
   ·cases hd
  ·rename_i ha
   refine .inr ?_
   split at hd
   ·rename_i hv
    split at hd
    ·rename_i c v' he
     split at hd
     ·rename_i hc
      simp only[Gb,Gd]at hd
      obtain ⟨rfl,rfl,rfl⟩:=hd
      exact ⟨rfl,.inr ⟨ha,hg,.inl ⟨hv,rfl,c,he,Cond.holds_of_check hc⟩⟩⟩
     ·cases hd
    ·cases hd
   ·rename_i hv
    split at hd
    ·rename_i hr
     split at hd
     ·rename_i c v' H0 he
      split at hd
      ·rename_i hc
       simp only[Gb,Gd]at hd
       obtain ⟨rfl,rfl,rfl⟩:=hd
       exact ⟨rfl,.inr ⟨ha,hg,.inr (.inl ⟨hv,hr,rfl,c,H0,he,Cond.holds_of_check hc⟩)⟩⟩
      ·cases hd
     ·cases hd
    ·rename_i hr
     split at hd
     ·rename_i v' h2 he
      simp only[Gb,Gd]at hd
      obtain ⟨rfl,rfl,rfl⟩:=hd
      exact ⟨rfl,.inr ⟨ha,hg,.inr (.inr ⟨hv,hr,he⟩)⟩⟩
     ·cases hd
 ·rename_i hg
  simp only[Gb,Gd]at hd
  obtain ⟨rfl,rfl,rfl⟩:=hd
  exact .inr ⟨rfl,.inl ⟨hg,rfl,rfl⟩⟩
 ·cases hd
theorem JdK {a:Nat}(h:mkd as sk a=true):as.contains a=true:=by
 simp only[mkd,Ga]at h; exact h.1
theorem mkd_sk {a:Nat}(h:mkd as sk a=true):sk.contains a=false:=by
 simp only[mkd,Ga,Gq]at h; exact h.2
theorem mkd_of {a:Nat}(h1:as.contains a=true) (h2:sk.contains a=false):mkd as sk a=true:=by simp only[mkd,h1,h2]; rfl
theorem Ja4 (hk:DKnow cl l es as sk base T h0 ds):∀ i,i≤l.length→(∀ e∈Jfg ds i,e.1 < i∧mkd as sk e.1=true∧e.2.1=(QJ l as sk base T h0 ds).rid e.1∧e.2.2=(QJ l as sk base T h0 ds).ob e.1)∧∀ a,a < i→mkd as sk a=true→∃ e∈Jfg ds i,e.1=a
 |0,_=>⟨fun e he=>by simp[Jfg]at he,fun a ha=>by omega⟩
 |i+1,hi=>by
  obtain ⟨h1,h2⟩:=Ja4 hk i (by omega)
  have hskf:∀ {g},xgd (tst l (JbX ds) T i) (KG l i).guard=some g→sk.contains i=true→g=false:=fun {g} hg hs=>by
   rw[(hk.sk i (by omega)).1 hs]at hg; cases hg; rfl
  rcases XK (hk.step i (by omega)) with ⟨hg,ha,c,o,f,hal,_,_,_,hfa⟩ | ⟨hfa,hrest⟩
  ·have hsk:sk.contains i=false:=by
    cases hs:sk.contains i with
    |false=>rfl
    |true=>cases hskf hg hs
   rw[hfa]
   refine ⟨fun e he=>?_,fun a hai haa=>?_⟩
   ·rcases GZ.1 he with rfl | he
    ·refine ⟨by simp,mkd_of ha hsk,rfl,?_⟩
     simp[QJ,hal]
    ·obtain ⟨a1,a2⟩:=h1 e he
     exact ⟨by omega,a2⟩
   ·by_cases e:a=i
    ·subst e; exact ⟨_,List.mem_cons_self,rfl⟩
    ·obtain ⟨e',he,h3⟩:=h2 a (by omega) haa
     exact ⟨e',by simp[he],h3⟩
  ·rw[hfa]
   refine ⟨fun e he=>?_,fun a hai haa=>?_⟩
   ·obtain ⟨a1,a2⟩:=h1 e he
    exact ⟨by omega,a2⟩
   ·by_cases e:a=i
    ·subst e
     rcases hrest with ⟨hg,_⟩ | ⟨ha,_⟩
     ·rw[(hk.sk a (by omega)).2 hg |> fun h=>h]at *
      have:=mkd_sk haa
      rw[(hk.sk a (by omega)).2 hg]at this; cases this
     ·rw[JdK haa]at ha; cases ha
    ·exact h2 a (by omega) haa
theorem hc_stay (hk:DKnow cl l es as sk base T h0 ds) {j:Nat}(hj:j < l.length) (hw:wat l as sk j=false):hcAt h0 ds (j+1)=hcAt h0 ds j:=by
 rcases XK (hk.step j hj) with ⟨_,_,c,o,f,_,_,_,h,_⟩ | ⟨_,⟨_,_,h⟩ | ⟨ha,hg,⟨_,h,_⟩ | ⟨_,_,h,_⟩ | ⟨hv,hr,_⟩⟩⟩
 ·exact h
 ·exact h
 ·exact h
 ·exact h
 ·have hs:sk.contains j=false:=by
   cases hs:sk.contains j with
   |false=>rfl
   |true=>rw[(hk.sk j hj).1 hs]at hg; cases hg
  simp only[wat,hop,hv,hr,ha,hs]at hw
  cases hw
theorem Jaz:∀ j,KM l as sk j≤j
 |0=>Gf _
 |j+1=>by
  simp only[KM]
  split
  ·exact Gf _
  ·exact Nat.le_succ_of_le (Jaz j)
theorem XV:∀ j,KM l as sk j=0∨wat l as sk (KM l as sk j-1)=true
 |0=>.inl rfl
 |j+1=>by
  simp only[KM]
  split
  ·rename_i h; exact .inr (by simpa using h)
  ·exact XV j
theorem Ja0:∀ j i,KM l as sk j≤i→i < j→wat l as sk i=false
 |0,i,_,h=>by omega
 |j+1,i,h1,h2=>by
  simp only[KM]at h1
  split at h1
  ·omega
  ·rename_i hw
   by_cases e:i=j
   ·subst e; simpa using hw
   ·exact Ja0 j i h1 (by omega)
theorem hc_own (hk:DKnow cl l es as sk base T h0 ds):∀ m,m≤l.length→hcAt h0 ds m=hcAt h0 ds (KM l as sk m)
 |0,_=>rfl
 |m+1,hm=>by
  simp only[KM]
  split
  ·rfl
  ·rename_i hw
   rw[hc_stay hk (by omega) (by simpa using hw)]
   exact hc_own hk m (by omega)
end
end
section
theorem xop_congr {cl:JcS}{op:IOp}{T T2:List CV}{H:List CObj}(h:agree op.rd T T2):xop cl op T H=xop cl op T2 H:=by
 cases op
 case call f as=>simp only[IOp.rd]at h; simp only[xop,K4 h]
 case callv x as=>simp only[IOp.rd]at h; simp only[xop,Jj (Jg h).1,K4 (Jg h).2]
 all_goals simp only[xop]; rw[Kw h]
theorem idxOf_inj {as:List Nat}{a b:Nat}(ha:as.contains a=true) (hb:as.contains b=true) (h:as.idxOf a=as.idxOf b):a=b:=by
 have h1:a∈as:=by simpa using ha
 have h2:b∈as:=by simpa using hb
 have e1:=GU (GN h1)
 have e2:=GU (GN h2)
 rw[← e1,← e2]
 congr 1
section
variable {P:Program}{E:Env}{n0:Nat}{N:Fr}{Q:Exit→List CV→List CObj→Prop}{H:List CObj}{T:List CV}{k:List KItem}{cl:JcS}{l:List IOper}{es:List (List Nat)}{as sk:List Nat}{base:Nat}{h0:List CObj}{ds:List (CV×List CObj×Made)}
structure Loose (l:List IOper) (es:List (List Nat)) (as sk:List Nat) (base:Nat) (h0:List CObj) (ds:List (CV×List CObj×Made)) (T:List CV) (a:Nat):Prop where
 lt:a < l.length
 nT:Jgw (base+as.idxOf a) T=true
 nv:∀ j,j < l.length→a≠j→a∉es.getD j []→nid (base+as.idxOf a) (JbX ds j)=true
 calls:∀ j,j < l.length→wat l as sk j=true→a∈es.getD j []∨j∈es.getD a []∨cop (KG l j).op=true
 no:∀ e∈Jfg ds l.length,(e.1≠a∧a∈es.getD e.1 [])∨nidO (base+as.idxOf a) e.2.2=true
 taken:∀ m,m≤l.length→(m=0∨wat l as sk (m-1)=true)→(∃ i,i < m∧wat l as sk i=true∧a∈es.getD i [])→(hcAt h0 ds m)[base+as.idxOf a]?≠some .dead
 free:∀ m,m≤l.length→(m=0∨wat l as sk (m-1)=true)→(¬ ∃ i,i < m∧wat l as sk i=true∧a∈es.getD i [])→(hcAt h0 ds m)[base+as.idxOf a]? = some .dead∧nidH (base+as.idxOf a) (hcAt h0 ds m)=true
theorem loose_sound (h:Jf1 l es as sk base h0 ds T=true) {a:Nat}(ha:mkd as sk a=true):Loose l es as sk base h0 ds T a:=by
 have hsk:=mkd_sk ha
 simp only[Jf1,Gh,Gj]at h
 have h:=(h a (by simpa using JdK ha)).resolve_left (by rw[hsk]; exact Bool.false_ne_true)
 simp only[Ga,decide_eq_true_eq,Gr,Gh]at h
 obtain ⟨h1,h2,h3,h4,h5⟩:=h
 have h6:∀ m,m≤l.length→(m=0∨wat l as sk (m-1)=true)→(match (Gc m).any fun i=>wat l as sk i && (es.getD i []).contains a with | true=>(match (hcAt h0 ds m)[base+as.idxOf a]? with | some .dead=>false | _=>true) | false=>(match (hcAt h0 ds m)[base+as.idxOf a]? with | some .dead=>true | _=>false) && nidH (base+as.idxOf a) (hcAt h0 ds m))=true:=by
  intro m hm hb
  have:=h5 m (by omega)
  rw[Gj]at this
  rcases this with h | h
  ·simp only[Gq,Gy,beq_eq_false_iff_ne]at h
   rcases hb with hb | hb
   ·exact absurd hb h.1
   ·rw[hb]at h; cases h.2
  ·exact h
 refine ⟨h1,h2,fun j hj hne hni=>?_,fun j hj hw=>?_,fun e he=>?_,fun m hm hb hex hd=>?_,fun m hm hb hex=>?_⟩
 ·have:=(h3 j hj).1
  simp only[Gj,beq_iff_eq,Gg]at this
  rcases this with (h | h) | h
  ·exact absurd h.symm hne
  ·exact absurd h hni
  ·exact h
 ·have:=(h3 j hj).2
  simp only[Gj,Gq,Gg]at this
  rcases this with ((h | h) | h) | h
  ·rw[hw]at h; cases h
  ·exact .inl h
  ·exact .inr (.inl h)
  ·exact .inr (.inr h)
 ·have:=h4 e he
  simp only[Gj,Ga,bne_iff_ne,Gg]at this
  exact this
 ·have:=h6 m hm hb
  have ht:((Gc m).any fun i=>wat l as sk i && (es.getD i []).contains a)=true:=by
   obtain ⟨i,a1,a2,a3⟩:=hex
   simp only[Gw,Gr,Ga,Gg]
   exact ⟨i,a1,a2,a3⟩
  rw[ht,hd]at this
  cases this
 ·have:=h6 m hm hb
  have hf:((Gc m).any fun i=>wat l as sk i && (es.getD i []).contains a)=false:=by
   cases hh:((Gc m).any fun i=>wat l as sk i && (es.getD i []).contains a) with
   |false=>rfl
   |true=>
    simp only[Gw,Gr,Ga,Gg]at hh
    obtain ⟨i,a1,a2,a3⟩:=hh
    exact absurd ⟨i,a1,a2,a3⟩ hex
  rw[hf]at this
  simp only[Ga]at this
  refine ⟨?_,this.2⟩
  have h7:=this.1
  split at h7
  ·assumption
  ·cases h7
theorem sk_false (hk:DKnow cl l es as sk base T h0 ds) {j:Nat}(hj:j < l.length) (hg:xgd (tst l (JbX ds) T j) (KG l j).guard=some true):sk.contains j=false:=by
 cases hs:sk.contains j with
 |false=>rfl
 |true=>rw[(hk.sk j hj).1 hs]at hg; cases hg
theorem made_step (hk:DKnow cl l es as sk base T h0 ds) {j:Nat}(hj:j < l.length) (hm:mkd as sk j=true):xgd (tst l (JbX ds) T j) (KG l j).guard=some true∧∃ c o f,Ki (KG l j).op (tst l (JbX ds) T j)=some (c,o,f)∧c.holds∧JbX ds j=f (base+as.idxOf j):=by
 rcases XK (hk.step j hj) with ⟨hg,_,c,o,f,h1,h2,h3,_,_⟩ | ⟨_,⟨hg,_⟩ | ⟨ha,_⟩⟩
 ·exact ⟨hg,c,o,f,h1,h2,h3⟩
 ·have:=mkd_sk hm
  rw[(hk.sk j hj).2 hg]at this; cases this
 ·rw[JdK hm]at ha; cases ha
theorem dreg_good {es0:List (List Nat)}(hcl:Jgu P E cl) (hst:Jgk l es0 es as sk=true) (hk:DKnow cl l es as sk base T h0 ds) (hrd:∀ j,j < l.length→JfR l es as sk h0 ds T j=true) (hlo:Jf1 l es as sk base h0 ds T=true) (hb:n0≤base) :
  (QJ l as sk base T h0 ds).Good P E n0 N Q k l es T:=by
 simp only[Jgk,Ga]at hst
 obtain ⟨_,hord,hch⟩:=hst
 have hord:=Yt hord
 simp only[Gh,Gr,Gj,Gq,Gg]at hch
 have hchain:∀ i j,i < j→j < l.length→wat l as sk i=true→wat l as sk j=true→i∈es.getD j []:=by
  intro i j hij hj hwi hwj
  simp only[wat,Ga,Gq]at hwi hwj
  rcases hch j hj i hij with h | (((h | h) | h) | h)
  ·have h1:=hwi.2
   have h2:(as.contains i || sk.contains i)=true:=by simpa using h
   rw[h2]at h1; cases h1
  ·have h1:=hwj.2
   have h2:(as.contains j || sk.contains j)=true:=by simpa using h
   rw[h2]at h1; cases h1
  ·rw[hwi.1]at h; cases h
  ·rw[hwj.1]at h; cases h
  ·exact h
 have hinj:∀ a b,a < l.length→b < l.length→mkd as sk a=true→mkd as sk b=true→base+as.idxOf a=base+as.idxOf b→a=b:=fun a b _ _ ha hb' h=>idxOf_inj (JdK ha) (JdK hb') (by omega)
 have hloose:∀ a,mkd as sk a=true→Loose l es as sk base h0 ds T a:=fun a ha=>loose_sound hlo ha
 have hfree:∀ m,m≤l.length→∀ a,mkd as sk a=true→(∀ i,i < m→wat l as sk i=true→a∉es.getD i [])→(hcAt h0 ds m)[base+as.idxOf a]? = some .dead∧nidH (base+as.idxOf a) (hcAt h0 ds m)=true:=by
  intro m hm a ha hn
  rw[hc_own hk m hm]
  have hle:=Jaz (l:=l) (as:=as) (sk:=sk) m
  exact (hloose a ha).free (KM l as sk m) (by omega) (XV m) fun ⟨i,h1,h2,h3⟩=>hn i (by omega) h2 h3
 have htaken:∀ m,m≤l.length→∀ a,mkd as sk a=true→∀ i,i < m→wat l as sk i=true→a∈es.getD i []→(hcAt h0 ds m)[base+as.idxOf a]?≠some .dead:=by
  intro m hm a ha i hi hw hin
  rw[hc_own hk m hm]
  have hle:=Jaz (l:=l) (as:=as) (sk:=sk) m
  refine (hloose a ha).taken (KM l as sk m) (by omega) (XV m) ⟨i,?_,hw,hin⟩
  rcases GK i (KM l as sk m) with h1 | h1
  ·exact h1
  ·have:=Ja0 m i h1 hi; rw[hw]at this; cases this
 have hfill:∀ j m,j < l.length→(QJ l as sk base T h0 ds).Fills (fun a=>(es.getD j []).contains a && (Jfg ds j).any fun e=>e.1 == a) (hcAt h0 ds m) (X5 (es.getD j []) (Jfg ds j) (hcAt h0 ds m)):=by
  intro j m hj
  refine Jba (p:=QJ l as sk base T h0 ds) hinj (Jfg ds j) _ fun e he=>?_
  obtain ⟨a1,a2,a3,a4⟩:=(Ja4 hk j (by omega)).1 e he
  exact ⟨by show e.1 < l.length; omega,a2,a3,a4⟩
 have hin:∀ j,j < l.length→∀ a,mkd as sk a=true→a∈es.getD j []→((es.getD j []).contains a && (Jfg ds j).any fun e=>e.1 == a)=true:=by
  intro j hj a ha hm
  obtain ⟨e,he,h⟩:=(Ja4 hk j (by omega)).2 a (hord.lt j hj a hm) ha
  simp only[Ga,Gg,Gw,beq_iff_eq]
  exact ⟨hm,e,he,h⟩
 have hobl:∀ a,a < l.length→mkd as sk a=true→((QJ l as sk base T h0 ds).ob a).alive=true:=by
  intro a hal ha
  obtain ⟨_,c,o,f,h1,_⟩:=made_step hk hal ha
  simp only[QJ,h1,Gx,G9]; exact Jgs h1
 refine ⟨rfl,hord,hchain,fun j hj=>?_,hinj,fun a _ _=>?_,fun j hj hw=>hc_stay hk hj hw,fun m hm a _ ha hn=>hfree m hm a ha hn,fun a _ ha=>(hloose a ha).nT,fun j hj a _ ha hne hni=>(hloose a ha).nv j hj hne hni,fun b hbl hbA a _ ha hni=>?_,fun j hj hA=>?_,fun j hj hA hW T2 H2 m X hag hm hp1 hp2 hX hF=>?_,fun j hj hW T2 H2 X hag hX1 hX2 hF l' hok=>?_⟩
 ·have h1:mkd as sk j=true:=hj
  show wat l as sk j=false
  simp only[wat,JdK h1,GM,Bool.not_true,Bool.and_false]
 ·show n0≤base+as.idxOf a; omega
 ·obtain ⟨e,he,rfl⟩:=(Ja4 hk l.length (Gf _)).2 b hbl hbA
  obtain ⟨_,_,_,h4⟩:=(Ja4 hk l.length (Gf _)).1 e he
  rcases (hloose a ha).no e he with ⟨h1,h2⟩ | h
  ·rcases hni with h | h
   ·exact absurd h.symm h1
   ·exact absurd h2 h
  ·rw[← h4]; exact h
 ·obtain ⟨hg,c,o,f,h1,h2,h3⟩:=made_step hk hj hA
  refine ⟨c,f,Jat hg,?_,h2,h3⟩
  simp only[QJ,h1,Gx,G9]
 ·
  have hwf:wat l as sk j=false:=hW
  rcases XK (hk.step j hj) with ⟨hg,h1,_⟩ | ⟨_,⟨hg,hv,_⟩ | ⟨ha,hg,⟨hvo,_,c,he,hc⟩ | ⟨hvo,hro,_,c,H0,he,hc⟩ | ⟨hvo,hro,_⟩⟩⟩
  ·have h2:mkd as sk j=false:=hA
   rw[mkd_of h1 (sk_false hk hj hg)]at h2; cases h2
  ·intro l' hok
   refine Jbq (by rw[← Ya hag]; exact hg) ?_
   have:(QJ l as sk base T h0 ds).v j=.tup []:=hv
   rwa [this]at hok
  ·intro l' hok
   have e1:exec (KG l j).op T2 H2=some (c,JbX ds j,H2):=by
    rw[← Kw (Jg hag).2]
    exact vop_any hvo he H2
   exact JcK (Jat (by rw[← Ya hag]; exact hg)) e1 hc hok
  ·
   have hat:∃ c' H1,exec (KG l j).op (tst l (JbX ds) T j) (X5 (es.getD j []) (Jfg ds j) (hcAt h0 ds m))=some (c',JbX ds j,H1)∧c'.holds:=by
    rw[hc_own hk m hm]
    by_cases hs:KM l as sk m=KM l as sk j
    ·rw[hs,← hc_own hk j (show j≤l.length from GL hj)]
     exact ⟨c,H0,he,hc⟩
    ·have hr:=hrd j hj
     simp only[JfR,hro,hg]at hr
     rw[Gh]at hr
     have hle:=Jaz (l:=l) (as:=as) (sk:=sk) m
     have hmem:KM l as sk m∈spots l es as sk j:=by
      simp only[spots,GX,Gr,Ga,Gj,beq_iff_eq,Gh,Gq,decide_eq_true_eq]
      refine ⟨by show KM l as sk m < l.length+1; have:m≤l.length:=hm; omega,XV m,fun i hi=>?_⟩
      by_cases hwi:wat l as sk i=true
      ·refine .inr ⟨?_,?_⟩
       ·by_cases hin':i∈es.getD j []
        ·refine .inr ?_
         have h1:=hp1 i hi hwi hin'
         rcases GK i (KM l as sk m) with h2 | h2
         ·exact h2
         ·have:=Ja0 m i h2 h1; rw[hwi]at this; cases this
        ·refine .inl ?_
         simpa using hin'
       ·by_cases hin':j∈es.getD i []
        ·exact .inr (by have:=hp2 i hi hwi hin'; omega)
        ·refine .inl ?_
         simpa using hin'
      ·exact .inl (by simpa using hwi)
     have:=hr _ hmem
     simp only[Gj,beq_iff_eq]at this
     rcases this with h | h
     ·exact absurd h hs
     ·split at h
      ·rename_i c' v' H1 he'
       simp only[Ga]at h
       exact ⟨c',H1,by rw[he',JaF _ _ h.2],Cond.holds_of_check h.1⟩
      ·cases h
   obtain ⟨c',H1,he',hc'⟩:=hat
   intro l' hok
   have hmore:=rop_more (K:=H2) hro he' fun r o hr hal=>by
    have hF1:=hfill j m hj
    by_cases hex:∃ a,a < l.length∧mkd as sk a=true∧((es.getD j []).contains a && (Jfg ds j).any fun e=>e.1 == a)=true∧base+as.idxOf a=r∧(hcAt h0 ds m)[r]? = some .dead
    ·obtain ⟨a,a1,a2,a3,rfl,a5⟩:=hex
     have e1:=hF1.inn a a1 a2 a3 a5
     have hX':X a=true:=hX a a1 a2 (by simp only[Ga,Gg]at a3; exact a3.1)
     have e2:=hF.inn a a1 a2 hX' a5
     have e3:(QJ l as sk base T h0 ds).rid a=base+as.idxOf a:=rfl
     rw[e3]at e1 e2
     rw[e2,← e1,hr]
    ·have e1:=hF1.out r fun a a1 a2 a3 a4 a5=>hex ⟨a,a1,a2,a3,a4,a5⟩
     rw[hr]at e1
     have e2:=hF.out r fun a _ _ _ _ hd=>by
      have:(hcAt h0 ds m)[r]? = some .dead:=hd
      rw[← e1]at this; cases this; cases hal
     rw[e2]; exact e1.symm
   have e1:exec (KG l j).op T2 H2=some (c',JbX ds j,H2):=by
    rw[← Kw (Jg hag).2]; exact hmore
   exact JcK (Jat (by rw[← Ya hag]; exact hg)) e1 hc' hok
  ·simp only[wat,hop,hvo,hro,ha,sk_false hk hj hg]at hwf
   cases hwf
 ·
  have hwt:wat l as sk j=true:=hW
  have hAf:as.contains j=false:=by
   simp only[wat,Ga,Gq,Gy]at hwt; exact hwt.2.1
  have hfilled:∀ a,mkd as sk a=true→(hcAt h0 ds j)[base+as.idxOf a]? = some .dead→a∉es.getD j []→(hcAt h0 ds (j+1))[base+as.idxOf a]? = some .dead:=by
   intro a ha hd hni
   refine (hfree (j+1) hj a ha fun i hi hwi hin'=>?_).1
   by_cases e:i=j
   ·subst e; exact hni hin'
   ·exact htaken j (show j≤l.length from GL hj) a ha i (by omega) hwi hin' hd
  rcases XK (hk.step j hj) with ⟨_,h1,_⟩ | ⟨_,⟨hg,hv,hh⟩ | ⟨_,hg,⟨hvo,_⟩ | ⟨_,hro,_⟩ | ⟨hvo,hro,hx⟩⟩⟩
  ·rw[hAf]at h1; cases h1
  ·refine Jbq (by rw[← Ya hag]; exact hg) ?_
   have e1:(QJ l as sk base T h0 ds).v j=.tup []:=hv
   rw[← e1]
   refine hok H2 ?_
   have e2:(QJ l as sk base T h0 ds).hc (j+1)=(QJ l as sk base T h0 ds).hc j:=hh
   rw[e2]; exact hF
  ·simp[wat,hop,hvo]at hwt
  ·simp[wat,hop,hro]at hwt
  ·have hgk:=Jat (T:=T2) (by rw[← Ya hag]; exact hg)
   have hF1:=hfill j j hj
   have hx2:xop cl (KG l j).op T2 (X5 (es.getD j []) (Jfg ds j) (hcAt h0 ds j))=some (JbX ds j,hcAt h0 ds (j+1)):=by
    rw[← xop_congr (Jg hag).2]; exact hx
   generalize hHw:X5 (es.getD j []) (Jfg ds j) (hcAt h0 ds j)=Hw at hF1 hx2
   have hcmp:∀ r,Hw[r]? = H2[r]?∨∃ a,a < l.length∧mkd as sk a=true∧X a=true∧base+as.idxOf a=r∧a∉es.getD j []∧(hcAt h0 ds j)[r]? = some .dead∧Hw[r]? = some .dead∧H2[r]? = some ((QJ l as sk base T h0 ds).ob a):=by
    intro r
    by_cases hex:∃ a,a < l.length∧mkd as sk a=true∧X a=true∧base+as.idxOf a=r∧(hcAt h0 ds j)[r]? = some .dead
    ·obtain ⟨a,a1,a2,a3,rfl,a5⟩:=hex
     have e2:=hF.inn a a1 a2 a3 a5
     have e3:(QJ l as sk base T h0 ds).rid a=base+as.idxOf a:=rfl
     rw[e3]at e2
     by_cases hm:a∈es.getD j []
     ·have e1:=hF1.inn a a1 a2 (hin j hj a a2 hm) a5
      rw[e3]at e1
      exact .inl (e1.trans e2.symm)
     ·refine .inr ⟨a,a1,a2,a3,rfl,hm,a5,?_,e2⟩
      rw[hF1.out (base+as.idxOf a) fun b b1 b2 b3 b4 _=>?_]
      ·exact a5
      ·have:b=a:=hinj b a b1 a1 b2 a2 b4
       subst this
       simp only[Ga,Gg]at b3
       exact hm b3.1
    ·refine .inl ?_
     have e2:=hF.out r fun a a1 a2 a3 a4 a5=>hex ⟨a,a1,a2,a3,a4,a5⟩
     rw[e2]
     by_cases hex2:∃ b,b < l.length∧mkd as sk b=true∧((es.getD j []).contains b && (Jfg ds j).any fun e=>e.1 == b)=true∧base+as.idxOf b=r∧(hcAt h0 ds j)[r]? = some .dead
     ·obtain ⟨b,b1,b2,b3,b4,b5⟩:=hex2
      simp only[Ga,Gg]at b3
      exact absurd ⟨b,b1,b2,hX1 b b1 b2 b3.1,b4,b5⟩ hex
     ·exact hF1.out r fun b b1 b2 b3 b4 b5=>hex2 ⟨b,b1,b2,b3,b4,b5⟩
   have hlen:H2.length=Hw.length:=hF.len.trans hF1.len.symm
   by_cases hcall:cop (KG l j).op=true
   ·have hkk:∀ (r:Nat) o,Hw[r]? = some o→H2[r]? = some o∨o=.dead:=fun r o hr=>by
     rcases hcmp r with h | ⟨a,_,_,_,_,_,_,h,_⟩
     ·exact .inl (h▸hr)
     ·rw[h]at hr; cases hr; exact .inr rfl
    have hxx:∀ (r:Nat) s b,H2[r]? = some (.ext s b)→Hw[r]? = some (.ext s b):=fun r s b hr=>by
     rcases hcmp r with h | ⟨a,a1,a2,_,_,_,_,_,h⟩
     ·rw[h]; exact hr
     ·rw[h]at hr
      have:=hobl a a1 a2
      simp only[Gb]at hr
      rw[hr]at this; cases this
    have fin:∀ (f:Nat) (args:List CV),cl f args Hw=some (JbX ds j,hcAt h0 ds (j+1))→FnOk P f∧CallsC P E f args H2 fun v' K'=>v'=JbX ds j∧(QJ l as sk base T h0 ds).Fills X (hcAt h0 ds (j+1)) K':=by
     intro f args hf
     obtain ⟨h1,h2⟩:=hcl _ _ _ _ _ hf
     refine ⟨h1,(h2.more hlen hkk hxx).mono ?_⟩
     rintro v' K' ⟨H',⟨rfl,rfl⟩,hll,hlk,hK1,hK2⟩
     refine ⟨rfl,hlk,fun a a1 a2 a3 a4=>?_,fun r hr=>?_⟩
     ·have e3:(QJ l as sk base T h0 ds).rid a=base+as.idxOf a:=rfl
      rw[e3]at a4 ⊢
      have hm:a∉es.getD j []:=fun hm=>htaken (j+1) hj a a2 j (G8 j) hwt hm a4
      have hdj:(hcAt h0 ds j)[base+as.idxOf a]? = some .dead:=by
       refine (hfree j (show j≤l.length from GL hj) a a2 fun i hi hwi hin'=>?_).1
       exact htaken (j+1) hj a a2 i (by omega) hwi hin' a4
      have e2:=hF.inn a a1 a2 a3 hdj
      rw[e3]at e2
      have e1:Hw[base+as.idxOf a]? = some .dead:=by
       rw[hF1.out (base+as.idxOf a) fun b b1 b2 b3 b4 _=>?_]
       ·exact hdj
       ·have:b=a:=hinj b a b1 a1 b2 a2 b4
        subst this
        simp only[Ga,Gg]at b3
        exact hm b3.1
      have hne:Hw[base+as.idxOf a]?≠H2[base+as.idxOf a]?:=fun e=>by
       rw[e1,e2]at e
       have:=hobl a a1 a2
       rw[← G7 e]at this; cases this
      rw[hK1 _ (Gp.1 e1).1 hne]; exact e2
     ·refine hK2 r fun hlt=>?_
      rcases hcmp r with h | ⟨a,a1,a2,a3,rfl,a5,a6,_,_⟩
      ·exact h
      ·exact absurd (hfilled a a2 a6 a5) (hr a a1 a2 a3 rfl)
    generalize hio:KG l j=io at *
    obtain ⟨d,op,g⟩:=io
    simp only at hcall hx2 hok ⊢
    cases op <;> simp only[cop,Gu]at hcall
    case call f args=>
     obtain ⟨_,hC⟩:=fin f _ hx2
     exact Ja1 hgk hC fun v' K' ⟨h1,h2⟩=>by rw[h1]; exact hok K' h2
    case callv x args=>
     simp only[xop]at hx2
     split at hx2
     ·rename_i f l1 l2 hxe
      obtain ⟨⟨fn,h1,h2,h3⟩,hC⟩:=fin f _ hx2
      exact JbC hgk hxe h1 h2 h3 hC fun v' K' ⟨h4,h5⟩=>by rw[h4]; exact hok K' h5
     ·cases hx2
   ·
    have hsame:H2=Hw:=by
     refine Gz fun r=>?_
     rcases hcmp r with h | ⟨a,a1,a2,a3,_,a5,_⟩
     ·exact h.symm
     ·rcases (hloose a a2).calls j hj hwt with h | h | h
      ·exact absurd h a5
      ·rw[hX2 a a1 a2 h]at a3; cases a3
      ·exact absurd h hcall
    rw[hsame]
    have hlead:=xop_leads (P:=P) (E:=E) (n0:=n0) (N:=N) (Q:=Q) (k:=k) (d:=(KG l j).dst) hcl hgk hx2
    refine hlead l' (hok _ ⟨rfl,fun a a1 a2 a3 a4=>?_,fun _ _=>rfl⟩)
    have e3:(QJ l as sk base T h0 ds).rid a=base+as.idxOf a:=rfl
    rw[e3]at a4
    rcases (hloose a a2).calls j hj hwt with h | h | h
    ·exact absurd a4 (htaken (j+1) hj a a2 j (G8 j) hwt h)
    ·rw[hX2 a a1 a2 h]at a3; cases a3
    ·exact absurd h hcall
theorem ok_pad1 (h:Ok P E n0 N Q k T (H++[.dead])):Ok P E n0 N Q k T H:=by
 intro m w a b cs kr rest hp hd hk
 obtain ⟨hs,ho,he⟩:=Sim.pad (n0:=n0) hp.sim
 exact Reach.step (.refl _ _) he (h _ w a b cs kr rest ⟨hs,Kq ho (J4.refl _) _ _ hp.tmps,by have:=hp.long; simp; omega⟩ (hd.ext he) hk)
theorem ok_padN:∀ (n:Nat) (H:List CObj),Ok P E n0 N Q k T (H++Gn n .dead)→Ok P E n0 N Q k T H
 |0,H,h=>by simpa using h
 |n+1,H,h=>ok_pad1 (ok_padN n (H++[.dead]) (by rw[List.append_assoc]; exact h))
theorem ok_long (h:n0≤H.length→Ok P E n0 N Q k T H):Ok P E n0 N Q k T H:=fun m w a b cs kr rest hp hd hk=>h hp.long m w a b cs kr rest hp hd hk
theorem xdreg_sound (hcl:Jgu P E cl) (hm:P.follows .mixedOrders=true) {T':List CV}{H':List CObj}(h:xdreg cl l es T H=some (T',H')) (hok:Ok P E n0 N Q k T' H'):Ok P E n0 N Q (.code (.dreg l es)::k) T H:=by
 unfold xdreg at h
 split at h
 ·cases h
 ·rename_i ds hds
  split at h
  ·cases h
  ·rename_i hch
   simp only[Gb,Gd]at h
   obtain ⟨rfl,rfl⟩:=h
   simp only[Ga]at hch
   obtain ⟨hst,hch⟩:=hch
   simp only[Gh,Gr]at hch
   refine ok_long fun hl=>?_
   refine ok_padN (XF l (clo es)).length H ?_
   have hk:=dknow hds
   have hg:=dreg_good (P:=P) (E:=E) (N:=N) (Q:=Q) (k:=k) hcl hst hk hch.1 hch.2 hl
   have hst':=hst
   simp only[Jgk,Ga]at hst'
   refine ok_dregF hst'.1 hm hg rfl fun Hf hF=>?_
   have hF2:=Jba (p:=QJ l (XF l (clo es)) (skips l ds T) H.length T (H++Gn (XF l (clo es)).length .dead) ds) (pre:=XF l (clo es)) hg.inj (Jfg ds l.length) (hcAt (H++Gn (XF l (clo es)).length .dead) ds l.length) fun e he=>by
    obtain ⟨a1,a2,a3,a4⟩:=(Ja4 hk l.length (Gf _)).1 e he
    exact ⟨a1,a2,a3,a4⟩
   have:=hF2.congr (Y:=fun _=>true) fun a ha hA=>by
    obtain ⟨e,he,h1⟩:=(Ja4 hk l.length (Gf _)).2 a ha hA
    have h2:(XF l (clo es)).contains a=true:=JdK hA
    rw[h2,Bool.true_and,Gw]
    exact ⟨e,he,by simpa using h1⟩
   rw[hF.unique this]
   exact hok
end
end
section
def BT.All {α:Type}(p:Nat→α→Prop):BT α→Prop
 |.nil=>True
 |.node k a l r=>p k a∧l.All p∧r.All p
theorem BT.All.get {α:Type}{p:Nat→α→Prop}:∀ {t:BT α},t.All p→∀ {f:Nat}{e:α},t.get f=some e→p f e
 |.nil,_,_,_,h=>by simp[BT.get]at h
 |.node k a l r,⟨h1,h2,h3⟩,f,e,h=>by
  simp only[BT.get]at h
  split at h
  ·rename_i hk
   have:=Nat.eq_of_beq_eq_true hk
   subst this
   simp only[Gb]at h
   subst h; exact h1
  ·split at h
   ·exact h2.get h
   ·exact h3.get h
section
variable {P:Program}{tb:BT Ent}
theorem Jdh:∀ (n:Nat) (v:CV) (H:List CObj) (v':CV),xfzV n v H=some v'→v'.closed=true
 |0,_,_,_,h=>by cases h
 |n+1,v,H,v',h=>by
  have e:xfzV (n+1) v H=match v.closed with
   |true=>some v
   |false=>match fzFind H 20 v with
    |some id=>match H[id]? with
     |some (.arr z els)=>match Jo els with
      |true=>xfzV n (frz id z els v) (KA id z els H)
      |false=>none
     |_=>none
    |none=>none:=rfl
  rw[e]at h
  split at h
  ·rename_i hc
   simp only[Gb]at h
   subst h; exact hc
  ·split at h
   ·split at h
    ·split at h
     ·exact Jdh n _ _ _ h
     ·cases h
    ·cases h
   ·cases h
theorem xfzV_ok {E:Env}{f:Nat}{args:List CV}{H0:List CObj}:∀ (n:Nat) (v:CV) (H:List CObj) (v':CV),xfzV n v H=some v'→CallsC P E f args H0 (fun v1 H1=>v1=v∧H1=H)→CallsC P E f args H0 fun v1 _=>v1=v'
 |0,_,_,_,h,_=>by cases h
 |n+1,v,H,v',h,hc=>by
  have e:xfzV (n+1) v H=match v.closed with
   |true=>some v
   |false=>match fzFind H 20 v with
    |some id=>match H[id]? with
     |some (.arr z els)=>match Jo els with
      |true=>xfzV n (frz id z els v) (KA id z els H)
      |false=>none
     |_=>none
    |none=>none:=rfl
  rw[e]at h
  split at h
  ·simp only[Gb]at h
   subst h
   exact hc.mono fun _ _ h=>h.1
  ·split at h
   ·rename_i id _
    split at h
    ·rename_i z els hH
     split at h
     ·rename_i hce
      refine xfzV_ok n _ _ _ h (hc.freeze fun v1 H1 ⟨h1,h2⟩=>?_)
      subst h1; subst h2
      exact ⟨id,z,els,hH,hce,rfl,rfl⟩
     ·cases h
    ·cases h
   ·cases h
theorem xfz_ok {E:Env}{n0:Nat}{N:Fr}{Q:Exit→List CV→List CObj→Prop}{k:List KItem}{f:IArg}:∀ (n:Nat) (T:List CV) (H:List CObj) (T':List CV) (H':List CObj),xfz f n T H=some (T',H')→Ok P E n0 N Q k T' H'→Ok P E n0 N Q k T H
 |0,_,_,_,_,h,_=>by cases h
 |n+1,T,H,T',H',h,hok=>by
  have e:xfz f (n+1) T H=match (JO T f).closed with
   |true=>some (T,H)
   |false=>match fzFind H 20 (JO T f) with
    |some id=>match H[id]? with
     |some (.arr z els)=>match Jo els with
      |true=>xfz f n (J9 id z els T) (KA id z els H)
      |false=>none
     |_=>none
    |none=>none:=rfl
  rw[e]at h
  split at h
  ·simp only[Gb,Gd]at h
   obtain ⟨rfl,rfl⟩:=h
   exact hok
  ·split at h
   ·split at h
    ·rename_i hH
     split at h
     ·rename_i hc
      exact ok_freeze hH hc (xfz_ok n _ _ _ _ h hok)
     ·cases h
    ·cases h
   ·cases h
end
end
end Go.Cm
end
end
