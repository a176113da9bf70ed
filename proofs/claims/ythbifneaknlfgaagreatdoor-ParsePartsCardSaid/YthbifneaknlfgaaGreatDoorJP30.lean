/-
  A part of the proof. Conditions: none.
-/
import Derived.Test.YthbifneaknlfgaaGreatDoorJA3
import Derived.Test.YthbifneaknlfgaaGreatDoorJP7
import Derived.Test.YthbifneaknlfgaaGreatDoorJP12
set_option linter.unusedSimpArgs false
set_option linter.unusedVariables false
open Nat renaming le_refl→Gf,zero_add→Gj,lt_or_ge→Gt,min_le_left→Gz,min_eq_left→GA,le_of_lt→GD
open List renaming getD_eq_getElem?_getD→Ga,getElem?_eq_getElem→Gd,length_cons→Gb,length_nil→Gc,getElem_mem→Gh,take_length→Gl,map_cons→Gi,getElem?_append_right→Gu,drop_zero→Gm,cons_append→Gp,nil_append→Gq,map_nil→Gn,getElem?_map→Gv,map_append→Gw,length_map→Gx,getElem?_eq_some_iff→GG,getElem?_append_left→GH,drop_eq_nil_of_le→GI,mem_of_mem_take→GJ,mem_of_mem_drop→GK,mem_of_getElem?→GL,take_succ_cons→GM,length_take→GN,length_drop→GQ,all_eq_true→GR,take_zero→GU,mem_range→GV,length→GX
open Bool renaming and_eq_true→Gg,false_and→Gr,true_and→Gs,and_false→GY
open Int renaming toNat_natCast→Gy,zero_sub→GZ
noncomputable section
section
namespace Go.Cm
section
def flat (o:CObj):Prop:=o=.dead∨∃ z els,o=.arr z els∧Jr els=true
section
variable {P:Program}{E:Env}{H:List CObj}
theorem app_get {α:Type}{a b:List α}{k:Nat}{x:α}(h:(a++b)[k]? = some x):(k < a.length∧a[k]? = some x)∨∃ j,k=a.length+j∧b[j]? = some x:=by
 rcases Gt k a.length with hlt | hge
 ·rw[GH hlt]at h; exact .inl ⟨hlt,h⟩
 ·rw[Gu hge]at h; exact .inr ⟨k-a.length,by omega,h⟩
theorem app_get2 {α:Type}{a b:List α}{j:Nat}:(a++b)[a.length+j]? = b[j]?:=by
 rw[Gu (by omega)]; congr 1; omega
theorem CallsC.frameG {f:Nat}{args:List CV}{G:List CObj}{mk:Nat→CV}(h:CallsC P Env.none f args [] fun v H'=>v=mk 0∧H'=G) (ha:Js args=true) (hG:∀ o∈G,flat o)
  (hmk:∀ (n:Nat) (own own':List Own) imm r,(∀ (k:Nat) x,own[k]? = some x→own'[n+k]? = some x)→rel own imm (mk 0) r→rel own' imm (mk n) r):CallsC P E f args H fun v H'=>v=mk H.length∧H'=H++G:=by
 intro m w vs hs hv
 refine (h _ w vs hs.nothing (J7 _ _ ha hv)).mono ?_
 rintro e w' ⟨r,m',v,H',rfl,hext,hs',hrel,rfl,rfl⟩
 obtain ⟨h1,h2⟩:=hs.back hext hs'
 have hno:∀ B,¬ owned { own:=[],imm:=m.imm,ext:=fun _=>False } [] B:=by
  rintro B (h | ⟨k,o,x,hk,_⟩)
  ·exact h
  ·simp at hk
 have hlen:m.own.length=H.length:=hs.len
 have hold:∀ (k:Nat) o x,H[k]? = some o→o.alive=true→m.own[k]? = some x→x.B < w.heap.size:=fun k o x hk hal hx=>Qx hs hk hal hx
 have hnewB:∀ (k:Nat) o x,H'[k]? = some o→o.alive=true→m'.own[k]? = some x→w.heap.size≤x.B:=fun k o x hk hal hx=>
  (hext.newOwn x.B (.inr ⟨k,o,x,hk,hal,hx,rfl⟩)).resolve_left (hno _)
 have two:∀ (k:Nat) o x,(H++H')[k]? = some o→(m.own++m'.own)[k]? = some x→(k < H.length∧H[k]? = some o∧m.own[k]? = some x)∨∃ j,k=H.length+j∧H'[j]? = some o∧m'.own[j]? = some x:=by
  intro k o x hk hx
  rcases app_get hk with ⟨hlt,hk2⟩ | ⟨j,rfl,hk2⟩
  ·rw[GH (by omega)]at hx; exact .inl ⟨hlt,hk2,hx⟩
  ·rw[← hlen,app_get2]at hx; exact .inr ⟨j,rfl,hk2,hx⟩
 have hle:=J9.append m.own m'.own
 refine ⟨r,{ m with own:=m.own++m'.own,imm:=m'.imm },mk H.length,H++H',rfl,?_,?_,?_,rfl,rfl⟩
 ·have hE:=h2 H.length
  refine ⟨hE.size,hE.frame,hE.imm,?_,hE.newImm,fun k x _ hx=>hle _ _ hx,fun h=>by simp; omega,hE.same⟩
  rintro B (hB | ⟨k,o,x,hk,hal,hx,rfl⟩)
  ·exact .inl (.inl hB)
  ·rcases two k o x hk hx with ⟨_,hk,hx⟩ | ⟨j,_,hk,hx⟩
   ·exact .inl (.inr ⟨k,o,x,hk,hal,hx,rfl⟩)
   ·exact .inr (hnewB j o x hk hal hx)
 ·refine ⟨by simp[hs.len,hs'.len],fun k o x hk hx=>?_,h1.imm,h1.one,fun k k' o o' x x' hk hk' ha ha' hx hx' hB=>?_,fun k o x hk hal hx=>?_,fun k s b hk=>?_,fun k o x hk hal hx=>?_,h1.extlt,h1.gl⟩
  ·rcases two k o x hk hx with ⟨_,hk,hx⟩ | ⟨j,_,hk,hx⟩
   ·exact JW hle (JY.refl _) (fun _=>rfl) (h1.obj k o x hk hx)
   ·have ho:=hs'.obj j o x hk hx
    rcases hG o (GL hk) with rfl | ⟨z,els,rfl,hc⟩
    ·trivial
    ·obtain ⟨hz,c,elem,g1,g2,g3,g4,g5⟩:=ho
     exact ⟨hz,c,elem,g1,g2,g3,fun j e he=>⟨(g4 j e he).1,fun t c hc2=>let ⟨r,q1,q2⟩:=(g4 j e he).2 t c hc2; ⟨r,q1,KL c r (Yo (Yp hc _ _ he) _ _ hc2) q2⟩⟩,g5⟩
  ·rcases two k o x hk hx with ⟨_,hk,hx⟩ | ⟨j,rfl,hk,hx⟩ <;> rcases two k' o' x' hk' hx' with ⟨_,hk',hx'⟩ | ⟨j',rfl,hk',hx'⟩
   ·exact h1.sep k k' o o' x x' hk hk' ha ha' hx hx' hB
   ·have a1:=hold k o x hk ha hx
    have a2:=hnewB j' o' x' hk' ha' hx'
    omega
   ·have a1:=hold k' o' x' hk' ha' hx'
    have a2:=hnewB j o x hk ha hx
    omega
   ·rw[hs'.sep j j' o o' x x' hk hk' ha ha' hx hx' hB]
  ·rcases two k o x hk hx with ⟨_,hk,hx⟩ | ⟨j,rfl,hk,hx⟩
   ·exact h1.ro k o x hk hal hx
   ·exact hs'.ro j o x hk hal hx
  ·rcases app_get hk with ⟨_,hk2⟩ | ⟨j,rfl,hk2⟩
   ·exact h1.ext k s b hk2
   ·rcases hG _ (GL hk2) with h | ⟨z,els,h,_⟩ <;> cases h
  ·rcases two k o x hk hx with ⟨_,hk,hx⟩ | ⟨j,rfl,hk,hx⟩
   ·exact h1.extsep k o x hk hal hx
   ·intro hB
    have a1:=hnewB j o x hk hal hx
    have a2:=hs.extlt x.B hB
    omega
 ·exact hmk H.length m'.own (m.own++m'.own) m'.imm r (fun k x hk=>by rw[← hlen,app_get2]; exact hk) hrel
theorem QO {id z:Nat}{e:List (List CV)}:∀ {els:List (List CV)},Jr els=true→els.map (Kt id z e)=els
 |[],_=>rfl
 |x::xs,h=>by
  simp only[Jr,Gg]at h
  rw[Gi,QZ _ h.1,QO h.2]
theorem Jbs:∀ {a b:List (List CV)},Jr (a++b)=true→Jr a=true
 |[],_,_=>rfl
 |x::xs,b,h=>by
  simp only[Gp,Jr,Gg]at h ⊢
  exact ⟨h.1,Jbs h.2⟩
theorem Fn.args {f:Nat}{args args':List CV}{v:CV}(h:Fn P f args v) (hw:wks args' args):Fn P f args' v:=fun E H m w vs hs hv=>h E H m w vs hs (Ja8 hw hv)
theorem wk_nil0 {z:Nat}:wk .nils (.rslc z [] (some 0)):=by
 intro own imm v h
 simp only[rel]at h ⊢
 exact .inl ⟨.inr trivial,trivial,none,h⟩
theorem wk_slc0 {z i o:Nat}:wk (.slc i o 0 (some 0)) (.rslc z [] (some 0)):=by
 intro own imm v h
 simp only[rel]at h ⊢
 obtain ⟨x,a,c,_,hv,_,hc,_⟩:=h
 have:=hc 0 rfl
 subst this
 exact .inl ⟨.inr trivial,trivial,some a,hv⟩
theorem JdW {els:List (List CV)}(i n:Nat) {own own':List Own}{imm:Nat→Nat→Option Value}{r:Value}(ho:∀ (k:Nat) x,own[k]? = some x→own'[n+k]? = some x) (h:rel own imm (KP i els) r):rel own' imm (KP (n+i) els) r:=by
 cases els with
 |nil=>exact h
 |cons e l=>
  simp only[KP,rel]at h ⊢
  obtain ⟨x,a,c,hx,g⟩:=h
  exact ⟨x,a,c,ho _ _ hx,g⟩
theorem rowO_flat {z:Nat}{els:List (List CV)}(h:Jr els=true):flat (Xb z els):=by
 cases els with
 |nil=>exact .inl rfl
 |cons e l=>exact .inr ⟨_,_,rfl,h⟩
theorem rowV_one {id:Nat}{els:List (List CV)}:(KP id els).oneCell=true:=by cases els <;> rfl
theorem rowV_cells {id:Nat}{els:List (List CV)}:(KP id els).cells=some [KP id els]:=by cases els <;> rfl
attribute [go_sem ↓] rowV_one
theorem frz_rowV {id z j:Nat}{e els:List (List CV)}(h:j≠id):frz id z e (KP j els)=KP j els:=by
 cases els with
 |nil=>rfl
 |cons x l=>simp only[KP,frz]; rw[if_neg h]
theorem frzO_rowO {id z y:Nat}{e els:List (List CV)}(h:Jr els=true):Qo id z e (Xb y els)=Xb y els:=by
 cases els with
 |nil=>rfl
 |cons x l=>simp only[Xb,Qo]; rw[QO h]
theorem fn_of_two {f:Nat}{args:List CV}{i j z y:Nat}{Z R:List (List CV)}(h:CallsC P Env.none f args [] fun v H'=>∃ cap,v=.agg [KP i Z,.slc j 0 R.length cap]∧H'[i]? = some (Xb z Z)∧H'[j]? = some (.arr y R)) (hij:i≠j) (ha:Js args=true) (hZ:Jr Z=true) (hR:Jr R=true):Fn P f args (.agg [.rslc z Z none,.rslc y R none]):=by
 have h1:=h.freeze (R':=fun v H'=>v=.agg [KP i Z,.rslc y R none]∧H'[i]? = some (Xb z Z)) fun v H' ⟨cap,hv,g1,g2⟩=>⟨j,y,R,g2,hR,by
  rw[hv]
  simp only[frz,Kt,frz_rowV hij,if_true,Gj,Gf,Gm,Gl],by
  simp only[KR]
  rw[List.getElem?_set_ne hij.symm,Gv,g1,Option.map_some,frzO_rowO hZ]⟩
 refine Qv (h1.mono fun v H' ⟨hv,g1⟩=>?_) ha rfl
 subst hv
 cases Z with
 |nil=>exact .inl (XE ⟨wk.nils,wk.refl _,trivial⟩)
 |cons e l=>exact .inr ⟨i,z,e::l,g1,hZ,by
   simp only[KP,frz,Kt,if_true,Gj,Gb,Gf,Gm]
   rw[show l.length+1=(e::l).length from rfl,Gl]
   exact wk.refl _⟩
inductive Frzs (v0:CV):CV→List CObj→Prop
 |done {v:CV} {H:List CObj}:wk v v0→Frzs v0 v H
 |step {v:CV} {H:List CObj} (id z:Nat) (els:List (List CV)):H[id]? = some (.arr z els)→Jr els=true→Frzs v0 (frz id z els v) (KR id z els H)→Frzs v0 v H
theorem Jee {f:Nat}{args:List CV}{v0:CV}(h:CallsC P Env.none f args [] fun v H'=>Frzs v0 v H') (ha:Js args=true) (hv:v0.closed=true):Fn P f args v0:=by
 refine fn_of ?_ ha hv
 intro m w vs hs hvs
 refine (h m w vs hs hvs).mono ?_
 rintro e w' ⟨r,m',v,H',h1,h2,h3,h4,g⟩
 subst h1
 induction g generalizing m' with
 |done hw=>exact ⟨r,m',v0,_,rfl,h2,h3,hw _ _ _ h4,rfl⟩
 |step id z els g1 g2 _ ih=>
  obtain ⟨imm',hs',he,hf⟩:=Sim.freeze (n0:=([]:List CObj).length) h3 g1 g2
  exact ih _ (h2.trans he) hs' (hf _ _ h4)
def FnRow (P:Program) (f:Nat) (args:List CV) (z:Nat) (els:List (List CV)):Prop:=∀ (E:Env) (H:List CObj),CallsC P E f args H fun v H'=>v=KP H.length els∧H'=H++[Xb z els]
theorem fnRow_of {f:Nat}{args:List CV}{z:Nat}{els:List (List CV)}(h:CallsC P Env.none f args [] fun v H'=>∃ id,v=KP id els∧H'[id]? = some (Xb z els)) (ha:Js args=true) (hc:Jr els=true):FnRow P f args z els:=fun E H=>by
 refine CallsC.frameG (mk:=fun n=>KP n els) (G:=[Xb z els]) (h.ren fun v H' ⟨id,hv,hH⟩=>⟨[id],?_,?_,?_⟩) ha (fun o ho=>by simp only[List.mem_singleton]at ho; rw[ho]; exact rowO_flat hc) fun n own own' imm r ho h=>JdW 0 n ho h
 ·have:=(GG.1 hH).1
  simp[JdG,this]
 ·rw[hv]; exact Qy (by simp[ren,JH])
 ·simp only[QH,Gi,Gn,Ga,hH,Option.getD_some]
  cases els with
  |nil=>rfl
  |cons e l=>
   have:=Je (ρ:=[id]) hc
   simp only[Xb,JB,this]
theorem FnRow.fn {f:Nat}{args:List CV}{z:Nat}{els:List (List CV)}(h:FnRow P f args z els) (ha:Js args=true) (hc:Jr els=true):Fn P f args (.rslc z els none):=
 fn_of_rowV ((h Env.none []).mono fun v H' ⟨h1,h2⟩=>⟨0,h1,by rw[h2]; rfl⟩) ha hc
end
section
variable {P:Program}{E:Env}{n0:Nat}{N:Fr}{Q:Exit→List CV→List CObj→Prop}{H:List CObj}{T:List CV}{k:List KItem}{l:List IOper}{es:List (List Nat)}
theorem vr_row {d:Option Nat}{g:Option (Nat×Bool)}{f:Nat}{xa:List IArg}{l:List IOper}{z:Nat}{els:List (List CV)}(hg:GOk T g) (hcall:FnRow P f (xa.map (JM T)) z els) (h:Kv P E n0 N Q (.ops l::k) (put T d (KP H.length els)) (H++[Xb z els])):Ok P E n0 N Q (.ops (⟨d,.call f xa,g⟩::l)::k) T H:=
 vr_call hg (hcall E H) fun v H' ⟨h1,h2⟩=>by rw[h1,h2]; exact h
theorem Xg {x:ICode}{σ:Type}(I:σ→Prop) (inv:σ→List CV) (hp:σ→List CObj) (μ:σ→Nat) (s0:σ) (h0:I s0) (hT:∀ Q,leads P E n0 N Q (inv s0) (hp s0) T H)
  (hb:∀ s,I s→Kv P E n0 N (JbY P E n0 N Q k fun T' H'=>∃ s',I s'∧μ s' < μ s∧∀ Q,leads P E n0 N Q (inv s') (hp s') T' H') [.code x] (inv s) (hp s)):Ok P E n0 N Q (.code (.loop x)::k) T H:=by
 refine JeT (I:=fun s T H=>I s∧∀ Q,leads P E n0 N Q (inv s) (hp s) T H) μ s0 ⟨h0,hT⟩ ?_
 rintro s T H ⟨hs,hl⟩
 refine hl _ _ ?_
 exact (JJ _ _ _ (hb s hs)).mono fun e T' H' hq=>Yz (fun T2 H2 ⟨s',hs',hlt,hl'⟩=>⟨s',⟨hs',hl'⟩,hlt⟩) hq
def Jbw (P:Program) (E:Env) (n0:Nat) (N:Fr) (Q:Exit→List CV→List CObj→Prop) (k:List KItem) (l:List IOper) (es:List (List Nat)) (T:List CV) (H:List CObj):Prop:=∀ is,Sched l.length es (fun _=>false) is→Ok P E n0 N Q (.ops (is.map (Ki l))::k) T H
theorem vr_draw (hm:P.follows .mixedOrders=true) (h:Jbw P E n0 N Q k l es T H):Ok P E n0 N Q (.code (.dreg l es)::k) T H:=ok_draw hm h
theorem KW (i j:Nat) (hb:(!(i == j) && decide (i < es.length) && decide (j < es.length))=true) (h1:Jbw P E n0 N Q k l (addE es j i) T H) (h2:Jbw P E n0 N Q k l (addE es i j) T H):Jbw P E n0 N Q k l es T H:=by
 intro is hs
 simp only[Gg,Bool.not_eq_true',beq_eq_false_iff_ne,decide_eq_true_eq]at hb
 rcases JdU hb.1.1 hb.1.2 hb.2 hs rfl rfl with h | h
 ·exact h1 is h
 ·exact h2 is h
theorem Km (bs:List Bool) (T':List CV) (H':List CObj) (hord:(l.length == bs.length && (Jck l.length es (clo es) && Q5 l (clo es) (bs.map Xe)))=true) (hfin:Ok P E n0 N Q k T' H') (h:vdk P E (leads P E n0 N Q T' H') l bs T H):Jbw P E n0 N Q k l es T H:=
 fun _ hs=>JcR hord h hfin hs
def pm (p:List Nat) (a:Nat):Nat:=p.getD a a
theorem pm_out {p:List Nat}{a:Nat}(h:p.length≤a):pm p a=a:=by
 unfold pm; rw[Ga,List.getElem?_eq_none h]; rfl
def permOk (n:Nat) (p q:List Nat):Bool:=p.length == n && q.length == n && (List.range n).all fun a=>decide (pm p a < n) && decide (pm q a < n) && pm q (pm p a) == a && pm p (pm q a) == a
theorem sched_perm {n:Nat}{p q:List Nat}(hb:permOk n p q=true) {es2:List (List Nat)}(he:∀ a,a < n→es2.getD a []=(es.getD (pm p a) []).map (pm q)) {S:Nat→Bool}{is:List Nat}(h:Sched n es S is):Sched n es2 (fun a=>S (pm p a)) (is.map (pm q)):=by
 simp only[permOk,Gg,beq_iff_eq,GR,GV,decide_eq_true_eq]at hb
 obtain ⟨⟨hpl,hql⟩,hall⟩:=hb
 have hqp:∀ a,pm p (pm q a)=a:=fun a=>by
  rcases Gt a n with h | h
  ·exact (hall a h).2
  ·rw[pm_out (p:=q) (by omega),pm_out (by omega)]
 have hpq:∀ a,pm q (pm p a)=a:=fun a=>by
  rcases Gt a n with h | h
  ·exact (hall a h).1.2
  ·rw[pm_out (p:=p) (by omega),pm_out (by omega)]
 induction h with
 |nil hn=>
  refine .nil fun a ha hS=>?_
  obtain ⟨e,h1,h2⟩:=hn _ (hall a ha).1.1.1 hS
  exact ⟨pm q e,by rw[he a ha]; exact List.mem_map_of_mem h1,by rw[hqp]; exact h2⟩
 |cons ha hS hr _ ih=>
  rename_i S a is _
  refine .cons (hall a ha).1.1.2 (by rw[hqp]; exact hS) (fun e hm=>?_) ?_
  ·rw[he _ (hall a ha).1.1.2,hqp]at hm
   obtain ⟨e',h1,rfl⟩:=List.mem_map.1 hm
   rw[hqp]; exact hr e' h1
  ·have e:(fun b=>S (pm p b) || b == pm q a)=fun b=>S (pm p b) || pm p b == a:=by
    funext b
    congr 1
    by_cases h:b=pm q a
    ·subst h; rw[hqp]; simp
    ·have:pm p b≠a:=fun hh=>h (by rw[← hh,hpq])
     rw[beq_false_of_ne h,beq_false_of_ne this]
   rw[e]; exact ih
theorem sched_mem {n : Nat} {S : Nat → Bool} {is : List Nat} (h : Sched n es S is) : ∀ a ∈ is, a < n := by
  induction h with
  | nil _ => intro a ha; cases ha
  | cons h _ _ _ ih => intro a ha; rcases List.mem_cons.1 ha with h' | h'
                       · subst h'; exact h
                       · exact ih a h'
def prl (p:List Nat) (l:List IOper):List IOper:=p.map fun a=>Ki l a
def pre (p q:List Nat) (es:List (List Nat)):List (List Nat):=p.map fun a=>(es.getD a []).map (pm q)
theorem KV (p q:List Nat) (hb:permOk l.length p q=true) (h:Jbw P E n0 N Q k (prl p l) (pre p q es) T H):Jbw P E n0 N Q k l es T H:=by
 intro is hs
 have hb2:=hb
 simp only[permOk,Gg,beq_iff_eq,GR,GV,decide_eq_true_eq]at hb2
 obtain ⟨⟨hpl,hql⟩,hall⟩:=hb2
 have hlen:(prl p l).length=l.length:=by rw[prl,Gx]; exact hpl
 have hs2:=sched_perm hb (es2:=pre p q es) (fun a ha=>by
  unfold pre pm
  rw[Ga,Gv,Gd (by omega)]
  simp[Ga,Gd (show a < p.length by omega)]) hs
 rw[← hlen]at hs2
 have:=h _ hs2
 have e:(is.map (pm q)).map (Ki (prl p l))=is.map (Ki l):=by
  rw[List.map_map]
  refine List.map_congr_left fun a ha=>?_
  have hal:=sched_mem hs a ha
  have h1:=(hall a hal).1.1.2
  have h2:=(hall a hal).2
  simp only[Function.comp]
  unfold prl Ki
  rw[Ga,Gv,Gd (by omega)]
  simp only[Option.map_some,Option.getD_some]
  have e2:p[pm q a]'(by omega)=a:=by
   unfold pm at h2 ⊢
   rw[Ga,Gd (by simpa [pm]using (by omega:pm q a < p.length))]at h2
   exact h2
  rw[e2]
 rw[e]at this
 exact this
end
end
end Go.Cm
end
section
set_option maxRecDepth 100000
set_option maxHeartbeats 4000000
open Go.Proofs
namespace Go.Cm
theorem rowN {l:List Nd}{i:Nat}(h:i < l.length):l.getD i default=l[i]:=by rw[Ga,Gd h]; rfl
theorem cloneR {l:List Int}(hl:l.length≤100000) (hne:l≠[]):FnRow Tryz.prog 67 [.rslc 1 (iz l) none] 1 (iz l):=by
 refine fnRow_of (QW c67_ok fun N=>?_) rfl (JX l)
 obtain ⟨x,xs,hR⟩:∃ x xs,iz l=x::xs:=by
  cases l with
  |nil=>exact absurd rfl hne
  |cons a l=>exact ⟨_,_,rfl⟩
 have hlen:xs.length+1=l.length:=by rw[← Jn (l:=l),hR]; rfl
 rw[hR]
 simp -implicitDefEqProofs only[c67,go_sem,Jo]
 refine ⟨by omega,1,by rw[rowV_cons],rfl⟩
theorem cloneE:Fn Tryz.prog 67 [.rslc 1 [] none] (.rslc 1 [] none):=by
 refine Qv ?_ rfl rfl
 refine QW c67_ok fun N=>?_
 simp -implicitDefEqProofs only[c67,go_sem]
 refine ok_eqnil rfl fun b=>?_
 cases b with
 |true=>
  simp -implicitDefEqProofs only[go_sem]
  exact .inl wk.nils
 |false=>
  simp -implicitDefEqProofs only[go_sem]
  exact .inr ⟨0,1,[],rfl,rfl,by simp[frz]; exact wk.refl _⟩
theorem Jfn:Fn Tryz.prog 67 [.rslc 1 [] none] (.rslc 1 [] (some 0)):=by
 refine Qv ?_ rfl rfl
 refine QW c67_ok fun N=>?_
 simp -implicitDefEqProofs only[c67,go_sem]
 refine ok_eqnil rfl fun b=>?_
 cases b with
 |true=>
  simp -implicitDefEqProofs only[go_sem]
  exact .inl wk_nil0
 |false=>
  simp -implicitDefEqProofs only[go_sem]
  exact .inl wk_slc0
theorem equalI (a b:List Int) (ha:a.length≤100000):Fn Tryz.prog 69 [.rslc 1 (iz a) none,.rslc 1 (iz b) none] (.bool (a == b)):=by
 have hal:(iz a).length=a.length:=Jn
 have hbl:(iz b).length=b.length:=Jn
 refine Jc c69_ok rfl rfl fun N=>?_
 by_cases hl:a.length=b.length
 ·have e1:((a.length:Int) != (b.length:Int))=false:=by simp[hl]
  simp -implicitDefEqProofs only[c69,go_sem,hal,hbl,e1]
  refine JQ (I:=fun i:Nat=>i≤a.length∧a.take i=b.take i) (inv:=fun i=>gp [(0,.rslc 1 (iz a) none),(0,.rslc 1 (iz b) none),(10,.int .i64 (a.length:Int)),(0,.int .i64 (i:Int))] 12) (hp:=fun _=>[]) (μ:=fun i=>a.length-i) 0 ⟨by omega,by simp⟩ ?_ rfl ?_
  ·simp[forget,gp,hal]
  ·rintro i ⟨hi,hinv⟩
   by_cases hlt:i < a.length
   ·have d1:((i:Int) < (a.length:Int))=True:=eq_true (by omega)
    have hga:=Kb hlt
    have hgb:=Kb (l:=b) (i:=i) (by omega)
    have hta:=Kw (d:=0) hlt
    have htb:=Kw (l:=b) (i:=i) (d:=0) (by omega)
    simp -implicitDefEqProofs only[go_sem,hal,hbl,d1]
    refine JS JF (by decide) ?_
    simp -implicitDefEqProofs only[go_sem,hal,hbl,hga,hgb]
    refine ⟨by omega,by omega,?_⟩
    by_cases he:a.getD i 0=b.getD i 0
    ·have e2:(a.getD i 0 != b.getD i 0)=false:=by rw[he]; simp
     simp -implicitDefEqProofs only[go_sem,e2]
     refine ⟨Jm (by omega) (by omega),i+1,⟨by omega,by rw[hta,htb,hinv,he]⟩,by omega,?_⟩
     simp[forget,hal]
    ·have e2:(a.getD i 0 != b.getD i 0)=true:=by simpa using he
     have hne:(a == b)=false:=by
      rw[beq_eq_false_iff_ne]; rintro rfl; exact he rfl
     simp -implicitDefEqProofs only[go_sem,e2,hne]
   ·have d1:((i:Int) < (a.length:Int))=False:=eq_false (by omega)
    have he:(a == b)=true:=by
     rw[beq_iff_eq]
     have h1:i=a.length:=by omega
     rw[h1,Gl,List.take_of_length_le (by omega)]at hinv
     exact hinv
    simp -implicitDefEqProofs only[go_sem,hal,hbl,d1,he]
 ·have e1:((a.length:Int) != (b.length:Int))=true:=by simp; omega
  have hne:(a == b)=false:=by
   rw[beq_eq_false_iff_ne]; rintro rfl; exact hl rfl
  simp -implicitDefEqProofs only[c69,go_sem,hal,hbl,e1,hne]
theorem parseSame1 (x y:Nd) (hx:x.kids.length≤1000):Fn Tryz.prog 68 [.agg x.cv,.agg y.cv] (.bool (Jce x y)):=by
 have hE:=equalI x.kids y.kids (by omega)
 obtain ⟨k1,t1,n1,ks1,p1⟩:=x
 obtain ⟨k2,t2,n2,ks2,p2⟩:=y
 dsimp only at hE
 have c1:((k1:Int) == (k2:Int))=(k1 == k2):=by rw[Bool.eq_iff_iff,beq_iff_eq,beq_iff_eq]; omega
 refine Jc c68_ok rfl rfl fun N=>?_
 unfold Jce
 dsimp only
 cases b1:k1 == k2 <;> rw[b1]at c1
 ·simp -implicitDefEqProofs only[c68,go_sem,Nd.cv,c1,Gr]
 cases b2:t1 == t2
 ·simp -implicitDefEqProofs only[c68,go_sem,Nd.cv,c1,b2,Gr,GY,Gs]
 cases b3:n1 == n2
 ·simp -implicitDefEqProofs only[c68,go_sem,Nd.cv,c1,b2,b3,Gr,GY,Gs]
 simp -implicitDefEqProofs only[c68,go_sem,Nd.cv,c1,b2,b3,Gs]
 refine JO (gok rfl) hE ?_
 simp -implicitDefEqProofs only[go_sem]
theorem equalF (a b:List Nd) (ha:∀ x∈a,x.Fit) (hal:a.length≤1400):Fn Tryz.prog 70 [.rslc 5 (ndz a) none,.rslc 5 (ndz b) none,.fn 68 [] []] (.bool (QT a b)):=by
 refine Jc c70_ok rfl rfl fun N=>?_
 by_cases hl:a.length=b.length
 ·have e1:((a.length:Int) != (b.length:Int))=false:=by simp[hl]
  simp -implicitDefEqProofs only[c70,go_sem,Ja,e1]
  refine KG (I:=fun i:Nat=>i≤a.length∧QT a b=QT (a.drop i) (b.drop i)) (inv:=fun i=>gp [(1,.rslc 5 (ndz b) none),(0,.fn 68 [] []),(12,.rslc 5 (ndz a) none),(0,.int .i64 (a.length:Int)),(0,.int .i64 (i:Int))] 14) (hp:=fun _=>[]) (μ:=fun i=>a.length-i) 0 [] ⟨by omega,rfl⟩ rfl ?_ rfl ?_
  ·simp[forget,gp,J8,ren,JH,Ja]
  ·rintro i ⟨hi,hinv⟩
   by_cases hlt:i < a.length
   ·have d1:((i:Int) < (a.length:Int))=True:=eq_true (by omega)
    have hga:=Ka hlt
    have hgb:=Ka (l:=b) (i:=i) (by omega)
    have hx:=ha _ (Gh hlt)
    rw[← rowN hlt]at hx
    rw[JdV hlt (by omega)]at hinv
    generalize a.getD i default=x at hga hx hinv
    generalize b.getD i default=y at hgb hinv
    simp -implicitDefEqProofs only[go_sem,Ja,d1,hga,hgb,Nd.cv,splice]
    refine ⟨by omega,by omega,?_⟩
    have hxk:=hx.kidn
    refine JaE (.inl rfl) rfl c68_ok nm (parseSame1 x y (by omega)) ?_
    cases hs:Jce x y with
    |true=>
     rw[hs,Gs]at hinv
     simp -implicitDefEqProofs only[go_sem]
     refine ⟨Jm (by omega) (by omega),i+1,[],⟨by omega,hinv⟩,by omega,rfl,rfl,?_⟩
     simp[forget,J8,ren]
    |false=>
     rw[hs,Gr]at hinv
     simp -implicitDefEqProofs only[go_sem,hinv]
   ·have d1:((i:Int) < (a.length:Int))=False:=eq_false (by omega)
    rw[GI (by omega),GI (by omega)]at hinv
    simp -implicitDefEqProofs only[go_sem,Ja,d1,hinv]
    rfl
 ·have e1:((a.length:Int) != (b.length:Int))=true:=by simp; omega
  have hne:QT a b=false:=by
   cases h:QT a b with
   |false=>rfl
   |true=>exact absurd (JcT h) hl
  simp -implicitDefEqProofs only[c70,go_sem,Ja,e1,hne]
theorem moved (l:List Nd) (hl:l.length≤1400) (hf:∀ x∈l,x.Fit) (d:Int) (hk:∀ x∈l,∀ k∈x.kids,InR .i64 (k+d)):FnRow Tryz.prog 66 [.rslc 5 (ndz l) none,.int .i64 d] 5 (ndz (l.map (mvN d))):=by
 refine fnRow_of (QW c66_ok fun N=>?_) rfl (JK _)
 simp -implicitDefEqProofs only[c66,go_sem,Ja]
 refine Ja9 ?_
 simp only[go_sem,Gq]
 refine Xg (I:=fun i:Nat=>i≤l.length) (inv:=fun i=>gp [(1,.int .i64 d),(2,KP 0 (ndz ((l.take i).map (mvN d)))),(3,.rslc 5 (ndz l) none),(0,.int .i64 (l.length:Int)),(0,.int .i64 (i:Int))] 28) (hp:=fun i=>[Xb 5 (ndz ((l.take i).map (mvN d)))]) (μ:=fun i=>l.length-i) 0 (by omega) (fun Q=>JI [0] rfl ?_ rfl) ?_
 ·simp[forget,gp,J8,ren,JH,ndz,KP]
 ·intro i hi
  by_cases hlt:i < l.length
  ·have d1:((i:Int) < (l.length:Int))=True:=eq_true (by omega)
   have hg:=Ka hlt
   have hx:=hf _ (Gh hlt)
   have hkx:=hk _ (Gh hlt)
   rw[← rowN hlt]at hx hkx
   have hts:ndz ((l.take (i+1)).map (mvN d))=ndz ((l.take i).map (mvN d))++[(mvN d (l.getD i default)).cv]:=by
    rw[Kw (d:=default) hlt]; simp[ndz]
   have hcl:=JK ((l.take (i+1)).map (mvN d))
   have hpl:(ndz ((l.take i).map (mvN d))).length=i:=by rw[Ja,Gx,GN]; omega
   have hkn:=hx.kidn
   rw[hts]at hcl
   generalize l.getD i default=x at hg hx hkx hts hcl hkn
   generalize hZ:ndz ((l.take i).map (mvN d))=Z at hts hpl hcl ⊢
   obtain ⟨k,text,n,kids,pl⟩:=x
   dsimp only at hkx hkn
   simp -implicitDefEqProofs only[go_sem,Ja,d1,hg,Nd.cv,splice]
   refine ⟨by omega,?_⟩
   have fin:∀ x':Nd,mvN d ⟨k,text,n,kids,pl⟩=x'→ndz ((l.take (i+1)).map (mvN d))=Z++[x'.cv]:=fun x' e=>by rw[← e]; exact hts
   by_cases hne:kids=[]
   ·subst hne
    refine JZ cloneE ?_
    simp -implicitDefEqProofs only[go_sem,splice,Gc]
    refine Xg (I:=fun _:Unit=>True) (inv:=fun _=>gp [(1,.int .i64 d),(2,KP 0 Z),(1,.ptr 1 0 0),(1,.rslc 5 (ndz l) none),(0,.int .i64 (l.length:Int)),(0,.int .i64 (i:Int)),(9,.int .i64 0),(0,.int .i64 0)] 17) (hp:=fun _=>[Xb 5 Z,.arr 5 [[.int .u8 k,S text,.int .i64 n,.rslc 1 [] none,.int .i64 pl]]]) (μ:=fun _=>0) () trivial (fun Q=>Kr ?_) ?_
    ·simp[forget,gp]
    ·intro _ _
     simp -implicitDefEqProofs only[go_sem,splice,Jo,Int.lt_irrefl,Gb,Gc,hpl]
     refine ⟨by omega,Jm (by omega) (by omega),i+1,by omega,by omega,fun Q=>JI [3] rfl ?_ ?_⟩
     ·rw[fin ⟨k,text,n,[],pl⟩ rfl,Kn]
      simp[forget,J8,ren,JH,hpl]
     ·have hc:=Je (ρ:=[3]) hcl
      rw[fin ⟨k,text,n,[],pl⟩ rfl,Kh]
      simp only[QH,Gi,Gn,go_sem,JB]
      exact congrArg (fun z=>[CObj.arr 5 z]) hc
   ·have hKne:iz kids≠[]:=by
     intro e
     have:=congrArg GX e
     rw[Jn]at this
     exact hne (List.eq_nil_of_length_eq_zero this)
    obtain ⟨M,hM⟩:∃ M:Nat→List Int,M=fun j=>(kids.take j).map (· + d)++kids.drop j:=⟨_,rfl⟩
    have hM0:M 0=kids:=by rw[hM]; simp
    have hMe:M kids.length=kids.map (· + d):=by rw[hM]; simp
    have hMl:∀ j,j≤kids.length→(M j).length=kids.length:=fun j hj=>by rw[hM]; simp; omega
    have hMg:∀ j,j < kids.length→(iz (M j)).getD j []=[.int .i64 (kids.getD j 0)]:=fun j hj=>by
     rw[Kb (by rw[hMl j (by omega)]; exact hj),hM]
     simp only
     rw[Ga,Gu (by simp; exact Gz _ _),Ga]
     simp[GA (GD hj)]
    have hMs:∀ j,j < kids.length→(iz (M j)).set j [.int .i64 (kids.getD j 0+d)]=iz (M (j+1)):=fun j hj=>by
     have e0:kids.drop j=kids.getD j 0::kids.drop (j+1):=by
      rw[List.drop_eq_getElem_cons hj,Ga,Gd hj]; rfl
     simp only[hM]
     rw[e0,Kw (d:=0) hj]
     simp only[iz,Gw,Gi,Gn,List.append_assoc,Gp,Gq]
     rw[List.set_append_right _ _ (by simp; exact Gz _ _)]
     simp[GA (GD hj)]
    refine vr_row (.inl rfl) (cloneR (l:=kids) (by omega) hne) ?_
    rw[QL hKne,Ko hKne,Jn]
    simp -implicitDefEqProofs only[go_sem,splice,Gb,Gc,Gp,Gq]
    refine Xg (I:=fun j:Nat=>j≤kids.length) (inv:=fun j=>gp [(1,.int .i64 d),(2,KP 0 Z),(1,.ptr 1 0 0),(1,.rslc 5 (ndz l) none),(0,.int .i64 (l.length:Int)),(0,.int .i64 (i:Int)),(9,.int .i64 (kids.length:Int)),(0,.int .i64 (j:Int))] 17) (hp:=fun j=>[Xb 5 Z,.arr 5 [[.int .u8 k,S text,.int .i64 n,.slc 2 0 kids.length none,.int .i64 pl]],.arr 1 (iz (M j))]) (μ:=fun j=>kids.length-j) 0 (by omega) (fun Q=>?_) ?_
    ·rw[hM0]
     exact Kr (by simp[forget,gp])
    ·intro j hj
     by_cases hjl:j < kids.length
     ·have d2:((j:Int) < (kids.length:Int))=True:=eq_true (by omega)
      have hg2:=hMg j hjl
      have hs2:=hMs j hjl
      have hl2:(iz (M j)).length=kids.length:=by rw[Jn]; exact hMl j hj
      have hin:InR .i64 (kids.getD j 0+d):=hkx _ (by rw[Ga,Gd hjl]; exact Gh hjl)
      generalize kids.getD j 0=y at hg2 hs2 hin
      simp -implicitDefEqProofs only[go_sem,d2,hl2,hg2,hs2,splice]
      repeat (refine And.intro (by first | omega | exact hin | exact Jm (by omega) (by omega)) ?_)
      exact ⟨j+1,by omega,by omega,fun Q=>Kr (by simp[forget,gp])⟩
     ·have hje:j=kids.length:=by omega
      subst hje
      rw[hMe]
      have d2:((kids.length:Int) < (kids.length:Int))=False:=eq_false (by omega)
      simp -implicitDefEqProofs only[go_sem,splice,Jo,d2,Gb,Gc,hpl]
      have hml:(iz (kids.map (· + d))).length=kids.length:=by rw[Jn,Gx]
      refine ⟨by omega,Jm (by omega) (by omega),i+1,by omega,by omega,fun Q=>leads_freeze (id:=2) (z:=1) (els:=iz (kids.map (· + d))) rfl (JX _) (JI [4] ?_ ?_ ?_)⟩
      ·simp[KR,JdG]
      ·rw[fin ⟨k,text,n,kids.map (· + d),pl⟩ rfl,Kn]
       simp[Kt,frz,forget,J8,ren,JH,hpl]
      ·have hc:=Je (ρ:=[4]) hcl
       rw[fin ⟨k,text,n,kids.map (· + d),pl⟩ rfl,Kh]
       have hz:=QO (id:=2) (z:=1) (e:=iz (kids.map (· + d))) (Jbs hcl)
       have hf:frz 2 1 (iz (kids.map (· + d))) (.slc 2 0 kids.length none)=.rslc 1 (iz (kids.map (· + d))) none:=by
        simp only[frz,if_true,Gj,hml,Gf,Gm]
        rw[← hml,Gl]
       simp only[KR,QH,Gi,Gn,go_sem,Qo,Gw,hz,Kt,hf]
       refine congrArg (fun z=>[CObj.arr 5 z]) hc
  ·have hie:i=l.length:=by omega
   subst hie
   have d1:((l.length:Int) < (l.length:Int))=False:=eq_false (by omega)
   rw[Gl]
   simp -implicitDefEqProofs only[go_sem,d1]
   exact ⟨0,rfl,rfl⟩
theorem Q6 (a b:Tr) (ha:a.Fit) (hb:b.Fit):Fn Tryz.prog 27 [a.cv,b.cv] (if chk a≠0 then .tup [.bool false,.int .i64 (chk a)] else if chk b≠0 then .tup [.bool false,.int .i64 (chk b)] else .tup [.bool (Xi a b),.int .i64 0]):=by
 have hal:=ha.many
 have hai:=ha.items
 have hEF:=equalF a.nodes b.nodes ha.nodes hal
 have hEI:=equalI a.items b.items (by omega)
 refine Jc c27_ok rfl (by split; rfl; split <;> rfl) fun N=>?_
 simp -implicitDefEqProofs only[c27,go_sem,Tr.cv,Tr.row]
 refine Jk (id:=0) (z:=2) (els:=[a.row]) rfl rfl ?_
 simp only[go_sem,Kt,KR,frz,Qo,Tr.row]
 refine Jk (id:=1) (z:=2) (els:=[b.row]) rfl rfl ?_
 simp only[go_sem,Kt,KR,frz,Qo,Tr.row]
 refine Jk (id:=2) (z:=2) (els:=[a.row,b.row]) rfl rfl ?_
 simp only[go_sem,Kt,KR,frz,Qo,Tr.row,Gb,Gc,Gj,Gf,if_true,Gm,GM,GU]
 refine KG (I:=fun i:Nat=>i≤2∧(1≤i→chk a=0)∧(2≤i→chk b=0)) (inv:=fun i=>gp [(2,.rptr a.row),(0,.rptr b.row),(8,.rslc 2 [a.row,b.row] none),(0,.int .i64 2),(0,.int .i64 (i:Int))] 22) (hp:=fun _=>[.dead,.dead,.dead]) (μ:=fun i=>2-i) 0 [0,1,2] ⟨by omega,by omega,by omega⟩ rfl ?_ rfl ?_
 ·simp[forget,gp,J8,ren,JH,Tr.row]
 ·rintro i ⟨hi,h1,h2⟩
  by_cases hlt:i < 2
  ·have d1:((i:Int) < 2)=True:=eq_true (by omega)
   obtain ⟨t,ht,hgi,hn,hb1,hb2⟩:∃ t:Tr,t.Fit∧([a.row,b.row]:List (List CV)).getD i []=t.row∧(chk t≠0→(if chk a≠0 then CV.tup [.bool false,.int .i64 (chk a)] else if chk b≠0 then .tup [.bool false,.int .i64 (chk b)] else .tup [.bool (Xi a b),.int .i64 0])=.tup [.bool false,.int .i64 (chk t)])∧(chk t=0→1≤i+1→chk a=0)∧(chk t=0→2≤i+1→chk b=0):=by
    rcases (show i=0∨i=1 by omega) with rfl | rfl
    ·exact ⟨a,ha,rfl,fun h=>if_pos h,fun h _=>h,fun _ h=>absurd h (by omega)⟩
    ·exact ⟨b,hb,rfl,fun h=>by rw[if_neg (by simp[h1 (by omega)]),if_pos h],fun _ _=>h1 (by omega),fun h _=>h⟩
   simp only[Tr.row]at hgi
   simp -implicitDefEqProofs only[go_sem,Tr.row,d1,hgi,splice,Gb,Gc]
   refine ⟨by omega,?_⟩
   refine JZ (Qg t ht) ?_
   by_cases hc:chk t=0
   ·have e:(chk t != 0)=false:=by simpa using hc
    simp -implicitDefEqProofs only[go_sem,e]
    refine ⟨Jm (by omega) (by omega),i+1,[0,1,2],⟨by omega,hb1 hc,hb2 hc⟩,by omega,rfl,rfl,?_⟩
    simp[forget,J8,ren,JH,Tr.row]
   ·have e:(chk t != 0)=true:=by simpa using hc
    rw[hn hc]
    simp -implicitDefEqProofs only[go_sem,e]
  ·have d1:((i:Int) < 2)=False:=eq_false (by omega)
   rw[if_neg (by simp[h1 (by omega)]),if_neg (by simp[h2 (by omega)])]
   simp -implicitDefEqProofs only[go_sem,Tr.row,d1]
   refine JZ hEF ?_
   cases hs:QT a.nodes b.nodes with
   |false=>
    simp -implicitDefEqProofs only[go_sem]
    simp[Xi,hs]
   |true=>
    simp -implicitDefEqProofs only[go_sem]
    refine JO (gok rfl) hEI ?_
    simp -implicitDefEqProofs only[go_sem]
    simp[Xi,hs]
def Jen (o:List Int) (t:Tr) (i:Nat):Tr:=
 let last:=t.items.getD i 0
 ⟨((t.nodes.drop (fs o last).toNat).take (last.toNat+1-(fs o last).toNat)).map (mvN (-(fs o last))),[last-fs o last]⟩
def noT:Tr:=⟨[],[]⟩
theorem GoodT.item {t:Tr}{o:List Int}(g:GoodT t o) {i:Nat}(hi:i < t.items.length):∃ L F:Nat,t.items.getD i 0=(L:Int)∧fs o L=(F:Int)∧F≤L∧L < t.nodes.length∧o.length=t.nodes.length∧o.getD L 0=(F:Int):=by
 have hol:o.length=t.nodes.length:=by rw[g.ord.len,KA]
 have hm:t.items.getD i 0∈t.items:=by
  rw[Ga,Gd hi]; exact Gh hi
 obtain ⟨_,h2,h3,h4⟩:=QR g.ord.ok hol _ _ _ g.its _ hm
 obtain ⟨h5,h6⟩:=JdK g.ord.ok h2 (by omega)
 generalize t.items.getD i 0=L at *
 obtain ⟨L,rfl⟩:∃ n:Nat,L=(n:Int):=⟨L.toNat,by omega⟩
 exact ⟨L,(fs o L).toNat,rfl,by omega,by omega,by omega,hol,by rw[show o.getD L 0=fs o (L:Int) by simp[fs]]; omega⟩
theorem GoodT.kidr {t:Tr}{o:List Int}(g:GoodT t o) {x:Nd}(hx:x∈t.nodes) {k:Int}(hk:k∈x.kids):0≤k∧k < t.nodes.length:=by
 obtain ⟨j,hj⟩:=List.getElem?_of_mem hx
 have hjl:=(GG.1 hj).1
 have:=Qj g.ord.h (j:=j) (ks:=x.kids) (by simp[JE,hj]) k hk
 omega
theorem parseCutE (t:Tr) (ht:t.Fit) (i:Int) (h:chk t≠0):Fn Tryz.prog 25 [t.cv,.int .i64 i] (.tup [noT.cv,.int .i64 (chk t)]):=by
 have e:(chk t != 0)=true:=by simpa using h
 refine Qv (QW c25_ok fun N=>?_) rfl rfl
 simp -implicitDefEqProofs only[c25,go_sem,Tr.cv,Tr.row]
 refine Jk (id:=0) (z:=2) (els:=[t.row]) rfl rfl ?_
 simp only[go_sem,Kt,KR,frz,Qo,Tr.row]
 refine JZ ((findE t ht [] h).args ⟨wk.refl _,wk.nils,trivial⟩) ?_
 simp -implicitDefEqProofs only[go_sem,e,splice]
 exact .inl (JdO ⟨XE ⟨wk.nils,wk.nils,trivial⟩,wk.refl _,trivial⟩)
theorem parseCutN (t:Tr) (ht:t.Fit) (i:Int) (h:chk t=0) (hi:¬ (0≤i∧i < t.items.length)):Fn Tryz.prog 25 [t.cv,.int .i64 i] (.tup [noT.cv,.int .i64 7]):=by
 have e:(chk t != 0)=false:=by simpa using h
 obtain ⟨o,g⟩:=(Kq t).1 h
 have hit:=g.items
 have hil:(iz t.items).length=t.items.length:=Jn
 have hF:=(findS t ht [] (by simp) h g.ord.h).args (args':=[t.cv,.nils]) ⟨wk.refl _,wk.nils,trivial⟩
 rw[if_pos (by simp)]at hF
 have hw:inI 0 ((t.items.length:Int)-1) i=false:=by
  cases hb:inI 0 ((t.items.length:Int)-1) i with
  |false=>rfl
  |true=>simp only[inI,Gg,decide_eq_true_eq]at hb; omega
 refine Qv (QW c25_ok fun N=>?_) rfl rfl
 simp -implicitDefEqProofs only[c25,go_sem,Tr.cv,Tr.row]
 refine Jk (id:=0) (z:=2) (els:=[t.row]) rfl rfl ?_
 simp only[go_sem,Kt,KR,frz,Qo,Tr.row]
 refine JZ hF ?_
 have e0:((0:Int) != 0)=false:=rfl
 simp -implicitDefEqProofs only[go_sem,e0,splice,hil]
 refine ⟨Jm (by omega) (by omega),?_⟩
 refine JZ (within 0 ((t.items.length:Int)-1) i) ?_
 simp -implicitDefEqProofs only[go_sem,hw,splice]
 exact .inl (JdO ⟨XE ⟨wk.nils,wk.nils,trivial⟩,wk.refl _,trivial⟩)
theorem parseCutS (t:Tr) (ht:t.Fit) {o:List Int}(g:GoodT t o) (i:Nat) (hi:i < t.items.length):Fn Tryz.prog 25 [t.cv,.int .i64 (i:Int)] (.tup [(Jen o t i).cv,.int .i64 0]):=by
 have h:chk t=0:=(Kq t).2 ⟨o,g⟩
 have hit:=g.items
 have hmany:=g.many
 have hil:(iz t.items).length=t.items.length:=Jn
 have hF:=(findS t ht [] (by simp) h g.ord.h).args (args':=[t.cv,.nils]) ⟨wk.refl _,wk.nils,trivial⟩
 rw[if_pos (by simp)]at hF
 have hw:inI 0 ((t.items.length:Int)-1) (i:Int)=true:=by
  simp only[inI,Gg,decide_eq_true_eq]; omega
 obtain ⟨L,F,hL,hFs,hFL,hLn,hol,hoL⟩:=g.item hi
 have hzl:(iz o).length=t.nodes.length:=by rw[Jn,hol]
 have hgi:(iz t.items).getD i []=[.int .i64 (L:Int)]:=by rw[Kb hi,hL]
 have hgo:(iz o).getD L []=[.int .i64 (F:Int)]:=by rw[Kb (by omega),hoL]
 have hT:Jen o t i=⟨((t.nodes.drop F).take (L+1-F)).map (mvN (-(F:Int))),[(L:Int)-F]⟩:=by
  unfold Jen; simp only[hL,hFs,Gy]
 have hsl:((ndz t.nodes).drop F).take (L+1-F)=ndz ((t.nodes.drop F).take (L+1-F)):=by simp[ndz,List.map_take,List.map_drop]
 have hmv:=(moved ((t.nodes.drop F).take (L+1-F)) (by rw[GN,GQ]; omega) (fun x hx=>ht.nodes x (GK (GJ hx))) (-(F:Int)) (fun x hx k hk=>by
  have h1:=g.kidr (GK (GJ hx)) hk
  exact Jm (by omega) (by omega))).fn rfl (JK _)
 rw[hT]
 refine Qv (QW c25_ok fun N=>?_) rfl rfl
 simp -implicitDefEqProofs only[c25,go_sem,Tr.cv,Tr.row]
 refine Jk (id:=0) (z:=2) (els:=[t.row]) rfl rfl ?_
 simp only[go_sem,Kt,KR,frz,Qo,Tr.row]
 refine JZ hF ?_
 have e0:((0:Int) != 0)=false:=rfl
 simp -implicitDefEqProofs only[go_sem,e0,splice,hil]
 refine ⟨Jm (by omega) (by omega),?_⟩
 refine JZ (within 0 ((t.items.length:Int)-1) i) ?_
 have hL1:((L:Int)+1).toNat=L+1:=by omega
 simp -implicitDefEqProofs only[go_sem,hw,splice,hil,hgi,hgo,hzl,hsl,Ja,Gy,hL1,GZ]
 repeat (refine And.intro (by first | omega | exact Jm (by omega) (by omega)) ?_)
 refine JZ hmv ?_
 simp -implicitDefEqProofs only[go_sem,splice]
 refine ⟨Jm (by omega) (by omega),.inr ⟨2,1,[[.int .i64 ((L:Int)-F)]],rfl,rfl,?_⟩⟩
 exact wk.refl _
theorem refCut (t:Tr) (ht:t.Fit) {o:List Int}(g:GoodT t o) (i:Nat) (hi:i < t.items.length):Fn Tryz.prog 28 [t.cv,.int .i64 (i:Int)] (Jen o t i).cv:=by
 have hit:=g.items
 have hmany:=g.many
 have hil:(iz t.items).length=t.items.length:=Jn
 obtain ⟨L,F,hL,hFs,hFL,hLn,hol,hoL⟩:=g.item hi
 have hgi:(iz t.items).getD i []=[.int .i64 (L:Int)]:=by rw[Kb hi,hL]
 have hR:=refFirst t (ord_take g) (Gf _) L hLn
 rw[hFs]at hR
 have hT:Jen o t i=⟨((t.nodes.drop F).take (L+1-F)).map (mvN (-(F:Int))),[(L:Int)-F]⟩:=by
  unfold Jen; simp only[hL,hFs,Gy]
 rw[hT]
 obtain ⟨O,hO⟩:∃ O:Nat→List Nd,O=fun j=>((t.nodes.drop F).take j).map (mvN (-(F:Int))):=⟨_,rfl⟩
 have hO0:O 0=[]:=by rw[hO]; simp
 have hOe:((t.nodes.drop F).take (L+1-F)).map (mvN (-(F:Int)))=O (L+1-F):=by rw[hO]
 have hOl:∀ j,j≤L+1-F→(O j).length=j:=fun j hj=>by rw[hO]; simp; omega
 have hOs:∀ j,j < L+1-F→O (j+1)=O j++[mvN (-(F:Int)) (t.nodes.getD (F+j) default)]:=fun j hj=>by
  rw[hO]
  simp only
  rw[Kw (d:=default) (by rw[GQ]; omega),Gw]
  simp[Ga]
 rw[hOe]
 refine Qv ?_ rfl rfl
 refine QW c28_ok fun N=>?_
 simp -implicitDefEqProofs only[c28,go_sem,Tr.cv,Tr.row,hil,hgi]
 refine ⟨by omega,?_⟩
 refine Jk (id:=0) (z:=2) (els:=[t.row]) rfl rfl ?_
 simp only[go_sem,Kt,KR,frz,Qo,Tr.row]
 refine JZ hR ?_
 simp -implicitDefEqProofs only[go_sem,splice,Gb,Gc]
 refine ⟨Jm (by omega) (by omega),?_⟩
 refine Jk (id:=2) (z:=1) (els:=[[.int .i64 ((L:Int)-F)]]) rfl rfl ?_
 simp only[go_sem,Kt,KR,frz,Qo,Gb,Gc,Gj,Gf,if_true,Gm,GM,GU]
 refine Ja9 ?_
 simp only[go_sem,Gp,Gq]
 refine KG (I:=fun j:Nat=>j≤L+1-F) (inv:=fun j=>gp [(2,.rptr t.row),(1,.ptr 1 0 0),(0,.int .i64 (L:Int)),(0,.int .i64 (F:Int)),(0,.ptr 3 0 0),(0,.int .i64 ((F+j:Nat):Int))] 33) (hp:=fun j=>[.dead,.arr 2 [[.nils,.nils]],.dead,.arr 2 [[KP 4 (ndz (O j)),.rslc 1 [[.int .i64 ((L:Int)-F)]] none]],Xb 5 (ndz (O j))]) (μ:=fun j=>L+1-F-j) 0 [0,1,2,3,4] (by omega) rfl ?_ ?_ ?_
 ·simp[forget,J8,ren,JH,gp,Tr.row]
 ·rw[hO0]; rfl
 ·intro j hj
  by_cases hlt:j < L+1-F
  ·have d1:(((F+j:Nat):Int)≤(L:Int))=True:=eq_true (by omega)
   have hFj:F+j < t.nodes.length:=by omega
   have hg:=Ka hFj
   have hxm:t.nodes.getD (F+j) default∈t.nodes:=by rw[rowN hFj]; exact Gh hFj
   have hx:=ht.nodes _ hxm
   have hxk:∀ k∈(t.nodes.getD (F+j) default).kids,InR .i64 (k + -(F:Int)):=fun k hk=>by
    have:=g.kidr hxm hk
    exact Jm (by omega) (by omega)
   have hOj:=hOs j hlt
   have hcl:=JK (O (j+1))
   have hpl:(ndz (O j)).length=j:=by rw[Ja,hOl j hj]
   generalize t.nodes.getD (F+j) default=x at hg hx hxk hOj
   have hts:ndz (O (j+1))=ndz (O j)++[(mvN (-(F:Int)) x).cv]:=by rw[hOj]; simp[ndz]
   have hM:=Jaj x (by have:=hx.kidn; omega) (-(F:Int)) hxk
   generalize ndz (O j)=Z at hts hpl ⊢
   simp -implicitDefEqProofs only[go_sem,d1,Tr.row]
   refine Xh [false,true,false,false,false,false,false,false,false,false,false,true,false,true] JF (by decide +kernel) ?_
   simp -implicitDefEqProofs only[go_sem,Ja,hg,GZ]
   repeat (refine And.intro (by first | omega | exact Jm (by omega) (by omega) | simp[Nd.cv]) ?_)
   refine vh_f hM ?_
   simp -implicitDefEqProofs only[go_sem]
   refine JbZ [(mvN (-(F:Int)) x).cv] rfl rfl rfl rfl ?_
   simp -implicitDefEqProofs only[go_sem,Jo,splice,Gb,Gc]
   refine ⟨by omega,Jm (by omega) (by omega),j+1,[0,1,2,3,5],by omega,by omega,rfl,?_,?_⟩
   ·rw[hts]at hcl
    have hc:=Je (ρ:=[0,1,2,3,5]) hcl
    rw[hts,Kn,Kh]
    simp only[QH,Gi,Gn,go_sem,JB,hc]
    rfl
   ·simp[forget,J8,ren,JH,Tr.row]
    omega
  ·have hje:j=L+1-F:=by omega
   subst hje
   have d1:(((F+(L+1-F):Nat):Int)≤(L:Int))=False:=eq_false (by omega)
   have hnc:=JK (O (L+1-F))
   have hne:ndz (O (L+1-F))≠[]:=by
    intro e
    have:=congrArg GX e
    rw[Ja,hOl _ (Gf _)]at this
    simp at this
    omega
   rw[QL hne,Ko hne]
   simp -implicitDefEqProofs only[go_sem,d1,splice]
   exact .inr ⟨4,5,ndz (O (L+1-F)),rfl,hnc,JeL rfl rfl⟩
end Go.Cm
end
end
