/-
  A part of the proof. Conditions: none.
-/
import Derived.Test.YtaiboeciecfgoaaGreatDoorRP12
set_option linter.unusedSimpArgs false
set_option linter.unusedVariables false
open List renaming getD_eq_getElem?_getD→Ga,getElem?_eq_getElem→Gb,getElem?_append_right→Gd,getElem?_append_left→Gf,mem_of_getElem?→Gg,getElem?_map→Gh,all_eq_true→Gi,mem_range→Gj,map_cons→Gl
open Bool renaming and_eq_true→Gc
noncomputable section
section
namespace Go.Cm
section
def flat (o:CObj):Prop:=o=.dead∨∃ z els,o=.arr z els∧Jq els=true
section
variable {P:Program}{E:Env}{H:List CObj}
theorem app_get {α:Type}{a b:List α}{k:Nat}{x:α}(h:(a++b)[k]? = some x):(k < a.length∧a[k]? = some x)∨∃ j,k=a.length+j∧b[j]? = some x:=by
 rcases Nat.lt_or_ge k a.length with hlt | hge
 ·rw[Gf hlt]at h; exact .inl ⟨hlt,h⟩
 ·rw[Gd hge]at h; exact .inr ⟨k-a.length,by omega,h⟩
theorem app_get2 {α:Type}{a b:List α}{j:Nat}:(a++b)[a.length+j]? = b[j]?:=by
 rw[Gd (by omega)]; congr 1; omega
theorem CallsC.frameG {f:Nat}{args:List CV}{G:List CObj}{mk:Nat→CV}(h:CallsC P Env.none f args [] fun v H'=>v=mk 0∧H'=G) (ha:Jm args=true) (hG:∀ o∈G,flat o)
  (hmk:∀ (n:Nat) (own own':List Own) imm r,(∀ (k:Nat) x,own[k]? = some x→own'[n+k]? = some x)→rel own imm (mk 0) r→rel own' imm (mk n) r):CallsC P E f args H fun v H'=>v=mk H.length∧H'=H++G:=by
 intro m w vs hs hv
 refine (h _ w vs hs.nothing (Kq _ _ ha hv)).mono ?_
 rintro e w' ⟨r,m',v,H',rfl,hext,hs',hrel,rfl,rfl⟩
 obtain ⟨h1,h2⟩:=hs.back hext hs'
 have hno:∀ B,¬ owned { own:=[],imm:=m.imm,ext:=fun _=>False } [] B:=by
  rintro B (h | ⟨k,o,x,hk,_⟩)
  ·exact h
  ·simp at hk
 have hlen:m.own.length=H.length:=hs.len
 have hold:∀ (k:Nat) o x,H[k]? = some o→o.alive=true→m.own[k]? = some x→x.B < w.heap.size:=fun k o x hk hal hx=>Xy hs hk hal hx
 have hnewB:∀ (k:Nat) o x,H'[k]? = some o→o.alive=true→m'.own[k]? = some x→w.heap.size≤x.B:=fun k o x hk hal hx=>
  (hext.newOwn x.B (.inr ⟨k,o,x,hk,hal,hx,rfl⟩)).resolve_left (hno _)
 have two:∀ (k:Nat) o x,(H++H')[k]? = some o→(m.own++m'.own)[k]? = some x→(k < H.length∧H[k]? = some o∧m.own[k]? = some x)∨∃ j,k=H.length+j∧H'[j]? = some o∧m'.own[j]? = some x:=by
  intro k o x hk hx
  rcases app_get hk with ⟨hlt,hk2⟩ | ⟨j,rfl,hk2⟩
  ·rw[Gf (by omega)]at hx; exact .inl ⟨hlt,hk2,hx⟩
  ·rw[← hlen,app_get2]at hx; exact .inr ⟨j,rfl,hk2,hx⟩
 have hle:=Kg.append m.own m'.own
 refine ⟨r,{ m with own:=m.own++m'.own,imm:=m'.imm },mk H.length,H++H',rfl,?_,?_,?_,rfl,rfl⟩
 ·have hE:=h2 H.length
  refine ⟨hE.size,hE.frame,hE.imm,?_,hE.newImm,fun k x _ hx=>hle _ _ hx,fun h=>by simp; omega,hE.same⟩
  rintro B (hB | ⟨k,o,x,hk,hal,hx,rfl⟩)
  ·exact .inl (.inl hB)
  ·rcases two k o x hk hx with ⟨_,hk,hx⟩ | ⟨j,_,hk,hx⟩
   ·exact .inl (.inr ⟨k,o,x,hk,hal,hx,rfl⟩)
   ·exact .inr (hnewB j o x hk hal hx)
 ·refine ⟨by simp[hs.len,hs'.len],fun k o x hk hx=>?_,h1.imm,h1.one,fun k k' o o' x x' hk hk' ha ha' hx hx' hB=>?_,fun k o x hk hal hx=>?_,fun k s b hk=>?_,fun k o x hk hal hx=>?_,h1.extlt,h1.gl⟩
  ·rcases two k o x hk hx with ⟨_,hk,hx⟩ | ⟨j,_,hk,hx⟩
   ·exact Kh hle (J5.refl _) (fun _=>rfl) (h1.obj k o x hk hx)
   ·have ho:=hs'.obj j o x hk hx
    rcases hG o (Gg hk) with rfl | ⟨z,els,rfl,hc⟩
    ·trivial
    ·obtain ⟨hz,c,elem,g1,g2,g3,g4,g5⟩:=ho
     exact ⟨hz,c,elem,g1,g2,g3,fun j e he=>⟨(g4 j e he).1,fun t c hc2=>let ⟨r,q1,q2⟩:=(g4 j e he).2 t c hc2; ⟨r,q1,QQ c r (YL (YM hc _ _ he) _ _ hc2) q2⟩⟩,g5⟩
  ·rcases two k o x hk hx with ⟨_,hk,hx⟩ | ⟨j,rfl,hk,hx⟩ <;> rcases two k' o' x' hk' hx' with ⟨_,hk',hx'⟩ | ⟨j',rfl,hk',hx'⟩
   ·exact h1.sep k k' o o' x x' hk hk' ha ha' hx hx' hB
   ·have a1:=hold k o x hk ha hx
    have a2:=hnewB j' o' x' hk' ha' hx'
    omega
   ·have a1:=hold k' o' x' hk' ha' hx'
    have a2:=hnewB j o x hk ha hx
    omega
   ·rw[hs'.sep j j' o o' x x' hk hk' ha ha' hx hx' hB]
  ·rcases two k o x hk hx with ⟨_,hk,hx⟩ | ⟨j,rfl,hk,hx⟩
   ·exact h1.ro k o x hk hal hx
   ·exact hs'.ro j o x hk hal hx
  ·rcases app_get hk with ⟨_,hk2⟩ | ⟨j,rfl,hk2⟩
   ·exact h1.ext k s b hk2
   ·rcases hG _ (Gg hk2) with h | ⟨z,els,h,_⟩ <;> cases h
  ·rcases two k o x hk hx with ⟨_,hk,hx⟩ | ⟨j,rfl,hk,hx⟩
   ·exact h1.extsep k o x hk hal hx
   ·intro hB
    have a1:=hnewB j o x hk hal hx
    have a2:=hs.extlt x.B hB
    omega
 ·exact hmk H.length m'.own (m.own++m'.own) m'.imm r (fun k x hk=>by rw[← hlen,app_get2]; exact hk) hrel
theorem KD {id z:Nat}{e:List (List CV)}:∀ {els:List (List CV)},Jq els=true→els.map (J2 id z e)=els
 |[],_=>rfl
 |x::xs,h=>by
  simp only[Jq,Gc]at h
  rw[Gl,KQ _ h.1,KD h.2]
theorem Fn.args {f:Nat}{args args':List CV}{v:CV}(h:Fn P f args v) (hw:wks args' args):Fn P f args' v:=fun E H m w vs hs hv=>h E H m w vs hs (Jby hw hv)
theorem Je9 {els:List (List CV)}(i n:Nat) {own own':List Own}{imm:Nat→Nat→Option Value}{r:Value}(ho:∀ (k:Nat) x,own[k]? = some x→own'[n+k]? = some x) (h:rel own imm (QC i els) r):rel own' imm (QC (n+i) els) r:=by
 cases els with
 |nil=>exact h
 |cons e l=>
  simp only[QC,rel]at h ⊢
  obtain ⟨x,a,c,hx,g⟩:=h
  exact ⟨x,a,c,ho _ _ hx,g⟩
theorem rowO_flat {z:Nat}{els:List (List CV)}(h:Jq els=true):flat (Xu z els):=by
 cases els with
 |nil=>exact .inl rfl
 |cons e l=>exact .inr ⟨_,_,rfl,h⟩
theorem rowV_one {id:Nat}{els:List (List CV)}:(QC id els).oneCell=true:=by cases els <;> rfl
attribute [go_sem ↓] rowV_one
inductive Frzs (v0:CV):CV→List CObj→Prop
 |done {v:CV} {H:List CObj}:wk v v0→Frzs v0 v H
 |step {v:CV} {H:List CObj} (id z:Nat) (els:List (List CV)):H[id]? = some (.arr z els)→Jq els=true→Frzs v0 (frz id z els v) (Ko id z els H)→Frzs v0 v H
theorem QP {f:Nat}{args:List CV}{v0:CV}(h:CallsC P Env.none f args [] fun v H'=>Frzs v0 v H') (ha:Jm args=true) (hv:v0.closed=true):Fn P f args v0:=by
 refine fn_of ?_ ha hv
 intro m w vs hs hvs
 refine (h m w vs hs hvs).mono ?_
 rintro e w' ⟨r,m',v,H',h1,h2,h3,h4,g⟩
 subst h1
 induction g generalizing m' with
 |done hw=>exact ⟨r,m',v0,_,rfl,h2,h3,hw _ _ _ h4,rfl⟩
 |step id z els g1 g2 _ ih=>
  obtain ⟨imm',hs',he,hf⟩:=Sim.freeze (n0:=([]:List CObj).length) h3 g1 g2
  exact ih _ (h2.trans he) hs' (hf _ _ h4)
def Jbp (P:Program) (f:Nat) (args:List CV) (z:Nat) (els:List (List CV)):Prop:=∀ (E:Env) (H:List CObj),CallsC P E f args H fun v H'=>v=QC H.length els∧H'=H++[Xu z els]
theorem JaH {f:Nat}{args:List CV}{z:Nat}{els:List (List CV)}(h:CallsC P Env.none f args [] fun v H'=>∃ id,v=QC id els∧H'[id]? = some (Xu z els)) (ha:Jm args=true) (hc:Jq els=true):Jbp P f args z els:=fun E H=>by
 refine CallsC.frameG (mk:=fun n=>QC n els) (G:=[Xu z els]) (h.ren fun v H' ⟨id,hv,hH⟩=>⟨[id],?_,?_,?_⟩) ha (fun o ho=>by simp only[List.mem_singleton]at ho; rw[ho]; exact rowO_flat hc) fun n own own' imm r ho h=>Je9 0 n ho h
 ·have:=(List.getElem?_eq_some_iff.1 hH).1
  simp[JeG,this]
 ·rw[hv]; exact Qo (by simp[ren,Jo])
 ·simp only[Kw,Gl,List.map_nil,Ga,hH,Option.getD_some]
  cases els with
  |nil=>rfl
  |cons e l=>
   have:=Jb (ρ:=[id]) hc
   simp only[Xu,Jp,this]
theorem Jbp.fn {f:Nat}{args:List CV}{z:Nat}{els:List (List CV)}(h:Jbp P f args z els) (ha:Jm args=true) (hc:Jq els=true):Fn P f args (.rslc z els none):=
 Jfw ((h Env.none []).mono fun v H' ⟨h1,h2⟩=>⟨0,h1,by rw[h2]; rfl⟩) ha hc
end
section
variable {P:Program}{E:Env}{n0:Nat}{N:Fr}{Q:Exit→List CV→List CObj→Prop}{H:List CObj}{T:List CV}{k:List KItem}{l:List IOper}{es:List (List Nat)}
theorem Jdr {d:Option Nat}{g:Option (Nat×Bool)}{f:Nat}{xa:List IArg}{l:List IOper}{z:Nat}{els:List (List CV)}(hg:GOk T g) (hcall:Jbp P f (xa.map (JQ T)) z els) (h:Kr P E n0 N Q (.ops l::k) (put T d (QC H.length els)) (H++[Xu z els])):Ok P E n0 N Q (.ops (⟨d,.call f xa,g⟩::l)::k) T H:=
 Xc hg (hcall E H) fun v H' ⟨h1,h2⟩=>by rw[h1,h2]; exact h
def JeB (P:Program) (E:Env) (n0:Nat) (N:Fr) (Q:Exit→List CV→List CObj→Prop) (k:List KItem) (l:List IOper) (es:List (List Nat)) (T:List CV) (H:List CObj):Prop:=∀ is,Sched l.length es (fun _=>false) is→Ok P E n0 N Q (.ops (is.map (Ky l))::k) T H
theorem vr_draw (hm:P.follows .mixedOrders=true) (h:JeB P E n0 N Q k l es T H):Ok P E n0 N Q (.code (.dreg l es)::k) T H:=ok_draw hm h
theorem draw_pair (i j:Nat) (hb:(!(i == j) && decide (i < es.length) && decide (j < es.length))=true) (h1:JeB P E n0 N Q k l (JeD es j i) T H) (h2:JeB P E n0 N Q k l (JeD es i j) T H):JeB P E n0 N Q k l es T H:=by
 intro is hs
 simp only[Gc,Bool.not_eq_true',beq_eq_false_iff_ne,decide_eq_true_eq]at hb
 rcases Je7 hb.1.1 hb.1.2 hb.2 hs rfl rfl with h | h
 ·exact h1 is h
 ·exact h2 is h
theorem draw_leaf (bs:List Bool) (T':List CV) (H':List CObj) (hord:(l.length == bs.length && (Jb2 l.length es (clo es) && QJ l (clo es) (bs.map Xa)))=true) (hfin:Ok P E n0 N Q k T' H') (h:vdk P E (leads P E n0 N Q T' H') l bs T H):JeB P E n0 N Q k l es T H:=
 fun _ hs=>JdA hord h hfin hs
def pm (p:List Nat) (a:Nat):Nat:=p.getD a a
theorem pm_out {p:List Nat}{a:Nat}(h:p.length≤a):pm p a=a:=by
 unfold pm; rw[Ga,List.getElem?_eq_none h]; rfl
def permOk (n:Nat) (p q:List Nat):Bool:=p.length == n && q.length == n && (List.range n).all fun a=>decide (pm p a < n) && decide (pm q a < n) && pm q (pm p a) == a && pm p (pm q a) == a
theorem sched_perm {n:Nat}{p q:List Nat}(hb:permOk n p q=true) {es2:List (List Nat)}(he:∀ a,a < n→es2.getD a []=(es.getD (pm p a) []).map (pm q)) {S:Nat→Bool}{is:List Nat}(h:Sched n es S is):Sched n es2 (fun a=>S (pm p a)) (is.map (pm q)):=by
 simp only[permOk,Gc,beq_iff_eq,Gi,Gj,decide_eq_true_eq]at hb
 obtain ⟨⟨hpl,hql⟩,hall⟩:=hb
 have hqp:∀ a,pm p (pm q a)=a:=fun a=>by
  rcases Nat.lt_or_ge a n with h | h
  ·exact (hall a h).2
  ·rw[pm_out (p:=q) (by omega),pm_out (by omega)]
 have hpq:∀ a,pm q (pm p a)=a:=fun a=>by
  rcases Nat.lt_or_ge a n with h | h
  ·exact (hall a h).1.2
  ·rw[pm_out (p:=p) (by omega),pm_out (by omega)]
 induction h with
 |nil hn=>
  refine .nil fun a ha hS=>?_
  obtain ⟨e,h1,h2⟩:=hn _ (hall a ha).1.1.1 hS
  exact ⟨pm q e,by rw[he a ha]; exact List.mem_map_of_mem h1,by rw[hqp]; exact h2⟩
 |cons ha hS hr _ ih=>
  rename_i S a is _
  refine .cons (hall a ha).1.1.2 (by rw[hqp]; exact hS) (fun e hm=>?_) ?_
  ·rw[he _ (hall a ha).1.1.2,hqp]at hm
   obtain ⟨e',h1,rfl⟩:=List.mem_map.1 hm
   rw[hqp]; exact hr e' h1
  ·have e:(fun b=>S (pm p b) || b == pm q a)=fun b=>S (pm p b) || pm p b == a:=by
    funext b
    congr 1
    by_cases h:b=pm q a
    ·subst h; rw[hqp]; simp
    ·have:pm p b≠a:=fun hh=>h (by rw[← hh,hpq])
     rw[beq_false_of_ne h,beq_false_of_ne this]
   rw[e]; exact ih
theorem sched_mem {n : Nat} {S : Nat → Bool} {is : List Nat} (h : Sched n es S is) : ∀ a ∈ is, a < n := by
  induction h with
  | nil _ => intro a ha; cases ha
  | cons h _ _ _ ih => intro a ha; rcases List.mem_cons.1 ha with h' | h'
                       · subst h'; exact h
                       · exact ih a h'
def prl (p:List Nat) (l:List IOper):List IOper:=p.map fun a=>Ky l a
def pre (p q:List Nat) (es:List (List Nat)):List (List Nat):=p.map fun a=>(es.getD a []).map (pm q)
theorem draw_perm (p q:List Nat) (hb:permOk l.length p q=true) (h:JeB P E n0 N Q k (prl p l) (pre p q es) T H):JeB P E n0 N Q k l es T H:=by
 intro is hs
 have hb2:=hb
 simp only[permOk,Gc,beq_iff_eq,Gi,Gj,decide_eq_true_eq]at hb2
 obtain ⟨⟨hpl,hql⟩,hall⟩:=hb2
 have hlen:(prl p l).length=l.length:=by rw[prl,List.length_map]; exact hpl
 have hs2:=sched_perm hb (es2:=pre p q es) (fun a ha=>by
  unfold pre pm
  rw[Ga,Gh,Gb (by omega)]
  simp[Ga,Gb (show a < p.length by omega)]) hs
 rw[← hlen]at hs2
 have:=h _ hs2
 have e:(is.map (pm q)).map (Ky (prl p l))=is.map (Ky l):=by
  rw[List.map_map]
  refine List.map_congr_left fun a ha=>?_
  have hal:=sched_mem hs a ha
  have h1:=(hall a hal).1.1.2
  have h2:=(hall a hal).2
  simp only[Function.comp]
  unfold prl Ky
  rw[Ga,Gh,Gb (by omega)]
  simp only[Option.map_some,Option.getD_some]
  have e2:p[pm q a]'(by omega)=a:=by
   unfold pm at h2 ⊢
   rw[Ga,Gb (by simpa [pm]using (by omega:pm q a < p.length))]at h2
   exact h2
  rw[e2]
 rw[e]at this
 exact this
end
end
end Go.Cm
end
section
set_option maxRecDepth 100000
set_option maxHeartbeats 4000000
open Go.Proofs
namespace Go.Cm
theorem rowN {l:List Nd}{i:Nat}(h:i < l.length):l.getD i default=l[i]:=by rw[Ga,Gb h]; rfl
theorem cloneR {l:List Int}(hl:l.length≤100000) (hne:l≠[]):Jbp Tryz.prog 75 [.rslc 1 (iz l) none] 1 (iz l):=by
 refine JaH (KI c75_ok fun N=>?_) rfl (Jd l)
 obtain ⟨x,xs,hR⟩:∃ x xs,iz l=x::xs:=by
  cases l with
  |nil=>exact absurd rfl hne
  |cons a l=>exact ⟨_,_,rfl⟩
 have hlen:xs.length+1=l.length:=by rw[← Jf (l:=l),hR]; rfl
 rw[hR]
 simp -implicitDefEqProofs only[c75,go_sem,JJ]
 refine ⟨by omega,1,by rw[Xl],rfl⟩
theorem cloneE:Fn Tryz.prog 75 [.rslc 1 [] none] (.rslc 1 [] none):=by
 refine Jai ?_ rfl rfl
 refine KI c75_ok fun N=>?_
 simp -implicitDefEqProofs only[c75,go_sem]
 refine ok_eqnil rfl fun b=>?_
 cases b with
 |true=>
  simp -implicitDefEqProofs only[go_sem]
  exact .inl wk.nils
 |false=>
  simp -implicitDefEqProofs only[go_sem]
  exact .inr ⟨0,1,[],rfl,rfl,by simp[frz]; exact wk.refl _⟩
theorem equalI (a b:List Int) (ha:a.length≤100000):Fn Tryz.prog 78 [.rslc 1 (iz a) none,.rslc 1 (iz b) none] (.bool (a == b)):=by
 have hal:(iz a).length=a.length:=Jf
 have hbl:(iz b).length=b.length:=Jf
 refine Ja c78_ok rfl rfl fun N=>?_
 by_cases hl:a.length=b.length
 ·have e1:((a.length:Int) != (b.length:Int))=false:=by simp[hl]
  simp -implicitDefEqProofs only[c78,go_sem,hal,hbl,e1]
  refine Jz (I:=fun i:Nat=>i≤a.length∧a.take i=b.take i) (inv:=fun i=>gp [(0,.rslc 1 (iz a) none),(0,.rslc 1 (iz b) none),(10,.int .i64 (a.length:Int)),(0,.int .i64 (i:Int))] 12) (hp:=fun _=>[]) (μ:=fun i=>a.length-i) 0 ⟨by omega,by simp⟩ ?_ rfl ?_
  ·simp[forget,gp,hal]
  ·rintro i ⟨hi,hinv⟩
   by_cases hlt:i < a.length
   ·have d1:((i:Int) < (a.length:Int))=True:=Jn
    have hga:=JR hlt
    have hgb:=JR (l:=b) (i:=i) (by omega)
    have hta:=Xi (d:=0) hlt
    have htb:=Xi (l:=b) (i:=i) (d:=0) (by omega)
    simp -implicitDefEqProofs only[go_sem,hal,hbl,d1]
    refine JS JA (by decide) ?_
    simp -implicitDefEqProofs only[go_sem,hal,hbl,hga,hgb]
    refine ⟨by omega,by omega,?_⟩
    by_cases he:a.getD i 0=b.getD i 0
    ·have e2:(a.getD i 0 != b.getD i 0)=false:=by rw[he]; simp
     simp -implicitDefEqProofs only[go_sem,e2]
     refine ⟨Ji,i+1,⟨by omega,by rw[hta,htb,hinv,he]⟩,by omega,?_⟩
     simp[forget,hal]
    ·have e2:(a.getD i 0 != b.getD i 0)=true:=by simpa using he
     have hne:(a == b)=false:=by
      rw[beq_eq_false_iff_ne]; rintro rfl; exact he rfl
     simp -implicitDefEqProofs only[go_sem,e2,hne]
   ·have d1:((i:Int) < (a.length:Int))=False:=Jj
    have he:(a == b)=true:=by
     rw[beq_iff_eq]
     have h1:i=a.length:=by omega
     rw[h1,List.take_length,List.take_of_length_le (by omega)]at hinv
     exact hinv
    simp -implicitDefEqProofs only[go_sem,hal,hbl,d1,he]
 ·have e1:((a.length:Int) != (b.length:Int))=true:=by simp; omega
  have hne:(a == b)=false:=by
   rw[beq_eq_false_iff_ne]; rintro rfl; exact hl rfl
  simp -implicitDefEqProofs only[c78,go_sem,hal,hbl,e1,hne]
theorem GoodT.item {t:Tr}{o:List Int}(g:GoodT t o) {i:Nat}(hi:i < t.items.length):∃ L F:Nat,t.items.getD i 0=(L:Int)∧fs o L=(F:Int)∧F≤L∧L < t.nodes.length∧o.length=t.nodes.length∧o.getD L 0=(F:Int):=by
 have hol:o.length=t.nodes.length:=by rw[g.ord.len,Qs]
 have hm:t.items.getD i 0∈t.items:=by
  rw[Ga,Gb hi]; exact List.getElem_mem hi
 obtain ⟨_,h2,h3,h4⟩:=KW g.ord.ok hol _ _ _ g.its _ hm
 obtain ⟨h5,h6⟩:=Jgv g.ord.ok h2 (by omega)
 generalize t.items.getD i 0=L at *
 obtain ⟨L,rfl⟩:∃ n:Nat,L=(n:Int):=⟨L.toNat,by omega⟩
 exact ⟨L,(fs o L).toNat,rfl,by omega,by omega,by omega,hol,by rw[show o.getD L 0=fs o (L:Int) by simp[fs]]; omega⟩
end Go.Cm
end
end
