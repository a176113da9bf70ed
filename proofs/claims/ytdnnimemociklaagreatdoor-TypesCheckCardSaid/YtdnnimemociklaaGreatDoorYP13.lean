/-
  A part of the proof. Conditions: none.
-/
import Derived.Test.YtdnnimemociklaaGreatDoorYP3
set_option linter.unusedSimpArgs false
set_option linter.unusedVariables false
open List renaming map_cons->Gb,map_nil->Gc,length_singleton->Gf,length_append->Gg,getD_cons_zero->Gh,getD_cons_succ->Gi,getElem?_eq_some_iff->Gq,getElem?_eq_getElem->Gr,length_cons->Gj,cons_append->Gl,nil_append->Gm,length_nil->Gn,map_append->Gs,take_length->Gt,getD_eq_getElem?_getD->Gz,drop_zero->Gu,getElem?_set_self->GA,replicate->Gx,all_eq_true->GD,getElem?_set_ne->GH,length_pos_iff->GI,getElem?_append_right->GK,length_set->GL,getElem?_append_left->GM,getElem?_cons_zero->GN,getElem?_cons_succ->GQ,getElem_mem->GR
open Option.some renaming inj->GJ,injEq->GU
open Nat renaming le_refl->Gd,zero_add->Gv,zero_le->GG,sub_self->GV
open Go.Proofs.Tryz renaming prog->Ga
open Bool renaming and_eq_true->Gp,false_eq_true->Gw
open Int renaming cast_ofNat_Int->Gy
noncomputable section
section
set_option maxRecDepth 100000
open Go.Proofs
namespace Go.Cm
variable {ts:List (Nat×LA×Nat)}{e:Int}{f i n0 q r z:Nat}{own own':LC}{imm:Nat->Nat->LG}{k:LM}{w:World}{x:Nd}{P:Program}{E:Env}{H:Lv}{res:CV}{N:Fr}{Q:Exit->Lu->Lv->Prop}{T:Lu}{d d1 d2:Option Nat}{ags:LP}{α:Type}{els:LQ}{es:List LB}{ρ:LB}{K:Lu->Lv->Prop}{bs:LK}{A c2:ICode}
structure PS (ts:List (Nat×LA×Nat)) where
 at_:Nat
 le:at_<=ts.length
 nodes:LF
 bad:Int
def pC (e:Int)(s:PS ts)(r:Nat):Lu:=[.rslc 3 (lxr ts) none,.int .i64 e,.int .i64 (s.at_:Int),Qr r (ndz s.nodes),.int .i64 s.bad]
def pO (e:Int)(s:PS ts)(r:Nat):CObj:=.arr 5 [pC e s r]
def nO (s:PS ts):CObj:=Xm 5 (ndz s.nodes)
theorem Jbg {s:PS ts}:flat (nO s):=rowO_flat (Xh _)
theorem pC_rel{s:PS ts}{j:Nat}(h:∀x,own[i]? = some x->own'[j]? = some x){k:Nat}{c c':CV}{v:Value}(hc:(pC e s i)[k]? = some c)(C8:(pC e s j)[k]? = some c')(hv:rel own imm c v):rel own' imm c' v:=by
 have cl:∀d:CV,d.closed=true->rel own imm d v->rel own' imm d v:=λd hd hr=>Qt d v hd hr
 match k with
 |0=>simp[pC]at hc C8;subst hc C8;exact cl _ rfl hv
 |1=>simp[pC]at hc C8;subst hc C8;exact cl _ rfl hv
 |2=>simp[pC]at hc C8;subst hc C8;exact cl _ rfl hv
 |3=>
  simp[pC]at hc C8;subst hc C8
  cases hn:ndz s.nodes with
  |nil=>rw[hn]at hv;exact hv
  |cons a l=>rw[hn]at hv;simp only[Qr,rel]at hv|-;obtain⟨x,a,c,hx,q⟩:=hv;exact⟨x,a,c,h x hx,q⟩
 |4=>simp[pC]at hc C8;subst hc C8;exact cl _ rfl hv
 |k+5=>simp[pC]at hc
theorem pO_rel{s:PS ts}{j:Nat}{x:Own}(h:∀x,own[i]? = some x->own'[j]? = some x)(ho:Y7 own imm x (pO e s i) w):Y7 own' imm x (pO e s j) w:=by
 obtain⟨hz,c,elem,g1,g2,g3,g4,g5⟩:=ho;refine⟨hz,c,elem,g1,g2,g3,λm e' he=>?_,g5⟩;have hm:m=0:=by have:=(Gq.1 he).1;simp at this;exact this
 subst hm;simp only[GN,GU]at he;subst he;obtain⟨q1,q2⟩:=g4 0 (pC e s i) rfl;refine⟨q1,λt d hd=>?_⟩;have ht:=(Gq.1 hd).1;have Uq:t<(pC e s i).length:=ht;obtain⟨d',DD⟩:∃d',(pC e s i)[t]? = some d':=⟨_,Gr Uq⟩;obtain⟨r,r1,r2⟩:=q2 t d' DD;exact⟨r,r1,pC_rel h DD hd r2⟩
theorem Jeg{x:Own}{o:CObj}(hf:flat o)(ho:Y7 own imm x o w):Y7 own' imm x o w:=by
 rcases hf with rfl|⟨z,els,rfl,hc⟩
 ·trivial
 ·obtain⟨hz,c,elem,g1,g2,g3,g4,g5⟩:=ho;exact⟨hz,c,elem,g1,g2,g3,λj e he=>⟨(g4 j e he).1,λt c CR=>let ⟨r,q1,q2⟩:=(g4 j e he).2 t c CR;⟨r,q1,Qt c r (YX (Yy hc _ _ he) _ _ CR) q2⟩⟩,g5⟩
theorem CallsC.meth{args:Lu}{s s':PS ts}(h:CallsC P Env.none f (.ptr 0 0 0::args) [pO e s 1,nO s] λv H'=>v=res/\H'=[pO e s' 2,.dead,nO s'])(ha:Jk args=true)(hc:res.closed=true)(hq:H[q]? = some (pO e s r))(hr:H[r]? = some (nO s))(Ii:q≠r) :
  CallsC P E f (.ptr q 0 0::args) H λv H'=>v=res/\H'=((H.set q (pO e s' H.length)).set r .dead)++[nO s']:=by
 intro m w vs hs hv;have Ad:=hs.len;have Rx:=(Gq.1 hq).1;have Pv:=(Gq.1 hr).1;obtain⟨xq,EG⟩:∃x,m.own[q]? = some x:=⟨_,Gr om⟩;obtain⟨xr,Iq⟩:∃x,m.own[r]? = some x:=⟨_,Gr om⟩;have CU:∀(t:PS ts) i,(pO e t i).alive=true:=λ_ _=>rfl
 have ET:Sim Env.none { own:=[xq,xr],imm:=m.imm,ext:=λ_=>False } [pO e s 1,nO s] w:=by
  refine⟨rfl,λk o x hk hx=>?_,hs.imm,hs.one,λk k' o o' x x' hk AC ha AX hx Aw hB=>?_,λk o x hk Am hx=>?_,λk a b hk=>?_,λk o x hk Am hx=>?_,λB hB=>hs.extlt B (.inr (hB.resolve_left id)),hs.gl.1,λB hB=>hB.elim⟩
  ·match k with
   |0=>simp at hk hx;subst hk hx;exact pO_rel (λy hy=>by rw[Iq]at hy;simpa using hy) (hs.obj q _ _ hq EG)
   |1=>simp at hk hx;subst hk hx;exact Jeg Jbg (hs.obj r _ _ hr Iq)
   |k+2=>simp at hk
  ·match k,k' with
   |0,0=>rfl
   |1,1=>rfl
   |0,1=>simp at hk AC hx Aw;subst hk AC hx Aw;exact absurd (hs.sep q r _ _ _ _ hq hr ha AX EG Iq hB) Ii
   |1,0=>simp at hk AC hx Aw;subst hk AC hx Aw;exact absurd (hs.sep r q _ _ _ _ hr hq ha AX Iq EG hB).symm Ii
   |k+2,_=>simp at hk
   |_,k' + 2=>simp at AC
  ·match k with
   |0=>simp at hk hx;subst hk hx;exact hs.ro q _ _ hq rfl EG
   |1=>simp at hk hx;subst hk hx;exact hs.ro r _ _ hr Am Iq
   |k+2=>simp at hk
  ·match k with
   |0=>simp[pO]at hk
   |1=>simp at hk;rcases Jbg (s:=s) with h|⟨_,_,h,_⟩ <;> rw[h]at hk <;> cases hk
   |k+2=>simp at hk
  ·match k with
   |0=>simp at hk hx;subst hk hx;exact λhB=>hs.extsep q _ _ hq rfl EG (.inr (hB.resolve_left id))
   |1=>simp at hk hx;subst hk hx;exact λhB=>hs.extsep r _ _ hr Am Iq (.inr (hB.resolve_left id))
   |k+2=>simp at hk
 have UX:J7 [xq,xr] m.imm (.ptr 0 0 0::args) vs.toList:=by
  simp only[J7]at hv|-;obtain⟨a,us,e1,e2,e3⟩:=hv;refine⟨a,us,e1,?_,K5 _ _ ha e3⟩;simp only[rel]at e2|-;obtain⟨x,hx,e2⟩:=e2;rw[EG]at hx
  cases hx
  exact⟨xq,rfl,e2⟩
 refine(h _ w vs ET UX).mono ?_;rintro ev w' ⟨rv,m',v,G,rfl,Af,AB,hrel,rfl,rfl⟩;have ML:=AB.len;simp only[Gj,Gn]at ML;have o0:m'.own[0]? = some xq:=Af.base 0 xq sM rfl;have o1:m'.own[1]? = some xr:=Af.base 1 xr sM rfl;obtain⟨y,o2⟩:∃y,m'.own[2]? = some y:=⟨_,Gr om⟩;have own0:∀B,owned { own:=[xq,xr],imm:=m.imm,ext:=λ_=>False } [pO e s 1,nO s] B->B=xq.B\/((nO s).alive=true/\B=xr.B):=by
  rintro B (h|⟨k,o,x,hk,Am,hx,rfl⟩)
  ·exact h.elim
  ·match k with
   |0=>simp at hk hx;subst hk hx;exact .inl rfl
   |1=>simp at hk hx;subst hk hx;exact .inr ⟨Am,rfl⟩
   |k+2=>simp at hk
 have ownM:∀B,owned { own:=[xq,xr],imm:=m.imm,ext:=λ_=>False } [pO e s 1,nO s] B->owned m H B:=λB hB=>by
  rcases own0 B hB with rfl|⟨Am,rfl⟩
  ·exact .inr ⟨q,_,xq,hq,rfl,EG,rfl⟩
  ·exact .inr ⟨r,_,xr,hr,Am,Iq,rfl⟩
 have UQ:(nO s').alive=true->owned { own:=[xq,xr],imm:=m.imm,ext:=λ_=>False } [pO e s 1,nO s] y.B\/w.heap.size<=y.B:=λAm=>Af.newOwn y.B (.inr ⟨2,_,y,rfl,Am,o2,rfl⟩)
 have EX:∀(k:Nat) o x,k≠q->k≠r->H[k]? = some o->o.alive=true->m.own[k]? = some x->¬owned { own:=[xq,xr],imm:=m.imm,ext:=λ_=>False } [pO e s 1,nO s] x.B:=λk o x h1 h2 hk Am hx hB=>by
  rcases own0 _ hB with h|⟨Pf,h⟩
  ·exact h1 (hs.sep k q _ _ _ _ hk hq Am rfl hx EG h)
  ·exact h2 (hs.sep k r _ _ _ _ hk hr Am Pf hx Iq h)
 have AL:∀(k:Nat) o x,k≠q->k≠r->H[k]? = some o->o.alive=true->m.own[k]? = some x->w'.heap[x.B]? = w.heap[x.B]?:=λk o x h1 h2 hk Am hx=>Af.frame _ (Yq hs hk Am hx) (EX k o x h1 h2 hk Am hx)
 have hH:∀(k:Nat) o,(((H.set q (pO e s' H.length)).set r .dead)++[nO s'])[k]? = some o->(k=q/\o=pO e s' H.length)\/(k=r/\o=.dead)\/(k=H.length/\o=nO s')\/(k<H.length/\k≠q/\k≠r/\H[k]? = some o):=λk o hk=>by
  rcases Jdu hk with ⟨Ab,Aq⟩|⟨j,rfl,Aq⟩
  ·simp only[GL]at Ab;by_cases h1:k=r
   ·subst h1;rw[GA (by simpa using Ab)]at Aq;exact .inr (.inl ⟨rfl,(GJ Aq).symm⟩)
   ·rw[GH (λh=>h1 h.symm)]at Aq;by_cases h2:k=q
    ·subst h2;rw[GA Ab]at Aq;exact .inl ⟨rfl,(GJ Aq).symm⟩
    ·rw[GH (λh=>h2 h.symm)]at Aq;exact .inr (.inr (.inr ⟨Ab,h2,h1,Aq⟩))
  ·match j with
   |0=>simp at Aq;exact .inr (.inr (.inl ⟨sM,Aq.symm⟩))
   |j+1=>simp at Aq
 have hO:∀(k:Nat) x,(m.own++[y])[k]? = some x->(k<H.length/\m.own[k]? = some x)\/(k=H.length/\x=y):=λk x hx=>by
  rcases Jdu hx with ⟨Ab,Bg⟩|⟨j,rfl,Bg⟩
  ·exact .inl ⟨om,Bg⟩
  ·match j with
   |0=>simp at Bg;exact .inr ⟨om,Bg.symm⟩
   |j+1=>simp at Bg
 have Ow:∀x,(m.own++[y])[q]? = some x->x=xq:=λx hx=>by
  rcases hO q x hx with ⟨_,h⟩|⟨h,_⟩
  ·rw[EG]at h;exact(GJ h).symm
  ·omega
 have Ml:∀(k:Nat) x,k<H.length->(m.own++[y])[k]? = some x->m.own[k]? = some x:=λk x hk hx=>by
  rcases hO k x hx with ⟨_,h⟩|⟨h,_⟩
  ·exact h
  ·omega
 have Ox:∀x,(m.own++[y])[H.length]? = some x->x=y:=λx hx=>by
  rcases hO _ x hx with ⟨h,_⟩|⟨_,h⟩
  ·omega
  ·exact h
 have Be:=KZ.append m.own [y];refine⟨rv,{ m with own:=m.own++[y],imm:=m'.imm },v,_,rfl,⟨Af.size,λB hB hn=>Af.frame B hB λh=>hn (ownM B h),Af.imm,?_,λB i v hv=>?_,λk x _ hx=>Be _ _ hx,λh=>by simp;omega,Af.same⟩,⟨by simp[Ad],λk o x hk hx=>?_,AB.imm,AB.one,λk k' o o' x x' hk AC ha AX hx Aw hB=>?_,λk o x hk Am hx i hi=>?_,λk a b hk=>?_,λk o x hk Am hx=>?_,λB hB=>Nat.lt_of_lt_of_le (hs.extlt B hB) Af.size,AB.gl.1,hs.gl.2⟩,Qt v rv hc hrel,rfl,rfl⟩
 ·rintro B (hB|⟨k,o,x,hk,Am,hx,rfl⟩)
  ·exact .inl (.inl hB)
  ·rcases hH k o hk with ⟨rfl,rfl⟩|⟨_,rfl⟩|⟨rfl,rfl⟩|⟨Ab,h1,h2,hk⟩
   ·rw[Ow x hx];exact .inl (.inr ⟨k,_,xq,hq,rfl,EG,rfl⟩)
   ·cases Am
   ·rw[Ox x hx];rcases UQ Am with h|h
    ·exact .inl (ownM _ h)
    ·exact .inr h
   ·exact .inl (.inr ⟨k,o,x,hk,Am,Ml k x Ab hx,rfl⟩)
 ·rcases Af.newImm B i v hv with h|h|h
  ·exact .inl h
  ·exact .inr (.inl (ownM B h))
  ·exact .inr (.inr h)
 ·rcases hH k o hk with ⟨rfl,rfl⟩|⟨_,rfl⟩|⟨rfl,rfl⟩|⟨Ab,h1,h2,hk⟩
  ·rw[Ow x hx];exact pO_rel (λz hz=>by rw[o2]at hz;show (m.own++[y])[H.length]? = some z;rw[<-Ad,GK (Gd _),GV];exact hz) (AB.obj 0 _ _ rfl o0)
  ·trivial
  ·rw[Ox x hx];exact Jeg Jbg (AB.obj 2 _ _ rfl o2)
  ·have Bg:=Ml k x Ab hx;by_cases Am:o.alive=true
   ·exact KO Be Af.imm (λ_=>AL k o x h1 h2 hk Am Bg) (hs.obj k o x hk Bg)
   ·cases o <;> simp[CObj.alive]at Am <;> trivial
 ·have nq:(nO s').alive=true->∀{k:Nat} {o:CObj} {x:Own},k<H.length->k≠q->k≠r->H[k]? = some o->o.alive=true->m.own[k]? = some x->x.B≠y.B:=λAm k o x Ab h1 h2 hk ha hx hB=>by
   rcases UQ Am with h|h
   ·exact EX k o x h1 h2 hk ha hx (hB▸h)
   ·have:=Yq hs hk ha hx;omega
  have qy:(nO s').alive=true->xq.B≠y.B:=λAm hB=>by have:=AB.sep 0 2 _ _ _ _ rfl rfl rfl Am o0 o2 hB;omega
  rcases hH k o hk with ⟨e1,rfl⟩|⟨_,rfl⟩|⟨e1,rfl⟩|⟨Ab,h1,h2,gk⟩ <;> rcases hH k' o' AC with ⟨e1',rfl⟩|⟨_,rfl⟩|⟨e1',rfl⟩|⟨MK,DN,FU,gk'⟩
  ·omega
  ·cases AX
  ·subst e1 e1';rw[Ow x hx,Ox x' Aw]at hB;exact absurd hB (qy AX)
  ·subst e1;rw[Ow x hx]at hB;exact(hs.sep k k' _ _ _ _ hq gk' rfl AX EG (Ml k' x' MK Aw) hB)
  ·cases ha
  ·cases ha
  ·cases ha
  ·cases ha
  ·subst e1 e1';rw[Ox x hx,Ow x' Aw]at hB;exact absurd hB.symm (qy ha)
  ·cases AX
  ·omega
  ·subst e1;rw[Ox x hx]at hB;exact absurd hB.symm (nq ha MK DN FU gk' AX (Ml k' x' MK Aw))
  ·subst e1';rw[Ow x' Aw]at hB;exact hs.sep k k' _ _ _ _ gk hq ha rfl (Ml k x Ab hx) EG hB
  ·cases AX
  ·subst e1';rw[Ox x' Aw]at hB;exact absurd hB (nq AX Ab h1 h2 gk ha (Ml k x Ab hx))
  ·exact hs.sep k k' _ _ _ _ gk gk' ha AX (Ml k x Ab hx) (Ml k' x' MK Aw) hB
 ·rcases hH k o hk with ⟨rfl,rfl⟩|⟨_,rfl⟩|⟨rfl,rfl⟩|⟨Ab,h1,h2,hk⟩
  ·rw[Ow x hx]at hi|-;exact AB.ro 0 _ _ rfl rfl o0 i hi
  ·cases Am
  ·rw[Ox x hx]at hi|-;exact AB.ro 2 _ _ rfl Am o2 i hi
  ·have Bg:=Ml k x Ab hx
   cases hv:m'.imm x.B i with
   |none=>rfl
   |some v=>
    rcases Af.newImm _ _ _ hv with h|h|h
    ·rw[hs.ro k o x hk Am Bg i hi]at h;cases h
    ·exact absurd h (EX k o x h1 h2 hk Am Bg)
    ·have:=Yq hs hk Am Bg;omega
 ·rcases hH k _ hk with ⟨_,h⟩|⟨_,h⟩|⟨_,h⟩|⟨Ab,h1,h2,hk⟩
  ·cases h
  ·cases h
  ·rcases Jbg (s:=s') with g|⟨_,_,g,_⟩ <;> rw[g]at h <;> cases h
  ·refine E.stable _ _ _ _ _ _ _ (hs.ext k a b hk) (λB hB=>Af.frame B (hs.extlt B hB) λh=>?_) Af.size Af.imm (λB i v hv=>?_) AB.imm AB.one
   ·rcases own0 B h with rfl|⟨Am,rfl⟩
    ·exact hs.extsep q _ _ hq rfl EG hB
    ·exact hs.extsep r _ _ hr Am Iq hB
   ·rcases Af.newImm B i v hv with h|h|h
    ·exact .inl h
    ·refine .inr λhB=>?_
     rcases own0 B h with rfl|⟨Am,rfl⟩
     ·exact hs.extsep q _ _ hq rfl EG (.inl hB)
     ·exact hs.extsep r _ _ hr Am Iq (.inl hB)
    ·refine .inr λhB=>?_
     have:=hs.extlt B (.inl hB);omega
 ·rcases hH k o hk with ⟨rfl,rfl⟩|⟨_,rfl⟩|⟨rfl,rfl⟩|⟨Ab,h1,h2,hk⟩
  ·rw[Ow x hx];exact hs.extsep k _ _ hq rfl EG
  ·cases Am
  ·rw[Ox x hx];intro hB;rcases UQ Am with h|h
   ·rcases own0 _ h with h|⟨Pf,h⟩
    ·rw[h]at hB;exact hs.extsep q _ _ hq rfl EG hB
    ·rw[h]at hB;exact hs.extsep r _ _ hr Pf Iq hB
   ·have:=hs.extlt _ hB;omega
  ·exact hs.extsep k o x hk Am (Ml k x Ab hx)
variable {s' s0:PS ts}
abbrev PS.tok (s:PS ts):Nat×LA×Nat:=ts.getD s.at_ (0,[],0)
def PS.text (s:PS ts):LA:=if s.bad<0 then s.tok.2.1 else []
def PS.place (e:Int)(s:PS ts):Int:=if s.at_<ts.length then(s.tok.2.2:Nat) else e
def PS.fail (e:Int)(s:PS ts):PS ts:=if s.bad<0 then { s with bad:=s.place e } else s
def PS.adv (s:PS ts):PS ts:=if h:s.at_<ts.length then { s with at_:=s.at_+1,le:=h } else s
def PS.is (x:LA)(s:PS ts):Bool:=s.text == x
def PS.pass (x:LA)(s:PS ts):PS ts:=if s.is x then s.adv else s
def PS.need (e:Int)(x:LA)(s:PS ts):PS ts:=if s.is x then s.adv else s.fail e
def PS.kind (k:Nat)(s:PS ts):Bool:=s.text != [] && s.tok.1 == k
def PS.take (e:Int)(k:Nat)(s:PS ts):PS ts:=if s.kind k then s.adv else s.fail e
def PS.taken (k:Nat)(s:PS ts):LA:=if s.kind k then s.tok.2.1 else []
theorem PS.text_in {s:PS ts}(h:s.text≠[]):s.at_<ts.length:=by
 rcases Nat.lt_or_ge s.at_ ts.length with g|g
 ·exact g
 ·refine absurd ?_ h;unfold PS.text PS.tok;rw[Gz,List.getElem?_eq_none g]
  split <;> rfl
theorem JhA(h:i<ts.length):(lxr ts).getD i []=lxz (ts.getD i (0,[],0)).1 (ts.getD i (0,[],0)).2.1 (ts.getD i (0,[],0)).2.2:=by unfold lxr;rw[Gz,List.getElem?_map,Gz,Gr h];rfl
section
variable{l:LD}
theorem vd_pure{g:Option (Nat×Bool)}{v:CV}(hg:GOk T g)(Ah:CallsC P E f (ags.map (Kg T)) H λv' H'=>v'=v/\H'=H)(h:vdr P E n0 N Q k l (put T d v) H):vdrC P E n0 N Q k ⟨d,.call f ags,g⟩ l T H:=⟨v,.inr ⟨hg,.inr (.inl ⟨f,ags,rfl,Ah⟩)⟩,h⟩
end
theorem set_self{l:List α}{x:α}(h:l[i]? = some x):l.set i x=l:=by
 refine List.ext_getElem? λk=>?_
 by_cases hk:i=k
 ·subst hk;rw[h,GA (Gq.1 h).1]
 ·rw[GH hk]
section
variable{s:PS ts}
theorem Jhu (hq:H[q]? = some (pO e s r)):CallsC Ga E 121 [.ptr q 0 0] H λv H'=>v=S s.text/\H'=H:=by
 refine Ki c121_ok λN=>?_
 simp only[c121,go_sem];refine JQ Jm vk ?_;by_cases hb:s.bad<0
 ·have d1:(s.bad>=0)=False:=JS;by_cases ha:s.at_<ts.length
  ·have d2:((s.at_:Int)>=(ts.length:Int))=False:=JS;have hx:=JhA ha;simp only[go_sem,hq,pO,pC,d1,Xc,d2];refine JQ Jm vk ?_;simp only[go_sem,hq,pO,pC,Xc,hx,lxz];refine⟨⟨om,om⟩,?_⟩;rw[PS.text,if_pos hb]
  ·have d2:((s.at_:Int)>=(ts.length:Int))=True:=J4;simp only[go_sem,hq,pO,pC,d1,Xc,d2];have h0:s.text=[]:=Decidable.byContradiction λh=>ha (PS.text_in h)
   rw[h0]
 ·have d1:(s.bad>=0)=True:=J4;simp only[go_sem,hq,pO,pC,d1];rw[PS.text,if_neg hb]
theorem pPlace (hq:H[q]? = some (pO e s r)):CallsC Ga E 163 [.ptr q 0 0] H λv H'=>v=.int .i64 (s.place e)/\H'=H:=by
 refine Ki c163_ok λN=>?_
 simp only[c163,go_sem];refine JQ Jm vk ?_;by_cases ha:s.at_<ts.length
 ·have d2:((s.at_:Int)>=(ts.length:Int))=False:=JS;have hx:=JhA ha;simp only[go_sem,hq,pO,pC,Xc,d2];refine JQ Jm vk ?_;simp only[go_sem,hq,pO,pC,Xc,hx,lxz];refine⟨⟨om,om⟩,?_⟩;rw[PS.place,if_pos ha]
 ·have d2:((s.at_:Int)>=(ts.length:Int))=True:=J4;simp only[go_sem,hq,pO,pC,Xc,d2];rw[PS.place,if_neg ha]
theorem pFail (hq:H[q]? = some (pO e s r)):CallsC Ga E 164 [.ptr q 0 0] H λv H'=>v=.tup []/\H'=H.set q (pO e (s.fail e) r):=by
 refine Ki c164_ok λN=>?_
 by_cases hb:s.bad<0
 ·have d1:(s.bad<0)=True:=eq_true hb;simp only[c164,go_sem,hq,pO,pC,d1];refine Kt (.inl rfl) (pPlace hq) ?_;rintro v H' ⟨rfl,rfl⟩;simp only[go_sem,hq,pO,pC];rw[PS.fail,if_pos hb]
 ·have d1:(s.bad<0)=False:=eq_false hb;simp only[c164,go_sem,hq,pO,pC,d1];rw[PS.fail,if_neg hb];exact(set_self hq).symm
theorem pIs {x:LA}(hx:x≠[])(hl:ts.length<=1000000)(hq:H[q]? = some (pO e s r)):CallsC Ga E 124 [.ptr q 0 0,S x] H λv H'=>v=.bool (s.is x)/\H'=H.set q (pO e (s.pass x) r):=by
 refine Ki c124_ok λN=>?_
 simp only[c124,go_sem];refine Kt (.inl rfl) (Jhu hq) ?_;rintro v H' ⟨rfl,rfl⟩;by_cases ht:s.text=x
 ·have hat:=PS.text_in (ht▸hx);have d1:(s.text == x)=true:=beq_iff_eq.2 ht;simp only[go_sem,d1,hq,pO,pC];refine⟨Jg,?_⟩;simp only[PS.pass,PS.is,d1,PS.adv,dif_pos hat,if_true];exact⟨trivial,rfl⟩
 ·have d1:(s.text == x)=false:=beq_eq_false_iff_ne.2 ht;simp only[go_sem,d1];simp only[PS.pass,PS.is,d1];exact⟨trivial,(set_self hq).symm⟩
theorem pNeed {x:LA}(hx:x≠[])(hl:ts.length<=1000000)(hq:H[q]? = some (pO e s r)):CallsC Ga E 119 [.ptr q 0 0,S x] H λv H'=>v=.int .i64 (s.place e)/\H'=H.set q (pO e (s.need e x) r):=by
 refine Ki c119_ok λN=>?_
 simp only[c119,go_sem];refine Kt (.inl rfl) (pPlace hq) ?_;rintro v H' ⟨rfl,rfl⟩;simp only[go_sem];refine Kt (.inl rfl) (pIs hx hl hq) ?_;rintro v K ⟨rfl,rfl⟩;have Rx:=(Gq.1 hq).1
 cases h:s.is x with
 |true=>simp only[go_sem];simp only[PS.pass,PS.need,h];rfl
 |false=>
  have hp:s.pass x=s:=by simp only[PS.pass,h];rfl
  rw[hp,set_self hq];simp only[go_sem];refine Kt (.inl rfl) (pFail hq) ?_;rintro v K ⟨rfl,rfl⟩;simp only[go_sem];simp only[PS.need,h];rfl
theorem pKind {k:Nat}(hq:H[q]? = some (pO e s r)):CallsC Ga E 165 [.ptr q 0 0,.int .u8 k] H λv H'=>v=.bool (s.kind k)/\H'=H:=by
 refine Ki c165_ok λN=>?_
 simp only[c165,go_sem];refine JQ Jm vk ?_;simp only[go_sem];refine vd_pure (.inl rfl) (Jhu hq) ?_;by_cases ht:s.text=[]
 ·have d1:(s.text == [])=true:=beq_iff_eq.2 ht;simp only[go_sem,d1];rw[PS.kind,show (s.text != [])=false by rw[bne,d1];rfl];rfl
 ·have d1:(s.text == [])=false:=beq_eq_false_iff_ne.2 ht;have hat:=PS.text_in ht;have hx:=JhA hat;simp only[go_sem,d1,hq,pO,pC,Xc,hx,lxz];refine⟨⟨om,om⟩,?_⟩;rw[PS.kind,show (s.text != [])=true by rw[bne,d1];rfl,Bool.true_and]
  congr 1
  rw[Bool.eq_iff_iff,beq_iff_eq,beq_iff_eq];exact Int.ofNat_inj
theorem PS.kind_in {k:Nat}(h:s.kind k=true):s.at_<ts.length:=by rw[PS.kind,Gp]at h;exact PS.text_in (by simpa using h.1)
theorem pTake {k:Nat}(hl:ts.length<=1000000)(hq:H[q]? = some (pO e s r)):CallsC Ga E 120 [.ptr q 0 0,.int .u8 k] H λv H'=>v=.tup [S (s.taken k),.int .i64 (s.place e)]/\H'=H.set q (pO e (s.take e k) r):=by
 refine Ki c120_ok λN=>?_
 have Rx:=(Gq.1 hq).1;have BJ:∀o:CObj,(H.set q o)[q]? = some o:=λo=>GA Rx
 simp only[c120,go_sem];refine JaZ (pPlace hq) ?_;simp only[go_sem];refine JaZ (pKind hq) ?_
 cases h:s.kind k with
 |false=>simp only[go_sem];refine Kt (.inl rfl) (pFail hq) ?_;rintro v K ⟨rfl,rfl⟩;simp only[go_sem];simp only[PS.take,PS.taken,h];exact⟨rfl,rfl⟩
 |true=>have hat:=PS.kind_in h;have hx:=JhA hat;simp only[go_sem,hq,pO,pC];refine⟨Jg,?_⟩;refine JQ Jm vk ?_;simp only[go_sem,BJ,Xc,Int.add_sub_cancel,Int.toNat_natCast,hx,lxz];refine⟨Jg,⟨om,om⟩,?_⟩;simp only[PS.take,PS.taken,h,if_true,PS.adv,dif_pos hat];exact⟨trivial,rfl⟩
def tsOk (ts:List (Nat×LA×Nat)):Bool:=ts.length<=1000000 && ts.all λt=>(t.1 != 3 || t.2.1.all Xy) && t.2.1.length<=1000000
def PS.num (s:PS ts):Int:=numV (s.taken 3)
theorem pNumber (AJ:tsOk ts=true)(hq:H[q]? = some (pO e s r)):CallsC Ga E 255 [.ptr q 0 0] H λv H'=>v=.int .i64 s.num/\H'=H.set q (pO e (s.take e 3) r):=by
 simp only[tsOk,Gp,decide_eq_true_eq,GD]at AJ;obtain⟨hl,ht⟩:=AJ;have hd:(s.taken 3).all Xy=true/\(s.taken 3).length<=1000000:=by
  unfold PS.taken
  cases h:s.kind 3 with
  |false=>simp
  |true=>
   have hat:=PS.kind_in h;rw[PS.kind,Gp,beq_iff_eq]at h;have hm:s.tok∈ts:=by unfold PS.tok;rw[Gz,Gr hat];exact GR hat
   have hg:=ht _ hm;rw[h.2]at hg;exact⟨by simpa using hg.1,hg.2⟩
 refine Ki c255_ok λN=>?_
 simp only[c255,go_sem];refine Kt (.inl rfl) (pTake (k:=3) hl hq) ?_;rintro v K ⟨rfl,rfl⟩;simp only[go_sem];refine JU (refNumber _ hd.1 hd.2) ?_;simp only[go_sem];rfl
end
section
variable{s:PS ts}{args:Lu}
def JbW (P:Program)(f:Nat)(args:Lu)(e:Int)(s s':PS ts)(res:CV):Prop:=CallsC P Env.none f (.ptr 0 0 0::args) [pO e s 1,nO s] λv H'=>v=res/\H'=[pO e s' 2,.dead,nO s']
theorem Xw {R:CV->Lv->Prop}(h:CallsC P Env.none f (.ptr 0 0 0::args) [pO e s 1,nO s] R)(hc:res.closed=true)(hR:∀v H',R v H'->v=res/\∃r,1<=r/\H'[0]? = some (pO e s' r)/\H'[r]? = some (nO s')):JbW P f args e s s' res:=by
 intro m w vs hs hv;refine(h m w vs hs hv).mono ?_;rintro ev w' ⟨rv,m',v,H',rfl,Af,AB,hrel,g⟩;obtain⟨rfl,r,h1,hp,hn⟩:=hR v H' g;have Ad:=AB.len;have l0:=(Gq.1 hp).1;have lr:=(Gq.1 hn).1;obtain⟨x0,o0⟩:∃y,m'.own[0]? = some y:=⟨_,Gr om⟩;obtain⟨x1,o1⟩:∃y,m'.own[1]? = some y:=⟨_,Gr om⟩;obtain⟨xr,or⟩:∃y,m'.own[r]? = some y:=⟨_,Gr om⟩;have hH:∀(k:Nat) o x,[pO e s' 2,.dead,nO s'][k]? = some o->o.alive=true->[x0,x1,xr][k]? = some x->∃k' o',H'[k']? = some o'/\o'.alive=true/\m'.own[k']? = some x/\((k=0/\k'=0)\/(k=2/\k'=r)):=λk o x hk ha hx=>by
  match k with
  |0=>simp at hk hx;subst hk hx;exact⟨0,_,hp,rfl,o0,.inl ⟨rfl,rfl⟩⟩
  |1=>simp at hk;subst hk;cases ha
  |2=>simp at hk hx;subst hk hx;exact⟨r,_,hn,ha,or,.inr ⟨rfl,rfl⟩⟩
  |k+3=>simp at hk
 refine⟨rv,{ m' with own:=[x0,x1,xr] },v,_,rfl,⟨Af.size,Af.frame,Af.imm,?_,Af.newImm,λk x hk hx=>?_,λ_=>sM,Af.same⟩,⟨rfl,λk o x hk hx=>?_,AB.imm,AB.one,λk k' o o' x x' hk AC ha AX hx Aw hB=>?_,λk o x hk Am hx=>?_,λk a b hk=>?_,λk o x hk Am hx=>?_,AB.extlt,AB.gl⟩,Qt v rv hc hrel,rfl,rfl⟩
 ·rintro B (hB|⟨k,o,x,hk,Am,hx,rfl⟩)
  ·exact Af.newOwn B (.inl hB)
  ·obtain⟨k',o',q1,q2,q3,_⟩:=hH k o x hk Am hx;exact Af.newOwn _ (.inr ⟨k',o',x,q1,q2,q3,rfl⟩)
 ·have hb:=Af.base k x hk hx
  match k with
  |0=>rw[o0]at hb;cases hb;rfl
  |1=>rw[o1]at hb;cases hb;rfl
  |k+2=>simp at hk;omega
 ·match k with
  |0=>simp at hk hx;subst hk hx;exact pO_rel (λy hy=>by rw[or]at hy;simpa using hy) (AB.obj 0 _ _ hp o0)
  |1=>simp at hk;subst hk;trivial
  |2=>simp at hk hx;subst hk hx;exact Jeg Jbg (AB.obj r _ _ hn or)
  |k+3=>simp at hk
 ·obtain⟨j,y,q1,q2,q3,q4⟩:=hH k o x hk ha hx;obtain⟨j',y',q1',q2',q3',q4'⟩:=hH k' o' x' AC AX Aw;have:=AB.sep j j' _ _ _ _ q1 q1' q2 q2' q3 q3' hB;omega
 ·obtain⟨j,y,q1,q2,q3,q4⟩:=hH k o x hk Am hx;exact AB.ro j _ _ q1 q2 q3
 ·match k with
  |0=>simp[pO]at hk
  |1=>simp at hk
  |2=>simp at hk;rcases Jbg (s:=s') with h|⟨_,_,h,_⟩ <;> rw[h]at hk <;> cases hk
  |k+3=>simp at hk
 ·obtain⟨j,y,q1,q2,q3,q4⟩:=hH k o x hk Am hx;exact AB.extsep j _ _ q1 q2 q3
end
section
variable{l:LD}{s:PS ts}
theorem vr_meth{args:Lu}(hM:JbW Ga f args e s s' res)(hq:H[q]? = some (pO e s r))(hr:H[r]? = some (nO s))(Ii:q≠r)(ha:Jk args=true)(hc:res.closed=true)(hw:wks (ags.map (Kg T)) (.ptr q 0 0::args))(h:KD Ga E n0 N Q (.ops l::k) (put T d res) ((H.set q (pO e s' H.length)).set r .dead++[nO s'])):Ok Ga E n0 N Q (.ops (⟨d,.call f ags,none⟩::l)::k) T H:=Kt (.inl rfl) ((hM.meth ha hc hq hr Ii).weaken hw) λv H' ⟨h1,h2⟩=>by rw[h1,h2];exact h
theorem Jab (x:LA)(hx:x≠[])(hl:ts.length<=1000000)(hq:H[q]? = some (pO e s r))(ha:ags.map (Kg T)=[.ptr q 0 0,S x])(ht:s.is x=true->KD Ga E n0 N Q (.ops l::k) (put T d (.bool true)) (H.set q (pO e s.adv r)))(hf:s.is x=false->KD Ga E n0 N Q (.ops l::k) (put T d (.bool false)) H):Ok Ga E n0 N Q (.ops (⟨d,.call 124 ags,none⟩::l)::k) T H:=by
 refine Kt (.inl rfl) (ha▸pIs hx hl hq) ?_;rintro v K ⟨rfl,rfl⟩
 cases h:s.is x with
 |true=>rw[PS.pass,if_pos h];exact ht h
 |false=>rw[PS.pass,if_neg (by simp[h]),set_self hq];exact hf h
theorem JV (x:LA)(hx:x≠[])(hl:ts.length<=1000000)(hq:H[q]? = some (pO e s r))(ha:ags.map (Kg T)=[.ptr q 0 0,S x])(h:KD Ga E n0 N Q (.ops l::k) (put T d (.int .i64 (s.place e))) (H.set q (pO e (s.need e x) r))):Ok Ga E n0 N Q (.ops (⟨d,.call 119 ags,none⟩::l)::k) T H:=Kt (.inl rfl) (ha▸pNeed hx hl hq) λv K ⟨h1,h2⟩=>by rw[h1,h2];exact h
theorem Jc2 (n:Nat)(hl:ts.length<=1000000)(hq:H[q]? = some (pO e s r))(ha:ags.map (Kg T)=[.ptr q 0 0,.int .u8 n])(h:KD Ga E n0 N Q (.ops l::k) (put T d (.tup [S (s.taken n),.int .i64 (s.place e)])) (H.set q (pO e (s.take e n) r))):Ok Ga E n0 N Q (.ops (⟨d,.call 120 ags,none⟩::l)::k) T H:=Kt (.inl rfl) (ha▸pTake hl hq) λv K ⟨h1,h2⟩=>by rw[h1,h2];exact h
theorem JdX (hq:H[q]? = some (pO e s r))(ha:ags.map (Kg T)=[.ptr q 0 0])(h:KD Ga E n0 N Q (.ops l::k) (put T d (.int .i64 (s.place e))) H):Ok Ga E n0 N Q (.ops (⟨d,.call 163 ags,none⟩::l)::k) T H:=JaZ (ha▸pPlace hq) h
theorem Jb1 (hq:H[q]? = some (pO e s r))(ha:ags.map (Kg T)=[.ptr q 0 0])(h:KD Ga E n0 N Q (.ops l::k) (put T d (S s.text)) H):Ok Ga E n0 N Q (.ops (⟨d,.call 121 ags,none⟩::l)::k) T H:=JaZ (ha▸Jhu hq) h
theorem JgN (n:Nat)(hq:H[q]? = some (pO e s r))(ha:ags.map (Kg T)=[.ptr q 0 0,.int .u8 n])(h:KD Ga E n0 N Q (.ops l::k) (put T d (.bool (s.kind n))) H):Ok Ga E n0 N Q (.ops (⟨d,.call 165 ags,none⟩::l)::k) T H:=JaZ (ha▸pKind hq) h
theorem vr_fail (hq:H[q]? = some (pO e s r))(ha:ags.map (Kg T)=[.ptr q 0 0])(h:KD Ga E n0 N Q (.ops l::k) (put T d (.tup [])) (H.set q (pO e (s.fail e) r))):Ok Ga E n0 N Q (.ops (⟨d,.call 164 ags,none⟩::l)::k) T H:=Kt (.inl rfl) (ha▸pFail hq) λv K ⟨h1,h2⟩=>by rw[h1,h2];exact h
theorem Ja0 (AJ:tsOk ts=true)(hq:H[q]? = some (pO e s r))(ha:ags.map (Kg T)=[.ptr q 0 0])(h:KD Ga E n0 N Q (.ops l::k) (put T d (.int .i64 s.num)) (H.set q (pO e (s.take e 3) r))):Ok Ga E n0 N Q (.ops (⟨d,.call 255 ags,none⟩::l)::k) T H:=Kt (.inl rfl) (ha▸pNumber AJ hq) λv K ⟨h1,h2⟩=>by rw[h1,h2];exact h
end
theorem KS{id:Nat}{s:PS ts}(h:r≠id):Kn id z els (pO e s r)=pO e s r:=by simp only[pO,pC,Kn,frz,JK,Gb,Gc,JcJ h]
theorem KT{id:Nat}{s:PS ts}:Kn id z els (nO s)=nO s:=Jbj (Xh _)
def PS.add (x:Nd)(s:PS ts):PS ts:={ s with nodes:=s.nodes++[x] }
theorem mAdd (x:Nd)(e:Int)(s:PS ts)(hn:s.nodes.length<=1000000):JbW Ga 123 [.agg x.cv] e s (s.add x) (.int .i64 (s.nodes.length:Nat)):=by
 refine Xw (Ki c123_ok λN=>?_) rfl λv H' h=>h
 have hl:(ndz s.nodes).length=s.nodes.length:=Ja;have F6:ndz (s.add x).nodes=ndz s.nodes++[x.cv]:=by simp[PS.add,ndz]
 have PI:JK 2 5 [x.cv] x.cv=x.cv:=QP _ (Nd.closed x);simp only[c123,go_sem,Nd.one,Nd.len];refine Je (id:=2) (z:=5) (els:=[x.cv]) rfl rfl ?_;simp only[go_sem,JK,frz,KC,PI,KS (show (1:Nat)≠2 by decide),KT];refine JaD [false,false,false,false,true,false,false,true,false,false,true] Jm vM ?_;simp only[go_sem,pO,pC,nO];refine vh_all (.ptr 0 0 0) (λ_=>rfl) trivial ?_;simp only[go_sem,Nd.len];refine vh_row [x.cv] rfl rfl rfl rfl ?_;simp only[go_sem,JA,hl];refine anO ?_;refine vh_all (.ptr 0 0 0) (λ_=>rfl) trivial ?_;simp only[go_sem];refine⟨Jg,by congr 1;omega,3,vk,?_,?_⟩
 ·rw[F6,KM,hl];rfl
 ·rw[F6,KN];rfl
inductive Pr
 |typ|block|stmt|bind|exprs|Expr|post|atom|cells|bound|Def
 |left (r:Nat)|loop (p:Int)|array (p:Int)
 |defL (k:Lx)|defT (k:Lx)|blockL (k:Lx)|stmtL (k:Lx)|exprsL (k:Lx)|leftL (r:Nat) (a:Int)|postL (a:Int)|loopL (k:Lx)|loopS (k:Lx)|loopN (k:Lx)|arrayL (k:Lx)
abbrev wDef:LA:=[100,101,102]
abbrev wLp:LA:=[40]
abbrev wRp:LA:=[41]
abbrev wCm:LA:=[44]
abbrev wCo:LA:=[58]
abbrev wAr:LA:=[45,62]
abbrev wInt:LA:=[105,110,116]
abbrev wBool:LA:=[98,111,111,108]
abbrev wLb:LA:=[91]
abbrev wRb:LA:=[93]
abbrev wStream:LA:=[115,116,114,101,97,109]
abbrev wLc:LA:=[123]
abbrev wRc:LA:=[125]
abbrev wGive:LA:=[103,105,118,101]
abbrev wEq:LA:=[61]
abbrev wSe:LA:=[59]
abbrev wCons:LA:=[58,58]
abbrev wNot:LA:=[110,111,116]
abbrev wMi:LA:=[45]
abbrev wTrue:LA:=[116,114,117,101]
abbrev wFalse:LA:=[102,97,108,115,101]
abbrev wNil:LA:=[110,105,108]
abbrev wIf:LA:=[105,102]
abbrev wElse:LA:=[101,108,115,101]
abbrev wLoop:LA:=[108,111,111,112]
abbrev wArray:LA:=[97,114,114,97,121]
abbrev wAs:LA:=[58,61]
abbrev wWhile:LA:=[119,104,105,108,101]
abbrev wDo:LA:=[100,111]
abbrev wNext:LA:=[110,101,120,116]
abbrev wIn:LA:=[105,110]
abbrev wDd:LA:=[46,46]
abbrev wBy:LA:=[98,121]
abbrev wHa:LA:=[35]
abbrev wOr:LA:=[111,114]
abbrev wAnd:LA:=[97,110,100]
abbrev wEqEq:LA:=[61,61]
abbrev wNe:LA:=[33,61]
abbrev wLt:LA:=[60]
abbrev wLe:LA:=[60,61]
abbrev wGt:LA:=[62]
abbrev wGe:LA:=[62,61]
abbrev wAdd:LA:=[43]
abbrev wMul:LA:=[42]
abbrev wDiv:LA:=[47]
abbrev wMod:LA:=[37]
abbrev wHead:LA:=[104,101,97,100]
abbrev wTail:LA:=[116,97,105,108]
abbrev wEmpty:LA:=[101,109,112,116,121]
abbrev wSize:LA:=[115,105,122,101]
def PS.put (x:Nd)(s:PS ts):Option (Int×Lx×PS ts):=if s.nodes.length<=1000000 then some ((s.nodes.length:Nat),[],s.add x) else none
def fin (v:Int)(k:Lx)(s:PS ts):Option (Int×Lx×PS ts):=if k.length<=1000000 then some (v,k,s) else none
def rankK (k:Nat):Nat:=[0,9,9,9,0,1,2,4,4,4,4,4,4,5,5,6,6,6,8,3,7].getD k 9
def signK (k:Nat):LA:=[[],[],[],[],wCons,wOr,wAnd,wEqEq,wNe,wLt,wLe,wGt,wGe,wAdd,wMi,wMul,wDiv,wMod].getD k []
def opF (x:LA)(r:Nat):Nat->Nat->Nat
 |0,_=>0
 |n+1,k=>if rankK k=r/\signK k=x then k else opF x r n (k+1)
def opK (x:LA)(r:Nat):Nat:=opF x r 13 5
def wordS (k:Nat):LA:=[wHead,wTail,wEmpty,wSize].getD (k-21) []
def wordF (x:LA):Nat->Nat->Nat
 |0,_=>0
 |n+1,k=>if wordS k=x then k else wordF x n (k+1)
def wordK (x:LA):Nat:=wordF x 4 21
def run (e:Int):Nat->Pr->PS ts->Option (Int×Lx×PS ts)
 |0,_,_=>none
 |f+1,.typ,s=>
  if s.is wInt then s.adv.put ⟨60,[],0,[],s.place e⟩
  else if s.is wBool then s.adv.put ⟨61,[],0,[],s.place e⟩
  else if s.is wLb then(run e f .typ s.adv).bind λ(v,_,s1)=>(s1.need e wRb).put ⟨62,[],0,[v],s.place e⟩
  else if s.is wStream then(run e f .typ s.adv).bind λ(v,_,s1)=>s1.put ⟨63,[],0,[v],s.place e⟩
  else fin 0 [] (s.fail e)
 |f+1,.block,s=>(run e f (.blockL []) (s.need e wLc)).bind λ(_,k,s1)=>(run e f .exprs (s1.need e wGive)).bind λ(_,l,s2)=>(s2.need e wRc).put ⟨40,[],(k.length:Nat),k++l,s.place e⟩
 |f+1,.blockL k,s=>if s.bad<0/\s.text≠wGive then(run e f .stmt s).bind λ(v,_,s1)=>run e f (.blockL (k++[v])) s1 else fin 0 k s
 |f+1,.stmt,s=>(run e f .bind s).bind λ(v,_,s1)=>(run e f (.stmtL [v]) s1).bind λ(_,k,s2)=>(run e f .Expr (s2.need e wEq)).bind λ(x,_,s3)=>(s3.need e wSe).put ⟨41,[],(k.length:Nat),k++[x],s2.place e⟩
 |f+1,.stmtL k,s=>if s.is wCm then(run e f .bind s.adv).bind λ(v,_,s1)=>run e f (.stmtL (k++[v])) s1 else fin 0 k s
 |f+1,.bind,s=>if (s.take e 2).is wCo then(run e f .typ (s.take e 2).adv).bind λ(v,_,s1)=>s1.put ⟨42,s.taken 2,0,[v],s.place e⟩ else(s.take e 2).put ⟨42,s.taken 2,0,[],s.place e⟩
 |f+1,.exprs,s=>(run e f .Expr s).bind λ(v,_,s1)=>run e f (.exprsL [v]) s1
 |f+1,.exprsL k,s=>if s.is wCm then(run e f .Expr s.adv).bind λ(v,_,s1)=>run e f (.exprsL (k++[v])) s1 else fin 0 k s
 |f+1,.Expr,s=>(run e f (.left 1) s).bind λ(a,_,s1)=>if s1.is wCons then(run e f .Expr s1.adv).bind λ(b,_,s2)=>s2.put ⟨4,[],0,[a,b],s1.place e⟩ else fin a [] s1
 |f+1,.left r,s=>
  if r=3/\s.text=wNot then(run e f (.left 3) (s.need e wNot)).bind λ(v,_,s1)=>s1.put ⟨19,[],0,[v],s.place e⟩
  else if r=7/\s.text=wMi then(run e f (.left 7) (s.need e wMi)).bind λ(v,_,s1)=>s1.put ⟨20,[],0,[v],s.place e⟩
  else if r=3\/r=7 then run e f (.left (r+1)) s
  else if r=8 then run e f .post s
  else(run e f (.left (r+1)) s).bind λ(a,_,s1)=>run e f (.leftL r a) s1
 |f+1,.leftL r a,s=>
  if opK s.text r=0 then fin a [] s
  else(run e f (.left (r+1)) (s.need e s.text)).bind λ(b,_,s1)=>(s1.put ⟨opK s.text r,[],0,[a,b],s.place e⟩).bind λ(v,_,s2)=>if r=4 then fin v [] s2 else run e f (.leftL r v) s2
 |f+1,.post,s=>(run e f .atom s).bind λ(a,_,s1)=>run e f (.postL a) s1
 |f+1,.postL a,s=>if s.text=wLb then(run e f .Expr (s.need e wLb)).bind λ(i,_,s1)=>((s1.need e wRb).put ⟨18,[],0,[a,i],s.place e⟩).bind λ(v,_,s2)=>run e f (.postL v) s2 else fin a [] s
 |f+1,.atom,s=>
  if s.kind 3 then(s.take e 3).put ⟨1,[],s.num,[],s.place e⟩
  else if s.kind 2 then
   if s.adv.is wLp then
    if s.adv.adv.text=wRp then(s.adv.adv.need e wRp).put ⟨26,s.text,0,[],s.place e⟩
    else(run e f .exprs s.adv.adv).bind λ(_,l,s1)=>(s1.need e wRp).put ⟨26,s.text,0,l,s.place e⟩
   else s.adv.put ⟨3,s.text,0,[],s.place e⟩
  else if s.is wTrue then s.adv.put ⟨2,[],1,[],s.place e⟩
  else if s.is wFalse then s.adv.put ⟨2,[],0,[],s.place e⟩
  else if s.is wLp then(run e f .Expr s.adv).bind λ(a,_,s1)=>fin a [] (s1.need e wRp)
  else if s.is wNil then(run e f .typ (s.adv.need e wLp)).bind λ(v,_,s1)=>(s1.need e wRp).put ⟨25,[],0,[v],s.place e⟩
  else if wordK s.text≠0 then(run e f .Expr (s.adv.need e wLp)).bind λ(v,_,s1)=>(s1.need e wRp).put ⟨wordK s.text,[],0,[v],s.place e⟩
  else if s.is wIf then(run e f .Expr s.adv).bind λ(c,_,s1)=>(run e f .block s1).bind λ(b,_,s2)=>(run e f .block (s2.need e wElse)).bind λ(d,_,s3)=>s3.put ⟨27,[],0,[c,b,d],s.place e⟩
  else if s.is wLoop then run e f (.loop (s.place e)) s.adv
  else if s.is wArray then run e f (.array (s.place e)) s.adv
  else fin 0 [] (s.fail e)
 |f+1,.loop p,s=>
  (run e f (.loopL []) (s.need e wLp)).bind λ(_,k,s1)=>(run e f .Expr ((s1.need e wRp).need e wWhile)).bind λ(c,_,s2)=>(run e f (.loopS (k++[c])) ((s2.need e wDo).need e wLc)).bind λ(_,k2,s3)=>(run e f (.loopN k2) s3).bind λ(_,k3,s4)=>(run e f .exprs (((s4.need e wRc).need e wGive).need e wLp)).bind λ(_,l,s5)=>((s5.need e wRp).put ⟨45,[],0,l,(s4.need e wRc).place e⟩).bind λ(g,_,s6)=>s6.put ⟨28,[],(k.length:Nat),k3++[g],p⟩
 |f+1,.loopL k,s=>if s.bad<0/\(k=[]\/s.text≠wRp) then
   let s0:=if k=[] then s else s.need e wCm
   (run e f .Expr ((s0.take e 2).need e wAs)).bind λ(v,_,s1)=>(s1.put ⟨43,s0.taken 2,0,[v],s0.place e⟩).bind λ(g,_,s2)=>run e f (.loopL (k++[g])) s2
  else fin 0 k s
 |f+1,.loopS k,s=>if s.kind 2 then(run e f .stmt s).bind λ(v,_,s1)=>run e f (.loopS (k++[v])) s1 else fin 0 k s
 |f+1,.loopN k,s=>if s.text=wNext then
   let s0:=s.need e wNext
   (run e f .Expr ((s0.take e 2).need e wEq)).bind λ(v,_,s1)=>((s1.need e wSe).put ⟨44,s0.taken 2,0,[v],s.place e⟩).bind λ(g,_,s2)=>run e f (.loopN (k++[g])) s2
  else fin 0 k s
 |f+1,.array p,s=>(run e f .Expr (s.need e wLp)).bind λ(z,_,s1)=>
   let n:=if s1.is wCm then s1.adv.num else 0
   let s2:=if s1.is wCm then s1.adv.take e 3 else s1
   (run e f .cells ((s2.need e wRp).need e wLc)).bind λ(c,_,s3)=>(run e f (.arrayL [z,c]) s3).bind λ(_,k,s4)=>(s4.need e wRc).put ⟨29,[],n,k,p⟩
 |f+1,.arrayL k,s=>if s.is wSe then(run e f .cells s.adv).bind λ(v,_,s1)=>run e f (.arrayL (k++[v])) s1 else fin 0 k s
 |f+1,.cells,s=>
  let s0:=s.need e wLb
  if s0.kind 2 then(run e f .bound ((s0.take e 2).need e wIn)).bind λ(b,_,s1)=>(run e f .bound (s1.need e wDd)).bind λ(d,_,s2)=>
   let n:=if s2.is wBy then s2.adv.num else 1
   let s3:=if s2.is wBy then s2.adv.take e 3 else s2
   (run e f .Expr ((s3.need e wRb).need e wEq)).bind λ(x,_,s4)=>s4.put ⟨47,s0.taken 2,n,[b,d,x],s.place e⟩
  else(run e f .bound s0).bind λ(d,_,s2)=>(run e f .Expr ((s2.need e wRb).need e wEq)).bind λ(x,_,s4)=>s4.put ⟨46,[],0,[d,x],s.place e⟩
 |_+1,.bound,s=>
  if s.is wHa then
   if s.adv.is wMi then(s.adv.adv.take e 3).put ⟨48,wHa,s.adv.adv.num,[],s.place e⟩
   else s.adv.put ⟨48,wHa,0,[],s.place e⟩
  else(s.take e 3).put ⟨48,[],s.num,[],s.place e⟩
 |f+1,.Def,s=>
  let s0:=s.need e wDef
  (run e f (.defL []) ((s0.take e 2).need e wLp)).bind λ(_,k,s1)=>(run e f .typ ((s1.need e wRp).need e wAr)).bind λ(v,_,s2)=>(run e f (.defT (k++[v])) s2).bind λ(_,k2,s3)=>(run e f .block s3).bind λ(b,_,s4)=>s4.put ⟨65,s0.taken 2,(k.length:Nat),k2++[b],s.place e⟩
 |f+1,.defL k,s=>if s.bad<0/\s.text≠wRp then
   let s0:=if k=[] then s else s.need e wCm
   (run e f .typ ((s0.take e 2).need e wCo)).bind λ(v,_,s1)=>(s1.put ⟨64,s0.taken 2,0,[v],s0.place e⟩).bind λ(g,_,s2)=>run e f (.defL (k++[g])) s2
  else fin 0 k s
 |f+1,.defT k,s=>if s.is wCm then(run e f .typ s.adv).bind λ(v,_,s1)=>run e f (.defT (k++[v])) s1 else fin 0 k s
def items (e:Int):Nat->Lx->PS ts->Option (Lx×PS ts)
 |0,_,_=>none
 |f+1,k,s=>if s.at_<ts.length/\s.bad<0 then(run e f .Def s).bind λ(v,_,s1)=>items e f (k++[v]) s1 else if k.length<=1000000 then some (k,s) else none
structure Law (e:Int)(f:Nat)(ts:List (Nat×LA×Nat)):Prop where
 typ:∀(s s':PS ts) v l,run e f .typ s=some (v,l,s')->JbW Ga 122 [] e s s' (.int .i64 v)
 block:∀(s s':PS ts) v l,run e f .block s=some (v,l,s')->JbW Ga 125 [] e s s' (.int .i64 v)
 stmt:∀(s s':PS ts) v l,run e f .stmt s=some (v,l,s')->JbW Ga 166 [] e s s' (.int .i64 v)
 bind:∀(s s':PS ts) v l,run e f .bind s=some (v,l,s')->JbW Ga 188 [] e s s' (.int .i64 v)
 exprs:∀(s s':PS ts) v l,run e f .exprs s=some (v,l,s')->JbW Ga 167 [] e s s' (.rslc 1 (iz l) none)
 Expr:∀(s s':PS ts) v l,run e f .Expr s=some (v,l,s')->JbW Ga 189 [] e s s' (.int .i64 v)
 left:∀r (s s':PS ts) v l,r<=8->run e f (.left r) s=some (v,l,s')->JbW Ga 210 [.int .i64 (r:Nat)] e s s' (.int .i64 v)
 post:∀(s s':PS ts) v l,run e f .post s=some (v,l,s')->JbW Ga 231 [] e s s' (.int .i64 v)
 atom:∀(s s':PS ts) v l,run e f .atom s=some (v,l,s')->JbW Ga 248 [] e s s' (.int .i64 v)
 loop:∀p (s s':PS ts) v l,run e f (.loop p) s=some (v,l,s')->JbW Ga 257 [.int .i64 p] e s s' (.int .i64 v)
 array:∀p (s s':PS ts) v l,run e f (.array p) s=some (v,l,s')->JbW Ga 258 [.int .i64 p] e s s' (.int .i64 v)
 cells:∀(s s':PS ts) v l,run e f .cells s=some (v,l,s')->JbW Ga 270 [] e s s' (.int .i64 v)
 bound:∀(s s':PS ts) v l,run e f .bound s=some (v,l,s')->JbW Ga 277 [] e s s' (.int .i64 v)
 Def:∀(s s':PS ts) v l,run e f .Def s=some (v,l,s')->JbW Ga 76 [] e s s' (.int .i64 v)
theorem pput_some{s s':PS ts}{v:Int}{l:Lx}(h:s.put x=some (v,l,s')):s.nodes.length<=1000000/\v=(s.nodes.length:Nat)/\s'=s.add x:=by
 unfold PS.put at h
 split at h
 ·rename_i g;cases h;exact⟨g,rfl,rfl⟩
 ·cases h
theorem K8 {v v':Int}{k l:Lx}{s s':PS ts}(h:fin v k s=some (v',l,s')):k.length<=1000000/\v'=v/\l=k/\s'=s:=by
 unfold fin at h
 split at h
 ·rename_i g;cases h;exact⟨g,rfl,rfl,rfl⟩
 ·cases h
theorem bind_some{β:Type}{o:Option α}{g:α->Option β}{y:β}(h:o.bind g=some y):∃x,o=some x/\g x=some y:=by
 cases o with
 |none=>cases h
 |some x=>exact⟨x,rfl,h⟩
theorem PS.n_adv {s:PS ts}:s.adv.nodes=s.nodes:=by unfold PS.adv;split <;> rfl
theorem PS.n_fail{s:PS ts}:(s.fail e).nodes=s.nodes:=by unfold PS.fail;split <;> rfl
theorem PS.n_need{x:LA}{s:PS ts}:(s.need e x).nodes=s.nodes:=by unfold PS.need;split <;> first|exact n_adv|exact n_fail
theorem PS.n_take{x:Nat}{s:PS ts}:(s.take e x).nodes=s.nodes:=by unfold PS.take;split <;> first|exact n_adv|exact n_fail
theorem wks_rf:∀l:Lu,wks l l
 |[]=>trivial
 |_::l=>⟨wk.refl _,wks_rf l⟩
section
variable{l:LD}{s:PS ts}
theorem Qv{v:Int}{l':Lx}(hx:s.put x=some (v,l',s'))(hq:H[q]? = some (pO e s r))(hr:H[r]? = some (nO s0))(hn:s.nodes=s0.nodes)(Ii:q≠r)(kv:CV)(hk:wk kv (.rslc 1 (iz x.kids) none))(ha:ags.map (Kg T)=[.ptr q 0 0,.agg [.int .u8 x.k,S x.text,.int .i64 x.n,kv,.int .i64 x.pl]])(h:KD Ga E n0 N Q (.ops l::k) (put T d (.int .i64 v)) ((H.set q (pO e s' H.length)).set r .dead++[nO s'])):Ok Ga E n0 N Q (.ops (⟨d,.call 123 ags,none⟩::l)::k) T H:=by obtain⟨h1,rfl,rfl⟩:=pput_some hx;exact vr_meth (mAdd x e s h1) hq (by rw[hr,nO,nO,hn]) Ii rfl rfl (ha▸⟨wk.refl _,Jdw ⟨wk.refl _,wk.refl _,wk.refl _,hk,wk.refl _,trivial⟩,trivial⟩) h
theorem Qh{args:Lu}(hM:JbW Ga f args e s s' res)(hq:H[q]? = some (pO e s r))(hr:H[r]? = some (nO s0))(hn:s.nodes=s0.nodes)(Ii:q≠r)(ha:Jk args=true)(hc:res.closed=true)(hw:ags.map (Kg T)=.ptr q 0 0::args)(h:KD Ga E n0 N Q (.ops l::k) (put T d res) ((H.set q (pO e s' H.length)).set r .dead++[nO s'])):Ok Ga E n0 N Q (.ops (⟨d,.call f ags,none⟩::l)::k) T H:=vr_meth hM hq (by rw[hr,nO,nO,hn]) Ii ha hc (hw▸wks_rf _) h
end
theorem wTyp(hl:ts.length<=1000000)(ih:Law e f ts)(s s':PS ts)(v:Int)(l:Lx)(h:run e (f+1) .typ s=some (v,l,s')):JbW Ga 122 [] e s s' (.int .i64 v):=by
 refine Xw (Ki c122_ok λN=>?_) rfl λv H' h=>h
 simp only[run]at h;simp only[c122,go_sem];refine JdX (s:=s) rfl rfl ?_;simp only[go_sem];refine Jab (s:=s) wInt vk hl rfl rfl (λhi=>?_) λhi=>?_
 ·rw[hi,if_pos rfl]at h;simp only[go_sem];refine Qv h rfl rfl PS.n_adv vk .nils wk.nils rfl ?_;simp only[go_sem];exact⟨2,vk,rfl,rfl⟩
 rw[hi,if_neg vk]at h;simp only[go_sem];clear hi;refine Jab (s:=s) wBool vk hl rfl rfl (λhi=>?_) λhi=>?_
 ·rw[hi,if_pos rfl]at h;simp only[go_sem];refine Qv h rfl rfl PS.n_adv vk .nils wk.nils rfl ?_;simp only[go_sem];exact⟨2,vk,rfl,rfl⟩
 rw[hi,if_neg vk]at h;simp only[go_sem];clear hi;refine Jab (s:=s) wLb vk hl rfl rfl (λhi=>?_) λhi=>?_
 ·rw[hi,if_pos rfl]at h;obtain⟨⟨v1,l1,s1⟩,h1,h⟩:=bind_some h;simp only[go_sem];refine Qh (ih.typ _ _ _ _ h1) rfl rfl PS.n_adv vk rfl rfl rfl ?_;simp only[go_sem];refine JV (s:=s1) wRb vk hl rfl rfl ?_;simp only[go_sem];refine Je (id:=3) (z:=1) (els:=[[.int .i64 v1]]) rfl rfl ?_;simp only[go_sem,JK,frz,KC,KS (show (2:Nat)≠3 by decide),KT]
  trace_state
  refine Qv h rfl rfl PS.n_need vk _ wk.rslc rfl ?_;simp only[go_sem]
  trace_state
  exact⟨4,vk,rfl,rfl⟩
 rw[hi,if_neg vk]at h;simp only[go_sem];clear hi;refine Jab (s:=s) wStream vk hl rfl rfl (λhi=>?_) λhi=>?_
 ·rw[hi,if_pos rfl]at h;obtain⟨⟨v1,l1,s1⟩,h1,h⟩:=bind_some h;simp only[go_sem];refine Qh (ih.typ _ _ _ _ h1) rfl rfl PS.n_adv vk rfl rfl rfl ?_;simp only[go_sem];refine Je (id:=3) (z:=1) (els:=[[.int .i64 v1]]) rfl rfl ?_;simp only[go_sem,JK,frz,KC,KS (show (2:Nat)≠3 by decide),KT];refine Qv h rfl rfl rfl vk _ wk.rslc rfl ?_;simp only[go_sem];exact⟨4,vk,rfl,rfl⟩
 rw[hi,if_neg vk]at h;obtain⟨_,rfl,rfl,rfl⟩:=K8 h;simp only[go_sem];refine vr_fail (s:=s) rfl rfl ?_;simp only[go_sem];exact⟨1,vk,rfl,by rw[nO,nO,PS.n_fail];rfl⟩
theorem Kl{id y:Nat}{es:LQ}:Kn id z els (.arr y es)=.arr y (es.map (JK id z els)):=rfl
theorem J8{id:Nat}:Kn id z els .dead=.dead:=rfl
theorem Qa{s:PS ts}{j:Nat}(h:∀n,ren ρ (.slc i 0 n none)=.slc j 0 n none):Xn ρ (pO e s i)=pO e s j:=by simp only[pO,pC,Jo,Gb,Gc,JG,ren,QK (h _)]
theorem Qb{s:PS ts}:Xn ρ (nO s)=nO s:=Qw (Jc (Xh _))
theorem Jao{k:Lx}:(iz k).map (JG ρ)=iz k:=Jc (Jh k)
theorem K7 {k l:Lx}:iz (k++l)=iz k++iz l:=by simp[iz]
theorem JgL{o l c:Nat}:wk (.slc i o l (some c)) (.slc i o l none):=by intro own imm v h;simp only[rel]at h|-;obtain⟨x,a,c',h1,h2,h3,h4,h5⟩:=h;exact⟨x,a,c',h1,h2,h3,λ_ h=>(by cases h),h5⟩
theorem wBind(hl:ts.length<=1000000)(ih:Law e f ts)(s s':PS ts)(v:Int)(l:Lx)(h:run e (f+1) .bind s=some (v,l,s')):JbW Ga 188 [] e s s' (.int .i64 v):=by
 refine Xw (Ki c188_ok λN=>?_) rfl λv H' h=>h
 simp only[run]at h;simp only[c188,go_sem];refine Jc2 (s:=s) 2 hl rfl rfl ?_;simp only[go_sem,splice];refine Jab (s:=s.take e 2) wCo vk hl rfl rfl (λhi=>?_) λhi=>?_
 ·rw[hi,if_pos rfl]at h;obtain⟨⟨v1,l1,s1⟩,h1,h⟩:=bind_some h;simp only[go_sem];refine Qh (ih.typ _ _ _ _ h1) rfl rfl (by rw[PS.n_adv,PS.n_take]) vk rfl rfl rfl ?_;simp only[go_sem,splice];refine Je (id:=4) (z:=1) (els:=[[.int .i64 v1]]) rfl rfl ?_;simp only[go_sem,JK,frz,KC,Kl,J8,KS (show (3:Nat)≠4 by decide),KT];refine Qv h rfl rfl rfl vk _ wk.rslc rfl ?_;simp only[go_sem];exact⟨5,vk,rfl,rfl⟩
 ·rw[hi,if_neg vk]at h;simp only[go_sem];refine Qv h rfl rfl PS.n_take vk _ wk.nils rfl ?_;simp only[go_sem];exact⟨3,vk,rfl,rfl⟩
theorem wExpr(hl:ts.length<=1000000)(ih:Law e f ts)(s s':PS ts)(v:Int)(l:Lx)(h:run e (f+1) .Expr s=some (v,l,s')):JbW Ga 189 [] e s s' (.int .i64 v):=by
 refine Xw (Ki c189_ok λN=>?_) rfl λv H' h=>h
 simp only[run]at h;obtain⟨⟨a,l1,s1⟩,h1,h⟩:=bind_some h;simp only[c189,go_sem];refine Qh (ih.left 1 _ _ _ _ vk h1) rfl rfl rfl vk rfl rfl rfl ?_;simp only[go_sem];refine JdX (s:=s1) rfl rfl ?_;simp only[go_sem];refine Jab (s:=s1) wCons vk hl rfl rfl (λhi=>?_) λhi=>?_
 ·simp only[hi,if_true]at h;obtain⟨⟨b,l2,s2⟩,h2,h⟩:=bind_some h;simp only[go_sem];refine Qh (ih.Expr _ _ _ _ h2) rfl rfl PS.n_adv vk rfl rfl rfl ?_;simp only[go_sem];refine Je (id:=4) (z:=1) (els:=[[.int .i64 a],[.int .i64 b]]) rfl rfl ?_;simp only[go_sem,JK,frz,KC,Kl,J8,KS (show (3:Nat)≠4 by decide),KT];refine Qv h rfl rfl rfl vk _ wk.rslc rfl ?_;simp only[go_sem];exact⟨5,vk,rfl,rfl⟩
 ·simp only[hi,Gw,if_false]at h;obtain⟨_,rfl,rfl,rfl⟩:=K8 h;simp only[go_sem];exact⟨2,vk,rfl,rfl⟩
theorem wExprs(hl:ts.length<=1000000)(hf:f<=1000000)(ih:∀g,g<=f->Law e g ts)(s s':PS ts)(v:Int)(l:Lx)(h:run e (f+1) .exprs s=some (v,l,s')):JbW Ga 167 [] e s s' (.rslc 1 (iz l) none):=by
 have Cu:(iz l).length=l.length:=Jf;refine Xw (CallsC.freeze (R:=λv H'=>v=.slc 3 0 l.length none/\H'=[pO e s' 2,.dead,nO s',.arr 1 (iz l)]) (R':=λv H'=>v=.rslc 1 (iz l) none/\H'=[pO e s' 2,.dead,nO s',.dead]) (Ki c167_ok λN=>?_) ?_) rfl ?_
 case refine_2=>
  rintro v H' ⟨rfl,rfl⟩;refine⟨3,1,iz l,rfl,Jh l,?_,?_⟩
  ·simp only[frz,if_true,Gv,<-Cu,Gd,Gu,Gt]
  ·simp only[KC,Gb,Gc,KS (show (2:Nat)≠3 by decide),KT,J8];rfl
 case refine_3=>rintro v H' ⟨rfl,rfl⟩;exact⟨rfl,2,vk,rfl,rfl⟩
 simp only[run]at h;obtain⟨⟨a,l1,s1⟩,h1,h⟩:=bind_some h;simp only[c167,go_sem];refine Qh ((ih f (Gd _)).Expr _ _ _ _ h1) rfl rfl rfl vk rfl rfl rfl ?_;simp only[go_sem];refine Qm (T':=gp [(0,.ptr 0 0 0),(2,.slc 3 0 1 none)] 11) (by simp[gp,wks,wk.un,wk.refl,JgL]) ?_;refine Js (σ:=Nat×Lx×PS ts) (I:=λt=>t.2.1≠[]/\t.2.1.length+t.1<=f+1/\t.1<=f/\run e t.1 (.exprsL t.2.1) t.2.2=some (v,l,s'))
  (inv:=λt=>gp [(0,.ptr 0 0 0),(2,.slc 3 0 t.2.1.length none)] 11) (hp:=λt=>[pO e t.2.2 2,.dead,nO t.2.2,.arr 1 (iz t.2.1)]) (μ:=λt=>t.1) (f,[a],s1) [0,1,2,3] ⟨sM,by simp only[Gf];omega,Gd _,h⟩ rfl ?_ ?_ ?_
 ·simp[forget,JG,ren,Jl,gp]
 ·simp only[KE,Gb,Gc,go_sem,Jo,Qa (ρ:=[0,1,2,3]) (i:=2) (j:=2) (λ_=>rfl),Qb,Jn];rfl
 ·rintro⟨g,k,s⟩ ⟨hk,El,hg,h⟩
  dsimp only at hk El hg h|-
  have Ap:(iz k).length=k.length:=Jf
  cases g with
  |zero=>cases h
  |succ g=>
   simp only[run]at h;simp only[go_sem];refine Jab (s:=s) wCm vk hl rfl rfl (λhi=>?_) λhi=>?_
   ·simp only[hi,if_true]at h;obtain⟨⟨b,l2,s2⟩,h2,h⟩:=bind_some h;simp only[go_sem];refine Qh ((ih g om).Expr _ _ _ _ h2) rfl rfl PS.n_adv vk rfl rfl rfl ?_;simp only[go_sem,Ap,JA];refine⟨om,(g,k++[b],s2),[0,1,4,6],⟨sM,by simp only[Gg,Gf];omega,om,h⟩,by simp only;omega,rfl,?_,?_⟩
    ·simp only[KE,Gb,Gc,go_sem,Jo,Qa (ρ:=[0,1,4,6]) (i:=4) (j:=2) (λ_=>rfl),Qb,Jn,K7,Gs,Jao];rfl
    ·simp[forget,JG,ren,Jl]
   ·simp only[hi,Gw,if_false]at h;obtain⟨_,rfl,rfl,rfl⟩:=K8 h;simp only[go_sem]
    trace_state
theorem wPost(hl:ts.length<=1000000)(ih:∀g,g<=f->Law e g ts)(s s':PS ts)(v:Int)(l:Lx)(h:run e (f+1) .post s=some (v,l,s')):JbW Ga 231 [] e s s' (.int .i64 v):=by
 refine Xw (Ki c231_ok λN=>?_) rfl λv H' h=>h
 simp only[run]at h;obtain⟨⟨a,l1,s1⟩,h1,h⟩:=bind_some h;simp only[c231,go_sem];refine Qh ((ih f (Gd _)).atom _ _ _ _ h1) rfl rfl rfl vk rfl rfl rfl ?_;simp only[go_sem];refine Js (σ:=Nat×Int×PS ts) (I:=λt=>t.1<=f/\run e t.1 (.postL t.2.1) t.2.2=some (v,l,s'))
  (inv:=λt=>gp [(0,.ptr 0 0 0),(2,.int .i64 t.2.1)] 21) (hp:=λt=>[pO e t.2.2 2,.dead,nO t.2.2]) (μ:=λt=>t.1) (f,a,s1) [0,1,2] ⟨Gd _,h⟩ rfl ?_ ?_ ?_
 ·simp[forget,JG,ren,Jl,gp]
 ·simp only[KE,Gb,Gc,go_sem,Qa (ρ:=[0,1,2]) (i:=2) (j:=2) (λ_=>rfl),Qb,Jn]
 ·rintro⟨g,a,s⟩ ⟨hg,h⟩
  dsimp only at hg h|-
  cases g with
  |zero=>cases h
  |succ g=>
   simp only[run]at h;simp only[go_sem];refine Jb1 (s:=s) rfl rfl ?_;by_cases hi:s.text=wLb
   ·have d1:(s.text == [91])=true:=beq_iff_eq.2 hi;rw[if_pos hi]at h;obtain⟨⟨b,l2,s2⟩,h2,h⟩:=bind_some h;obtain⟨⟨b3,l3,s3⟩,h3,h⟩:=bind_some h;simp only[go_sem,d1];refine JV (s:=s) wLb vk hl rfl rfl ?_;simp only[go_sem];refine Qh ((ih g om).Expr _ _ _ _ h2) rfl rfl PS.n_need vk rfl rfl rfl ?_;simp only[go_sem];refine JV (s:=s2) wRb vk hl rfl rfl ?_;simp only[go_sem];refine Je (id:=4) (z:=1) (els:=[[.int .i64 a],[.int .i64 b]]) rfl rfl ?_;simp only[go_sem,JK,frz,KC,Kl,J8,KS (show (3:Nat)≠4 by decide),KT];refine Qv h3 rfl rfl PS.n_need vk _ wk.rslc rfl ?_;simp only[go_sem];refine⟨(g,b3,s3),[0,1,5],⟨om,h⟩,by simp only;omega,rfl,?_,?_⟩
    ·simp only[KE,Gb,Gc,go_sem,Qa (ρ:=[0,1,5]) (i:=5) (j:=2) (λ_=>rfl),Qb,Jn]
    ·simp[forget,JG,ren,Jl]
   ·have d1:(s.text == [91])=false:=beq_eq_false_iff_ne.2 hi;rw[if_neg hi]at h;obtain⟨_,rfl,rfl,rfl⟩:=K8 h;simp only[go_sem,d1];exact⟨2,vk,rfl,rfl⟩
theorem wBound(AJ:tsOk ts=true)(s s':PS ts)(v:Int)(l:Lx)(h:run e (f+1) .bound s=some (v,l,s')):JbW Ga 277 [] e s s' (.int .i64 v):=by
 have hl:ts.length<=1000000:=by simp only[tsOk,Gp,decide_eq_true_eq]at AJ;exact AJ.1
 refine Xw (Ki c277_ok λN=>?_) rfl λv H' h=>h
 simp only[run]at h;simp only[c277,go_sem];refine JdX (s:=s) rfl rfl ?_;simp only[go_sem,splice];refine Jab (s:=s) wHa vk hl rfl rfl (λhi=>?_) λhi=>?_
 ·rw[hi,if_pos rfl]at h;simp only[go_sem];refine Jab (s:=s.adv) wMi vk hl rfl rfl (λhi=>?_) λhi=>?_
  ·rw[hi,if_pos rfl]at h;simp only[go_sem];refine Ja0 (s:=s.adv.adv) AJ rfl rfl ?_;simp only[go_sem,splice];refine Qv h rfl rfl (by rw[PS.n_take,PS.n_adv,PS.n_adv]) vk _ wk.nils rfl ?_;simp only[go_sem];exact⟨3,vk,rfl,rfl⟩
  ·rw[hi,if_neg vk]at h;simp only[go_sem,splice];refine Qv h rfl rfl PS.n_adv vk _ wk.nils rfl ?_;simp only[go_sem];exact⟨3,vk,rfl,rfl⟩
 ·rw[hi,if_neg vk]at h;simp only[go_sem];refine Ja0 (s:=s) AJ rfl rfl ?_;simp only[go_sem,splice];refine Qv h rfl rfl PS.n_take vk _ wk.nils rfl ?_;simp only[go_sem];exact⟨3,vk,rfl,rfl⟩
theorem k13 {k:Nat}(h:5<=k/\k<=17):k=5\/k=6\/k=7\/k=8\/k=9\/k=10\/k=11\/k=12\/k=13\/k=14\/k=15\/k=16\/k=17:=om
theorem opRank (k : Nat)(h : 5 <= k /\ k <= 17) : Fn Ga 72 [.int .u8 k] (.int .i64 (rankK k : Nat)) := by
  rcases k13 h with rfl | rfl | rfl | rfl | rfl | rfl | rfl | rfl | rfl | rfl | rfl | rfl | rfl <;>
    (refine Jb c72_ok rfl rfl λN => ?_
     simp (config := {implicitDefEqProofs := false}) only [c72, go_sem, Gy];rfl)
theorem opSign (k : Nat)(h : 5 <= k /\ k <= 17) : Fn Ga 73 [.int .u8 k] (S (signK k)) := by
  rcases k13 h with rfl | rfl | rfl | rfl | rfl | rfl | rfl | rfl | rfl | rfl | rfl | rfl | rfl <;>
    (refine Jb c73_ok rfl rfl λN => ?_
     simp (config := {implicitDefEqProofs := false}) only [c73, go_sem, Gy];rfl)
theorem opWord (k : Nat)(h : 21 <= k /\ k <= 24) : Fn Ga 69 [.int .u8 k] (S (wordS k)) := by
  rcases (show k = 21 \/ k = 22 \/ k = 23 \/ k = 24 by omega) with rfl | rfl | rfl | rfl <;>
    (refine Jb c69_ok rfl rfl λN => ?_
     simp (config := {implicitDefEqProofs := false}) only [c69, go_sem, Gy]
     try rfl)
theorem JeP (x:LA)(r:Nat):Fn Ga 232 [S x,.int .i64 (r:Nat)] (.int .u8 (opK x r:Nat)):=by
 refine Jb c232_ok rfl rfl λN=>?_
 simp -implicitDefEqProofs only[c232,go_sem];refine JL (σ:=Nat×Nat) (I:=λt=>t.1+t.2=18/\5<=t.2/\opF x r t.1 t.2=opK x r) (inv:=λt=>gp [(0,S x),(0,.int .i64 (r:Nat)),(3,.int .u8 (t.2:Nat))] 15) (hp:=λ_=>[]) (μ:=λt=>t.1) (13,5) ⟨rfl,vk,rfl⟩ ?_ rfl ?_
 ·simp[forget,gp]
 ·rintro⟨n,k⟩ ⟨hn,hk,h⟩
  dsimp only at hn hk h|-
  cases n with
  |zero=>have d1:((k:Int)<=17)=False:=JS;simp -implicitDefEqProofs only[go_sem,d1];rw[<-h];rfl
  |succ n=>
   have d1:((k:Int)<=17)=True:=J4;have hR:=opRank k ⟨hk,om⟩;have hS:=opSign k ⟨hk,om⟩;rw[opF]at h;simp -implicitDefEqProofs only[go_sem,d1];refine JU hR ?_;by_cases hr:rankK k=r
   ·have d2:(((rankK k:Nat):Int) == (r:Int))=true:=beq_iff_eq.2 (by rw[hr]);simp -implicitDefEqProofs only[go_sem,d2];refine Ka (.inr ⟨14,true,rfl,rfl⟩) hS ?_;by_cases hx:signK k=x
    ·have d3:(signK k == x)=true:=beq_iff_eq.2 hx;rw[if_pos ⟨hr,hx⟩]at h;simp -implicitDefEqProofs only[go_sem,d3];rw[h]
    ·have d3:(signK k == x)=false:=beq_eq_false_iff_ne.2 hx;rw[if_neg (λg=>hx g.2)]at h;simp -implicitDefEqProofs only[go_sem,d3];refine⟨⟨by show (0:Int)<=_;omega,by show _<=(255:Int);omega⟩,(n,k+1),⟨om,om,h⟩,by simp only;omega,?_⟩;simp[forget]
   ·have d2:(((rankK k:Nat):Int) == (r:Int))=false:=beq_eq_false_iff_ne.2 om;rw[if_neg (λg=>hr g.1)]at h;simp -implicitDefEqProofs only[go_sem,d2];refine⟨⟨by show (0:Int)<=_;omega,by show _<=(255:Int);omega⟩,(n,k+1),⟨om,om,h⟩,by simp only;omega,?_⟩;simp[forget]
theorem refWorded (x:LA):Fn Ga 256 [S x] (.int .u8 (wordK x:Nat)):=by
 refine Jb c256_ok rfl rfl λN=>?_
 simp -implicitDefEqProofs only[c256,go_sem];refine JL (σ:=Nat×Nat) (I:=λt=>t.1+t.2=25/\21<=t.2/\wordF x t.1 t.2=wordK x) (inv:=λt=>gp [(0,S x),(2,.int .u8 (t.2:Nat))] 9) (hp:=λ_=>[]) (μ:=λt=>t.1) (4,21) ⟨rfl,vk,rfl⟩ ?_ rfl ?_
 ·simp[forget,gp]
 ·rintro⟨n,k⟩ ⟨hn,hk,h⟩
  dsimp only at hn hk h|-
  cases n with
  |zero=>have d1:((k:Int)<=24)=False:=JS;simp -implicitDefEqProofs only[go_sem,d1];rw[<-h];rfl
  |succ n=>
   have d1:((k:Int)<=24)=True:=J4;rw[wordF]at h;simp -implicitDefEqProofs only[go_sem,d1];refine JU (opWord k ⟨hk,om⟩) ?_;by_cases hx:wordS k=x
   ·have d3:(wordS k == x)=true:=beq_iff_eq.2 hx;rw[if_pos hx]at h;simp -implicitDefEqProofs only[go_sem,d3];rw[h]
   ·have d3:(wordS k == x)=false:=beq_eq_false_iff_ne.2 hx;rw[if_neg hx]at h;simp -implicitDefEqProofs only[go_sem,d3];refine⟨⟨by show (0:Int)<=_;omega,by show _<=(255:Int);omega⟩,(n,k+1),⟨om,om,h⟩,by simp only;omega,?_⟩;simp[forget]
theorem opK_nil (r:Nat):opK [] r=0:=by simp[opK,opF,signK]
theorem wLeft(hl:ts.length<=1000000)(ih:∀g,g<=f->Law e g ts)(r:Nat)(s s':PS ts)(v:Int)(l:Lx)(j5:r<=8)(h:run e (f+1) (.left r) s=some (v,l,s')):JbW Ga 210 [.int .i64 (r:Nat)] e s s' (.int .i64 v):=by
 refine Xw (Ki c210_ok λN=>?_) rfl λv H' h=>h
 have ih0:=ih f (Gd _);simp only[run]at h;by_cases h3:r=3
 ·subst h3;simp only[c210,go_sem,Gy];refine Kt (.inr ⟨13,true,rfl,rfl⟩) (Jhu (s:=s) rfl) ?_;rintro _ _ ⟨rfl,rfl⟩;by_cases hn:s.text=wNot
  ·have d1:(s.text == [110,111,116])=true:=beq_iff_eq.2 hn;rw[if_pos ⟨rfl,hn⟩]at h;obtain⟨⟨b,l2,s2⟩,h2,h⟩:=bind_some h;simp only[go_sem,d1];refine JV (s:=s) wNot vk hl rfl rfl ?_;simp only[go_sem];refine Qh (ih0.left 3 _ _ _ _ vk h2) rfl rfl PS.n_need vk rfl rfl rfl ?_;simp only[go_sem];refine Je (id:=3) (z:=1) (els:=[[.int .i64 b]]) rfl rfl ?_;simp only[go_sem,JK,frz,KC,Kl,J8,KS (show (2:Nat)≠3 by decide),KT];refine Qv h rfl rfl rfl vk _ wk.rslc rfl ?_;simp only[go_sem];exact⟨4,vk,rfl,rfl⟩
  ·have d1:(s.text == [110,111,116])=false:=beq_eq_false_iff_ne.2 hn;rw[if_neg (λg=>hn g.2),if_neg (λg=>absurd g.1 vk),if_pos (.inl rfl)]at h;simp only[go_sem,d1];refine⟨Jg,?_⟩;refine Qh (ih0.left 4 _ _ _ _ vk h) rfl rfl rfl vk rfl rfl rfl ?_;simp only[go_sem];exact⟨2,vk,rfl,rfl⟩
 have e3:((r:Int) == 3)=false:=beq_eq_false_iff_ne.2 om;rw[if_neg (λg=>h3 g.1)]at h;by_cases h7:r=7
 ·subst h7;simp only[c210,go_sem,Gy];refine Kt (.inr ⟨30,true,rfl,rfl⟩) (Jhu (s:=s) rfl) ?_;rintro _ _ ⟨rfl,rfl⟩;by_cases hn:s.text=wMi
  ·have d1:(s.text == [45])=true:=beq_iff_eq.2 hn;rw[if_pos ⟨rfl,hn⟩]at h;obtain⟨⟨b,l2,s2⟩,h2,h⟩:=bind_some h;simp only[go_sem,d1];refine JV (s:=s) wMi vk hl rfl rfl ?_;simp only[go_sem];refine Qh (ih0.left 7 _ _ _ _ vk h2) rfl rfl PS.n_need vk rfl rfl rfl ?_;simp only[go_sem];refine Je (id:=3) (z:=1) (els:=[[.int .i64 b]]) rfl rfl ?_;simp only[go_sem,JK,frz,KC,Kl,J8,KS (show (2:Nat)≠3 by decide),KT];refine Qv h rfl rfl rfl vk _ wk.rslc rfl ?_;simp only[go_sem];exact⟨4,vk,rfl,rfl⟩
  ·have d1:(s.text == [45])=false:=beq_eq_false_iff_ne.2 hn;rw[if_neg (λg=>hn g.2),if_pos (.inr rfl)]at h;simp only[go_sem,d1];refine⟨Jg,?_⟩;refine Qh (ih0.left 8 _ _ _ _ vk h) rfl rfl rfl vk rfl rfl rfl ?_;simp only[go_sem];exact⟨2,vk,rfl,rfl⟩
 have e7:((r:Int) == 7)=false:=beq_eq_false_iff_ne.2 om;rw[if_neg (λg=>h7 g.1),if_neg (λg=>g.elim h3 h7)]at h;by_cases h8:r=8
 ·subst h8;rw[if_pos rfl]at h;simp only[c210,go_sem,Gy];refine Qh (ih0.post _ _ _ _ h) rfl rfl rfl vk rfl rfl rfl ?_;simp only[go_sem];exact⟨2,vk,rfl,rfl⟩
 have e8:((r:Int) == 8)=false:=beq_eq_false_iff_ne.2 om;rw[if_neg h8]at h;obtain⟨⟨a,l1,s1⟩,h1,h⟩:=bind_some h;simp only[c210,go_sem,e3,e7,e8];refine⟨Jg,?_⟩;refine Qh (ih0.left (r+1) _ _ _ _ om h1) rfl rfl rfl vk rfl rfl rfl ?_;simp only[go_sem];refine Jb1 (s:=s1) rfl rfl ?_;simp only[go_sem];refine JU (JeP s1.text r) ?_;simp only[go_sem];refine Js (σ:=Nat×Int×PS ts) (I:=λt=>t.1<=f/\run e t.1 (.leftL r t.2.1) t.2.2=some (v,l,s'))
  (inv:=λt=>gp [(0,.ptr 0 0 0),(0,.int .i64 (r:Nat)),(5,.int .i64 t.2.1),(0,.int .u8 (opK t.2.2.text r:Nat))] 84) (hp:=λt=>[pO e t.2.2 2,.dead,nO t.2.2]) (μ:=λt=>t.1) (f,a,s1) [0,1,2] ⟨Gd _,h⟩ rfl ?_ ?_ ?_
 ·simp[forget,JG,ren,Jl,gp]
 ·simp only[KE,Gb,Gc,go_sem,Qa (ρ:=[0,1,2]) (i:=2) (j:=2) (λ_=>rfl),Qb,Jn]
 ·rintro⟨g,a,s⟩ ⟨hg,h⟩
  dsimp only at hg h|-
  cases g with
  |zero=>cases h
  |succ g=>
   simp only[run]at h;by_cases hk:opK s.text r=0
   ·have d1:(((opK s.text r:Nat):Int) != 0)=false:=by rw[hk];rfl
    rw[if_pos hk]at h;obtain⟨_,rfl,rfl,rfl⟩:=K8 h;simp only[go_sem,d1];exact⟨2,vk,rfl,rfl⟩
   ·have d1:(((opK s.text r:Nat):Int) != 0)=true:=by rw[bne_iff_ne];omega
    have hx:s.text≠[]:=λg=>hk (by rw[g,opK_nil])
    rw[if_neg hk]at h;obtain⟨⟨b,l2,s2⟩,h2,h⟩:=bind_some h;obtain⟨⟨b3,l3,s3⟩,h3,h⟩:=bind_some h;simp only[go_sem,d1];refine Jb1 (s:=s) rfl rfl ?_;simp only[go_sem];refine JV (s:=s) s.text hx hl rfl rfl ?_;simp only[go_sem];refine⟨Jg,?_⟩;refine Qh ((ih g om).left (r+1) _ _ _ _ om h2) rfl rfl PS.n_need vk rfl rfl rfl ?_;simp only[go_sem];refine Je (id:=4) (z:=1) (els:=[[.int .i64 a],[.int .i64 b]]) rfl rfl ?_;simp only[go_sem,JK,frz,KC,Kl,J8,KS (show (3:Nat)≠4 by decide),KT];refine Qv h3 rfl rfl rfl vk _ wk.rslc rfl ?_;by_cases h4:r=4
    ·have e4:((r:Int) == 4)=true:=beq_iff_eq.2 om;simp only[h4,if_true]at h;obtain⟨_,rfl,rfl,rfl⟩:=K8 h;simp only[go_sem,e4];exact⟨5,vk,rfl,rfl⟩
    ·have e4:((r:Int) == 4)=false:=beq_eq_false_iff_ne.2 om;simp only[h4,if_false]at h;simp only[go_sem,e4];refine Jb1 (s:=s3) rfl rfl ?_;simp only[go_sem];refine JU (JeP s3.text r) ?_;simp only[go_sem];refine⟨(g,b3,s3),[0,1,5],⟨om,h⟩,by simp only;omega,rfl,?_,?_⟩
     ·simp only[KE,Gb,Gc,go_sem,Qa (ρ:=[0,1,5]) (i:=5) (j:=2) (λ_=>rfl),Qb,Jn]
     ·simp[forget,JG,ren,Jl]
theorem pO_adv{s:PS ts}(h:s.at_<ts.length):CObj.arr 5 [[.rslc 3 (lxr ts) none,.int .i64 e,.int .i64 ((s.at_:Int)+1),Qr r (ndz s.nodes),.int .i64 s.bad]]=pO e s.adv r:=by simp only[pO,pC,PS.adv,dif_pos h];rfl
theorem wAtom(AJ:tsOk ts=true)(ih:Law e f ts)(s s':PS ts)(v:Int)(l:Lx)(h:run e (f+1) .atom s=some (v,l,s')):JbW Ga 248 [] e s s' (.int .i64 v):=by
 have hl:ts.length<=1000000:=by simp only[tsOk,Gp,decide_eq_true_eq]at AJ;exact AJ.1
 refine Xw (Ki c248_ok λN=>?_) rfl λv H' h=>h
 simp only[run]at h;simp only[c248,go_sem];refine Jb1 (s:=s) rfl rfl ?_;simp only[go_sem];refine JdX (s:=s) rfl rfl ?_;simp only[go_sem];refine JgN (s:=s) 3 rfl rfl ?_
 cases k3:s.kind 3 with
 |true=>rw[k3,if_pos rfl]at h;simp only[go_sem];refine Ja0 (s:=s) AJ rfl rfl ?_;simp only[go_sem];refine Qv h rfl rfl PS.n_take vk _ wk.nils rfl ?_;simp only[go_sem];exact⟨2,vk,rfl,rfl⟩
 |false=>
 rw[k3,if_neg vk]at h;simp only[go_sem];refine JgN (s:=s) 2 rfl rfl ?_
 cases k2:s.kind 2 with
 |true=>
  rw[k2,if_pos rfl]at h;have hat:=PS.kind_in k2;simp only[go_sem,pO,pC];refine⟨Jg,?_⟩;rw[pO_adv hat];refine Jab (s:=s.adv) wLp vk hl rfl rfl (λhi=>?_) λhi=>?_
  ·rw[hi,if_pos rfl]at h;simp only[go_sem];refine Jb1 (s:=s.adv.adv) rfl rfl ?_;by_cases hx:s.adv.adv.text=wRp
   ·have d1:(s.adv.adv.text == [41])=true:=beq_iff_eq.2 hx;rw[if_pos hx]at h;simp only[go_sem,d1];refine JV (s:=s.adv.adv) wRp vk hl rfl rfl ?_;simp only[go_sem];refine Je (id:=2) (z:=1) (els:=[]) rfl rfl ?_;simp only[go_sem,JK,frz,KC,Kl,KS (show (1:Nat)≠2 by decide),KT];refine Qv h rfl rfl (by rw[PS.n_need,PS.n_adv,PS.n_adv]) vk _ wk.rslc rfl ?_;simp only[go_sem];exact⟨3,vk,rfl,rfl⟩
   ·have d1:(s.adv.adv.text == [41])=false:=beq_eq_false_iff_ne.2 hx;rw[if_neg hx]at h;obtain⟨⟨b,l2,s2⟩,h2,h⟩:=bind_some h;simp only[go_sem,d1];refine Qh (ih.exprs _ _ _ _ h2) rfl rfl (by rw[PS.n_adv,PS.n_adv]) vk rfl rfl rfl ?_;simp only[go_sem];refine JV (s:=s2) wRp vk hl rfl rfl ?_;simp only[go_sem];refine Qv h rfl rfl PS.n_need vk _ (wk.refl _) rfl ?_;simp only[go_sem];exact⟨4,vk,rfl,rfl⟩
  ·rw[hi,if_neg vk]at h;simp only[go_sem];refine Qv h rfl rfl PS.n_adv vk _ wk.nils rfl ?_;simp only[go_sem];exact⟨2,vk,rfl,rfl⟩
 |false=>
 rw[k2,if_neg vk]at h;simp only[go_sem];refine Jab (s:=s) wTrue vk hl rfl rfl (λhi=>?_) λhi=>?_
 ·rw[hi,if_pos rfl]at h;simp only[go_sem];refine Qv h rfl rfl PS.n_adv vk _ wk.nils rfl ?_;simp only[go_sem];exact⟨2,vk,rfl,rfl⟩
 rw[hi,if_neg vk]at h;simp only[go_sem];clear hi;refine Jab (s:=s) wFalse vk hl rfl rfl (λhi=>?_) λhi=>?_
 ·rw[hi,if_pos rfl]at h;simp only[go_sem];refine Qv h rfl rfl PS.n_adv vk _ wk.nils rfl ?_;simp only[go_sem];exact⟨2,vk,rfl,rfl⟩
 rw[hi,if_neg vk]at h;simp only[go_sem];clear hi;refine Jab (s:=s) wLp vk hl rfl rfl (λhi=>?_) λhi=>?_
 ·rw[hi,if_pos rfl]at h;obtain⟨⟨a,l1,s1⟩,h1,h⟩:=bind_some h;obtain⟨_,rfl,rfl,rfl⟩:=K8 h;simp only[go_sem];refine Qh (ih.Expr _ _ _ _ h1) rfl rfl PS.n_adv vk rfl rfl rfl ?_;simp only[go_sem];refine JV (s:=s1) wRp vk hl rfl rfl ?_;simp only[go_sem];exact⟨2,vk,rfl,by rw[nO,nO,PS.n_need];rfl⟩
 rw[hi,if_neg vk]at h;simp only[go_sem];clear hi;refine Jab (s:=s) wNil vk hl rfl rfl (λhi=>?_) λhi=>?_
 ·rw[hi,if_pos rfl]at h;obtain⟨⟨a,l1,s1⟩,h1,h⟩:=bind_some h;simp only[go_sem];refine JV (s:=s.adv) wLp vk hl rfl rfl ?_;simp only[go_sem];refine Qh (ih.typ _ _ _ _ h1) rfl rfl (by rw[PS.n_need,PS.n_adv]) vk rfl rfl rfl ?_;simp only[go_sem];refine JV (s:=s1) wRp vk hl rfl rfl ?_;simp only[go_sem];refine Je (id:=3) (z:=1) (els:=[[.int .i64 a]]) rfl rfl ?_;simp only[go_sem,JK,frz,KC,Kl,J8,KS (show (2:Nat)≠3 by decide),KT];refine Qv h rfl rfl PS.n_need vk _ wk.rslc rfl ?_;simp only[go_sem];exact⟨4,vk,rfl,rfl⟩
 rw[hi,if_neg vk]at h;simp only[go_sem];clear hi;refine JU (refWorded s.text) ?_;by_cases hw:wordK s.text=0
 case neg=>
  have d1:(((wordK s.text:Nat):Int) != 0)=true:=by rw[bne_iff_ne];omega
  have hat:s.at_<ts.length:=PS.text_in λg=>hw (by rw[g];rfl)
  rw[if_pos hw]at h;obtain⟨⟨a,l1,s1⟩,h1,h⟩:=bind_some h;simp only[go_sem,d1,pO,pC];refine⟨Jg,?_⟩;rw[pO_adv hat];refine JV (s:=s.adv) wLp vk hl rfl rfl ?_;simp only[go_sem];refine Qh (ih.Expr _ _ _ _ h1) rfl rfl (by rw[PS.n_need,PS.n_adv]) vk rfl rfl rfl ?_;simp only[go_sem];refine JV (s:=s1) wRp vk hl rfl rfl ?_;simp only[go_sem];refine JU (refWorded s.text) ?_;simp only[go_sem];refine Je (id:=3) (z:=1) (els:=[[.int .i64 a]]) rfl rfl ?_;simp only[go_sem,JK,frz,KC,Kl,J8,KS (show (2:Nat)≠3 by decide),KT];refine Qv h rfl rfl PS.n_need vk _ wk.rslc rfl ?_;simp only[go_sem];exact⟨4,vk,rfl,rfl⟩
 have d1:(((wordK s.text:Nat):Int) != 0)=false:=by rw[hw];rfl
 rw[if_neg (λg=>g hw)]at h;simp only[go_sem,d1];refine Jab (s:=s) wIf vk hl rfl rfl (λhi=>?_) λhi=>?_
 ·rw[hi,if_pos rfl]at h;obtain⟨⟨a,l1,s1⟩,h1,h⟩:=bind_some h;obtain⟨⟨b,l2,s2⟩,h2,h⟩:=bind_some h;obtain⟨⟨c,l3,s3⟩,h3,h⟩:=bind_some h;simp only[go_sem];refine Qh (ih.Expr _ _ _ _ h1) rfl rfl PS.n_adv vk rfl rfl rfl ?_;simp only[go_sem];refine Qh (ih.block _ _ _ _ h2) rfl rfl rfl vk rfl rfl rfl ?_;simp only[go_sem,JA,Gl,Gm,Gj,Gn];refine JV (s:=s2) wElse vk hl rfl rfl ?_;simp only[go_sem];refine Qh (ih.block _ _ _ _ h3) rfl rfl PS.n_need vk rfl rfl rfl ?_;simp only[go_sem,splice,JA,Gl,Gm,Gj,Gn];refine Je (id:=9) (z:=1) (els:=[[.int .i64 a],[.int .i64 b],[.int .i64 c]]) rfl rfl ?_;simp only[go_sem,JK,frz,KC,Kl,J8,KS (show (7:Nat)≠9 by decide),KT];refine Qv h rfl rfl rfl vk _ wk.rslc rfl ?_;simp only[go_sem];exact⟨10,vk,rfl,rfl⟩
 rw[hi,if_neg vk]at h;simp only[go_sem];clear hi;refine Jab (s:=s) wLoop vk hl rfl rfl (λhi=>?_) λhi=>?_
 ·rw[hi,if_pos rfl]at h;simp only[go_sem];refine Qh (ih.loop _ _ _ _ _ h) rfl rfl PS.n_adv vk rfl rfl rfl ?_;simp only[go_sem];exact⟨2,vk,rfl,rfl⟩
 rw[hi,if_neg vk]at h;simp only[go_sem];clear hi;refine Jab (s:=s) wArray vk hl rfl rfl (λhi=>?_) λhi=>?_
 ·rw[hi,if_pos rfl]at h;simp only[go_sem];refine Qh (ih.array _ _ _ _ _ h) rfl rfl PS.n_adv vk rfl rfl rfl ?_;simp only[go_sem];exact⟨2,vk,rfl,rfl⟩
 rw[hi,if_neg vk]at h;obtain⟨_,rfl,rfl,rfl⟩:=K8 h;simp only[go_sem];refine vr_fail (s:=s) rfl rfl ?_;simp only[go_sem];exact⟨1,vk,rfl,by rw[nO,nO,PS.n_fail];rfl⟩
section
variable{l:LD}
theorem Y4 (T':Lu)(H':Lv)(hm:P.follows .mixedOrders=true)
  (hb:(!(1 == 3) && decide (1<es.length) && decide (3<es.length))=true)
  (o1:(l.length == [false,true,false,true,false,true,false,true].length && (JaQ l.length (Jaz es 3 1) (clo (Jaz es 3 1)) && Qf l (clo (Jaz es 3 1)) ([false,true,false,true,false,true,false,true].map QY)))=true)
  (hp:JdH l.length [0,2,3,1,4,5,6,7] [0,3,1,2,4,5,6,7]=true)
  (o2:((prl [0,2,3,1,4,5,6,7] l).length == [false,false,true,true,false,true,false,true].length && (JaQ (prl [0,2,3,1,4,5,6,7] l).length (pre [0,2,3,1,4,5,6,7] [0,3,1,2,4,5,6,7] (Jaz es 1 3)) (clo (pre [0,2,3,1,4,5,6,7] [0,3,1,2,4,5,6,7] (Jaz es 1 3))) && Qf (prl [0,2,3,1,4,5,6,7] l) (clo (pre [0,2,3,1,4,5,6,7] [0,3,1,2,4,5,6,7] (Jaz es 1 3))) ([false,false,true,true,false,true,false,true].map QY)))=true)
  (h1:vdk P E (leads P E n0 N Q T' H') l [false,true,false,true,false,true,false,true] T H)
  (h2:vdk P E (leads P E n0 N Q T' H') (prl [0,2,3,1,4,5,6,7] l) [false,false,true,true,false,true,false,true] T H)
  (AA:KD P E n0 N Q k T' H'):Ok P E n0 N Q (.code (.dreg l es)::k) T H:=
 JgP hm (JcQ 1 3 hb (Yj _ T' H' o1 (JD _ _ _ AA) h1) (JcP _ _ hp (Yj _ T' H' o2 (JD _ _ _ AA) h2)))
theorem KU{n:Nat}{zero:Lu}{ps:List (Nat×IArg)}(els:LQ)(Az:Jk ((IOp.bslice z n zero ps).rd.map λs=>T.getD s .un)=true)(he:X7 T z (Gx n zero) ps=some els)(hn:els.length=n)(hc:Jq els=true)(h:vdk P E K l bs (put T d (.rslc z els none)) H):vdkR P E none d (.bslice z n zero ps) false K l bs T H:=⟨_,H,hs_row els Az he hn hc,h⟩
theorem wks_at:∀{l l':Lu}{t:Nat}{c':CV},wks l l'->l'[t]? = some c'->∃c,l[t]? = some c/\Cm.wk c c'
 |[],[],_,_,_,h=>by simp at h
 |c::l,c'::l',0,d,hw,h=>by simp at h;subst h;exact⟨c,rfl,hw.1⟩
 |c::l,c'::l',t+1,d,hw,h=>by simp at h;simpa using wks_at hw.2 h
theorem wks_ln:∀{l l':Lu},wks l l'->l.length=l'.length
 |[],[],_=>rfl
 |_::l,_::l',hw=>by simp[wks_ln hw.2]
theorem vr_wkO{a b:Lu}(hH:H[i]? = some (.arr z [a]))(hw:wks a b)(h:KD P E n0 N Q k T (H.set i (.arr z [b]))):Ok P E n0 N Q k T H:=by
 intro m w a' b' cs kr rest hp hd hk;have hs:=hp.sim;have Dm:∀{k:Nat} {o:CObj},(H.set i (.arr z [b]))[k]? = some o->(k=i/\o=.arr z [b])\/(k≠i/\H[k]? = some o):=λ{k o} h=>by
  by_cases E5:k=i
  ·subst E5;rw[GA (Gq.1 hH).1]at h;exact .inl ⟨rfl,(GJ h).symm⟩
  ·rw[GH (λg=>E5 g.symm)]at h;exact .inr ⟨E5,h⟩
 have key:∀(k:Nat) o,(H.set i (.arr z [b]))[k]? = some o->∃o',H[k]? = some o'/\o'.alive=o.alive:=λk o h=>by
  rcases Dm h with ⟨rfl,rfl⟩|⟨_,h2⟩
  ·exact⟨_,hH,rfl⟩
  ·exact⟨o,h2,rfl⟩
 have AB:Sim E m (H.set i (.arr z [b])) w:=by
  refine⟨by rw[GL];exact hs.len,λk o x hk hx=>?_,hs.imm,hs.one,λk k' o o' x x' hk AC ha AX hx Aw hB=>?_,λk o x hk ha hx=>?_,λk s b hk=>?_,λk o x hk ha hx=>?_,hs.extlt,hs.gl⟩
  ·rcases Dm hk with ⟨rfl,rfl⟩|⟨_,h2⟩
   ·obtain⟨hz,c,elem,h1,h2,h3,h4,h5⟩:=hs.obj k _ x hH hx;refine⟨hz,c,elem,h1,h2,h3,λj e he=>?_,h5⟩;have hj:j=0:=by have:=(Gq.1 he).1;simp at this;exact this
    subst hj;simp only[GN,GU]at he;subst he;obtain⟨q1,q2⟩:=h4 0 a rfl;refine⟨by rw[<-wks_ln hw];exact q1,λt c' C8=>?_⟩;obtain⟨c0,g1,g2⟩:=wks_at hw C8;obtain⟨r,r1,r2⟩:=q2 t c0 g1;exact⟨r,r1,g2 _ _ _ r2⟩
   ·exact hs.obj k o x h2 hx
  ·obtain⟨p,hp,CU⟩:=key k o hk;obtain⟨p',EW,II⟩:=key k' o' AC;exact hs.sep k k' p p' x x' hp EW (CU.trans ha) (II.trans AX) hx Aw hB
  ·obtain⟨p,hp,CU⟩:=key k o hk;exact hs.ro k p x hp (CU.trans ha) hx
  ·rcases Dm hk with ⟨_,h2⟩|⟨_,h2⟩
   ·cases h2
   ·exact hs.ext k s b h2
  ·obtain⟨p,hp,CU⟩:=key k o hk;exact hs.extsep k p x hp (CU.trans ha) hx
 have he:Ext n0 m H w m (H.set i (.arr z [b])) w:=by
  refine⟨Gd _,λ_ _ _=>rfl,KJ.refl _,λB hB=>.inl ?_,λB i v hv=>.inl hv,λk x _ hx=>hx,λh=>h,rfl,rfl,rfl⟩;rcases hB with h|⟨k,o,x,hk,ha,hx,hB⟩
  ·exact .inl h
  ·obtain⟨p,hp,CU⟩:=key k o hk;exact .inr ⟨k,p,x,hp,CU.trans ha,hx,hB⟩
 exact Reach.step (.refl _ _) he (JD _ _ _ h _ w a' b' cs kr rest ⟨AB,hp.tmps,by rw[GL];exact hp.long⟩ (hd.ext he) hk)
end
theorem Jb2{l:LD}{s s' s0:PS ts}{args:Lu}(hM:JbW Ga f args e s s' res)(hq:H[q]? = some (pO e s r))(hr:H[r]? = some (nO s0))(hn:s.nodes=s0.nodes)(Ii:q≠r)(ha:Jk args=true)(hc:res.closed=true)(hw:ags.map (Kg T)=.ptr q 0 0::args)(h:vdk Ga E K l bs (put T d res) ((H.set q (pO e s' H.length)).set r .dead++[nO s'])):vdkR Ga E none d (.call f ags) true K l bs T H:=vk_c (hw▸hM.meth ha hc hq (by rw[hr,nO,nO,hn]) Ii) h
theorem wStmt(hl:ts.length<=1000000)(hf:f<=1000000)(ih:∀g,g<=f->Law e g ts)(s s':PS ts)(v:Int)(l:Lx)(h:run e (f+1) .stmt s=some (v,l,s')):JbW Ga 166 [] e s s' (.int .i64 v):=by
 refine Xw (Ki c166_ok λN=>?_) rfl λv H' h=>h
 have ih0:=ih f (Gd _);simp only[run]at h;obtain⟨⟨a,l1,s1⟩,h1,h⟩:=bind_some h;obtain⟨⟨z,K,s2⟩,h2,h⟩:=bind_some h;obtain⟨⟨x,l3,s3⟩,h3,h⟩:=bind_some h;simp only[c166,go_sem];refine Qh (ih0.bind _ _ _ _ h1) rfl rfl rfl vk rfl rfl rfl ?_;simp only[go_sem,splice];refine vr_wkO (i:=4) (b:=[.int .u8 41,S [],.int .i64 1,.slc 3 0 1 none,.int .i64 0]) rfl ⟨wk.refl _,wk.refl _,wk.refl _,JgL,wk.refl _,trivial⟩ ?_;simp only[go_sem];refine Js (σ:=Nat×Lx×PS ts) (I:=λt=>t.2.1≠[]/\t.2.1.length+t.1<=f+1/\t.1<=f/\run e t.1 (.stmtL t.2.1) t.2.2=some (z,K,s2))
  (inv:=λt=>gp [(0,.ptr 0 0 0),(2,.ptr 4 0 0)] 32) (hp:=λt=>[pO e t.2.2 2,.dead,nO t.2.2,.arr 1 (iz t.2.1),.arr 5 [[.int .u8 41,S [],.int .i64 (t.2.1.length:Nat),.slc 3 0 t.2.1.length none,.int .i64 0]]]) (μ:=λt=>t.1) (f,[a],s1) [0,1,2,3,4] ⟨sM,by simp only[Gf];omega,Gd _,h2⟩ rfl ?_ ?_ ?_
 ·simp[forget,JG,ren,Jl,gp]
 ·simp only[KE,Gb,Gc,go_sem,Jo,Qa (ρ:=[0,1,2,3,4]) (i:=2) (j:=2) (λ_=>rfl),Qb,Jn];rfl
 ·rintro⟨g,k,s⟩ ⟨hk,El,hg,h2⟩
  dsimp only at hk El hg h2|-
  have Ap:(iz k).length=k.length:=Jf
  cases g with
  |zero=>cases h2
  |succ g=>
   simp only[run]at h2;simp only[go_sem];refine Jab (s:=s) wCm vk hl rfl rfl (λhi=>?_) λhi=>?_
   ·simp only[hi,if_true]at h2;obtain⟨⟨b,l4,s4⟩,h4,h2⟩:=bind_some h2;simp only[go_sem];refine Y4 (gp [(0,.ptr 0 0 0),(2,.ptr 4 0 0)] 32) [pO e s4 5,.dead,.dead,.dead,.arr 5 [[.int .u8 41,S [],.int .i64 (k.length:Nat),.slc 6 0 (k.length+1) none,.int .i64 0]],nO s4,.arr 1 (iz k++[[.int .i64 b]])] Jm vk vM vk vM ?_ ?_ ?_
    ·simp only[go_sem];refine Jb2 ((ih g om).bind _ _ _ _ h4) rfl rfl PS.n_adv vk rfl rfl rfl ?_;simp only[go_sem];refine KU [[.int .i64 b]] rfl rfl rfl rfl ?_;simp only[go_sem,splice,JA,Ap];exact⟨om,Jp (by simp[forget])⟩
    ·simp only[prl,Q6,Gb,Gc,Gh,Gi,go_sem];refine Jb2 ((ih g om).bind _ _ _ _ h4) rfl rfl PS.n_adv vk rfl rfl rfl ?_;simp only[go_sem];refine KU [[.int .i64 b]] rfl rfl rfl rfl ?_;simp only[go_sem,splice,JA,Ap];exact⟨om,Jp (by simp[forget])⟩
    ·simp only[go_sem,splice];refine⟨Jg,(g,k++[b],s4),[0,1,5,6,4],⟨sM,by simp only[Gg,Gf];omega,om,h2⟩,by simp only;omega,rfl,?_,?_⟩
     ·simp only[KE,Gb,Gc,go_sem,Jo,JG,ren,Qa (ρ:=[0,1,5,6,4]) (i:=5) (j:=2) (λ_=>rfl),Qb,Jn,K7,Gs,Jao,Gg,Gf];rfl
     ·simp[forget,JG,ren,Jl]
   ·simp only[hi,Gw,if_false]at h2;obtain⟨hK,rfl,rfl,rfl⟩:=K8 h2;simp only[go_sem];refine JV (s:=s2) wEq vk hl rfl rfl ?_;simp only[go_sem,splice];refine Y4 (gp [(0,.ptr 0 0 0),(2,.ptr 4 0 0)] 32) [pO e s3 5,.dead,.dead,.dead,.arr 5 [[.int .u8 41,S [],.int .i64 (K.length:Nat),.slc 6 0 (K.length+1) none,.int .i64 (s2.place e)]],nO s3,.arr 1 (iz K++[[.int .i64 x]])] Jm vk vM vk vM ?_ ?_ ?_
    ·simp only[go_sem];refine Jb2 (ih0.Expr _ _ _ _ h3) rfl rfl PS.n_need vk rfl rfl rfl ?_;simp only[go_sem];refine KU [[.int .i64 x]] rfl rfl rfl rfl ?_;simp only[go_sem,splice,JA,Ap];exact⟨om,Jp (by simp[forget])⟩
    ·simp only[prl,Q6,Gb,Gc,Gh,Gi,go_sem];refine Jb2 (ih0.Expr _ _ _ _ h3) rfl rfl PS.n_need vk rfl rfl rfl ?_;simp only[go_sem];refine KU [[.int .i64 x]] rfl rfl rfl rfl ?_;simp only[go_sem,splice,JA,Ap];exact⟨om,Jp (by simp[forget])⟩
    ·simp only[go_sem];refine JV (s:=s3) wSe vk hl rfl rfl ?_;simp only[go_sem];have hx:iz K++[[.int .i64 x]]=iz (K++[x]):=by rw[K7];rfl
     rw[hx];refine Je (id:=6) (z:=1) (els:=iz (K++[x])) rfl (Jh _) ?_;have CE:K.length+1=(iz (K++[x])).length:=by rw[Jf];simp
     simp only[go_sem,JK,frz,KC,Kl,J8,KS (show (5:Nat)≠6 by decide),KT,CE,Gv,Gd,if_true,Gu,Gt];refine Qv h rfl rfl PS.n_need vk _ wk.rslc rfl ?_;simp only[go_sem];exact⟨7,vk,rfl,rfl⟩
section
variable{R:Lv}{s:PS ts}
theorem vr_move (hn:s.nodes=s0.nodes)(h:KD P E n0 N Q k T (pO e s (R.length+2) :: .dead::(R++[nO s,.dead]))):Ok P E n0 N Q k T (pO e s 1::nO s0::R):=by
 have Ij:nO s0=nO s:=by rw[nO,nO,hn]
 rw[Ij];intro m w a' b' cs kr rest hp hd hk;have hs:=hp.sim;have Ad:m.own.length=R.length+2:=hs.len;obtain⟨x0,o0⟩:∃y,m.own[0]? = some y:=⟨_,Gr om⟩;obtain⟨x1,o1⟩:∃y,m.own[1]? = some y:=⟨_,Gr om⟩;have Be:=KZ.append m.own [x1,x1];have key:∀(k:Nat) o x,(pO e s (R.length+2) :: .dead::(R++[nO s,.dead]))[k]? = some o->(m.own++[x1,x1])[k]? = some x->o.alive=true->
   ∃k' o',(pO e s 1::nO s::R)[k']? = some o'/\o'.alive=true/\m.own[k']? = some x/\((k=0/\k'=0)\/(k=R.length+2/\k'=1/\o=nO s)\/(k'=k/\2<=k/\o=o')):=λk o x hk hx ha=>by
  match k with
  |0=>simp at hk;subst hk;rw[GM om,o0]at hx;cases hx;exact⟨0,_,rfl,rfl,o0,.inl ⟨rfl,rfl⟩⟩
  |1=>simp at hk;subst hk;cases ha
  |k+2=>
   simp only[GQ]at hk;rcases Jdu hk with ⟨Ab,Aq⟩|⟨j,rfl,Aq⟩
   ·rw[GM om]at hx;exact⟨k+2,o,by simpa using Aq,ha,hx,.inr (.inr ⟨rfl,om,rfl⟩)⟩
   ·match j with
    |0=>simp at Aq;subst Aq;rw[GK om,Ad]at hx;simp at hx;subst hx;exact⟨1,nO s,rfl,ha,o1,.inr (.inl ⟨om,rfl,rfl⟩)⟩
    |1=>simp at Aq;subst Aq;cases ha
    |j+2=>simp at Aq
 have AB:Sim E { m with own:=m.own++[x1,x1] } (pO e s (R.length+2) :: .dead::(R++[nO s,.dead])) w:=by
  refine⟨by simp[Ad],λk o x hk hx=>?_,hs.imm,hs.one,λk k' o o' x x' hk AC ha AX hx Aw hB=>?_,λk o x hk ha hx=>?_,λk a b hk=>?_,λk o x hk ha hx=>?_,hs.extlt,hs.gl⟩
  ·by_cases ha:o.alive=true
   ·obtain⟨k',o',g1,g2,g3,g4⟩:=key k o x hk hx ha;rcases g4 with ⟨rfl,rfl⟩|⟨rfl,rfl,rfl⟩|⟨rfl,_,rfl⟩
    ·simp at hk;subst hk;exact pO_rel (λy hy=>by show (m.own++[x1,x1])[R.length+2]? = some y;rw[GK om,Ad,GV];rw[o1]at hy;simpa using hy) (hs.obj 0 _ _ rfl g3)
    ·exact Jeg Jbg (hs.obj 1 _ _ rfl g3)
    ·exact KO Be (KJ.refl _) (λ_=>rfl) (hs.obj _ _ _ g1 g3)
   ·cases o <;> simp[CObj.alive]at ha <;> trivial
  ·obtain⟨j,y,g1,g2,g3,g4⟩:=key k o x hk hx ha;obtain⟨j',y',g1',g2',g3',g4'⟩:=key k' o' x' AC Aw AX;have:=hs.sep j j' _ _ _ _ g1 g1' g2 g2' g3 g3' hB;have hR:∀{i:Nat} {o:CObj},(pO e s 1::nO s::R)[i]? = some o->i<R.length+2:=λ{i o} h=>by have:=(Gq.1 h).1;simp at this;omega
   have:=hR g1;have:=hR g1';omega
  ·obtain⟨j,y,g1,g2,g3,g4⟩:=key k o x hk hx ha;exact hs.ro j _ _ g1 g2 g3
  ·match k with
   |0=>simp[pO]at hk
   |1=>simp at hk
   |k+2=>
    simp only[GQ]at hk;rcases Jdu hk with ⟨Ab,Aq⟩|⟨j,rfl,Aq⟩
    ·exact hs.ext (k+2) a b (by simpa using Aq)
    ·match j with
     |0=>simp at Aq;rcases Jbg (s:=s) with g|⟨_,_,g,_⟩ <;> rw[g]at Aq <;> cases Aq
     |1=>simp at Aq
     |j+2=>simp at Aq
  ·obtain⟨j,y,g1,g2,g3,g4⟩:=key k o x hk hx ha;exact hs.extsep j _ _ g1 g2 g3
 have he:Ext n0 m (pO e s 1::nO s::R) w { m with own:=m.own++[x1,x1] } (pO e s (R.length+2) :: .dead::(R++[nO s,.dead])) w:=by
  refine⟨Gd _,λ_ _ _=>rfl,KJ.refl _,λB hB=>.inl ?_,λB i v hv=>.inl hv,λk x _ hx=>Be k x hx,λh=>by simp;omega,rfl,rfl,rfl⟩;rcases hB with h|⟨k,o,x,hk,ha,hx,hB⟩
  ·exact .inl h
  ·obtain⟨j,y,g1,g2,g3,g4⟩:=key k o x hk hx ha;exact .inr ⟨j,y,x,g1,g2,g3,hB⟩
 exact Reach.step (.refl _ _) he (JD _ _ _ h _ w a' b' cs kr rest ⟨AB,KY Be (KJ.refl _) _ _ hp.tmps,by have:=hp.long;simp at this|-;omega⟩ (hd.ext he) hk)
variable{l:LD}
theorem vr_kids (T':Lu)(H':Lv)(hm:P.follows .mixedOrders=true)
  (hb:(!(1 == 3) && decide (1<es.length) && decide (3<es.length))=true)
  (o1:(l.length == [false,true,false,true,true,false,true].length && (JaQ l.length (Jaz es 3 1) (clo (Jaz es 3 1)) && Qf l (clo (Jaz es 3 1)) ([false,true,false,true,true,false,true].map QY)))=true)
  (hp:JdH l.length [0,2,3,1,4,5,6] [0,3,1,2,4,5,6]=true)
  (o2:((prl [0,2,3,1,4,5,6] l).length == [false,false,true,true,true,false,true].length && (JaQ (prl [0,2,3,1,4,5,6] l).length (pre [0,2,3,1,4,5,6] [0,3,1,2,4,5,6] (Jaz es 1 3)) (clo (pre [0,2,3,1,4,5,6] [0,3,1,2,4,5,6] (Jaz es 1 3))) && Qf (prl [0,2,3,1,4,5,6] l) (clo (pre [0,2,3,1,4,5,6] [0,3,1,2,4,5,6] (Jaz es 1 3))) ([false,false,true,true,true,false,true].map QY)))=true)
  (h1:vdk P E (leads P E n0 N Q T' H') l [false,true,false,true,true,false,true] T H)
  (h2:vdk P E (leads P E n0 N Q T' H') (prl [0,2,3,1,4,5,6] l) [false,false,true,true,true,false,true] T H)
  (AA:KD P E n0 N Q k T' H'):Ok P E n0 N Q (.code (.dreg l es)::k) T H:=
 JgP hm (JcQ 1 3 hb (Yj _ T' H' o1 (JD _ _ _ AA) h1) (JcP _ _ hp (Yj _ T' H' o2 (JD _ _ _ AA) h2)))
end
theorem JgM{c:ICode}{b:Nat}(C:α->Prop)(T0:α->Lu)(H0:α->Lv)
  (h:∀c',(∀x,C x->Ok P E n0 N Q [.ops [⟨d2,.call f ags,none⟩],.code c'] (T0 x) (H0 x))->Ok P E n0 N Q [.code c,.blk b,.code (.seq (.reg [⟨d1,.mv (.s 0),none⟩,⟨d2,.call f ags,none⟩]) c')] T H)
  (hx:∀x,C x->Ok P E n0 N Q [.ops [⟨d2,.call f ags,none⟩],.code c2] (T0 x) (H0 x)):Ok P E n0 N Q [.code c,.blk b,.code (.seq (.reg [⟨d1,.mv (.s 0),none⟩,⟨d2,.call f ags,none⟩]) c2)] T H:=h c2 hx
theorem JgA:∀(g:Nat) (k:Lx) (s s':PS ts) (v:Int) (l:Lx),k≠[]->run e g (.exprsL k) s=some (v,l,s')->l≠[]/\l.length<=1000000
 |0,_,_,_,_,_,_,h=>by cases h
 |g+1,k,s,s',v,l,hk,h=>by
  simp only[run]at h
  split at h
  ·obtain⟨⟨b,_,s1⟩,_,h⟩:=bind_some h;exact JgA g _ _ _ _ _ sM h
  ·obtain⟨hl,rfl,rfl,rfl⟩:=K8 h;exact⟨hk,hl⟩
theorem exprs_out{g:Nat}{s s':PS ts}{v:Int}{l:Lx}(h:run e g .exprs s=some (v,l,s')):∃x k,l=x::k/\k.length+1<=1000000:=by
 cases g with
 |zero=>cases h
 |succ g=>
  simp only[run]at h;obtain⟨⟨b,_,s1⟩,_,h⟩:=bind_some h;obtain⟨h1,h2⟩:=JgA g _ _ _ _ _ sM h
  cases l with
  |nil=>exact absurd rfl h1
  |cons x k=>exact⟨x,k,rfl,by simpa using h2⟩
theorem wBlock(hl:ts.length<=1000000)(hf:f<=1000000)(ih:∀g,g<=f->Law e g ts)(s s':PS ts)(v:Int)(l:Lx)(h:run e (f+1) .block s=some (v,l,s')):JbW Ga 125 [] e s s' (.int .i64 v):=by
 refine Xw (Ki c125_ok λN=>?_) rfl λv H' h=>h
 have ih0:=ih f (Gd _);simp only[run]at h;obtain⟨⟨z,K,s1⟩,h1,h⟩:=bind_some h;obtain⟨⟨y,L,s2⟩,h2,h⟩:=bind_some h
 dsimp only at h h2
 simp only[c125,go_sem];refine JV (s:=s) wLc vk hl rfl rfl ?_;simp only[go_sem,splice];refine vr_move (s:=s.need e wLc) (s0:=s) PS.n_need ?_;simp only[go_sem,Gl,Gm,Gj,Gn];have hP:∃p,p=s.place e:=⟨_,rfl⟩;obtain⟨p,hP⟩:=hP;rw[<-hP]at h|-;refine JgM (α:=Lx×PS ts) (λt=>t.1.length<=1000000/\t=(K,s1)) (λt=>gp [(0,.ptr 0 0 0),(2,.ptr 2 0 0),(24,.ptr 0 0 0)] 12) (λt=>[pO e t.2 3,.dead,.arr 5 [[.int .u8 40,S [],.int .i64 (t.1.length:Nat),Qr 4 (iz t.1),.int .i64 p]],nO t.2,Xm 1 (iz t.1)]) (λc' A7=>?_) ?_
 ·refine Js (σ:=Nat×Lx×PS ts) (I:=λt=>t.2.1.length+t.1<=f/\t.1<=f/\run e t.1 (.blockL t.2.1) t.2.2=some (z,K,s1))
   (inv:=λt=>gp [(0,.ptr 0 0 0),(2,.ptr 2 0 0)] 37) (hp:=λt=>[pO e t.2.2 3,.dead,.arr 5 [[.int .u8 40,S [],.int .i64 (t.2.1.length:Nat),Qr 4 (iz t.2.1),.int .i64 p]],nO t.2.2,Xm 1 (iz t.2.1)]) (μ:=λt=>t.1) (f,[],s.need e wLc) [0,1,2,3,4] ⟨sM,Gd _,h1⟩ rfl ?_ ?_ ?_
  ·simp[forget,JG,ren,Jl,gp]
  ·simp only[KE,Gb,Gc,go_sem,Jo,Qa (ρ:=[0,1,2,3,4]) (i:=3) (j:=3) (λ_=>rfl),Qb,Jn];rfl
  ·rintro⟨g,k,s⟩ ⟨El,hg,h1⟩
   dsimp only at El hg h1|-
   have Ap:(iz k).length=k.length:=Jf
   cases g with
   |zero=>cases h1
   |succ g=>
    simp only[run]at h1;by_cases hb:s.bad<0
    ·have d1:(s.bad<0)=True:=eq_true hb;simp only[go_sem,pO,pC,d1];refine Kt (.inr ⟨12,true,rfl,rfl⟩) (Jhu (s:=s) (e:=e) (r:=3) rfl) ?_;rintro _ _ ⟨rfl,rfl⟩;by_cases ht:s.text=wGive
     ·have d2:(s.text == [103,105,118,101])=true:=beq_iff_eq.2 ht;rw[if_neg (λg=>g.2 ht)]at h1;obtain⟨hK,rfl,rfl,rfl⟩:=K8 h1;simp only[go_sem,d2];exact Qm (by simp[gp,wks,wk.un,wk.refl]) (A7 (K,s1) ⟨hK,rfl⟩)
     ·have d2:(s.text == [103,105,118,101])=false:=beq_eq_false_iff_ne.2 ht;rw[if_pos ⟨hb,ht⟩]at h1;obtain⟨⟨b,l4,s4⟩,h4,h1⟩:=bind_some h1;simp only[go_sem,d2];refine Y4 (gp [(0,.ptr 0 0 0),(2,.ptr 2 0 0)] 37) [pO e s4 5,.dead,.arr 5 [[.int .u8 40,S [],.int .i64 (k.length:Nat),.slc 6 0 (k.length+1) none,.int .i64 p]],.dead,.dead,nO s4,.arr 1 (iz k++[[.int .i64 b]])] Jm vk vM vk vM ?_ ?_ ?_
      ·simp only[go_sem];refine Jb2 ((ih g om).stmt _ _ _ _ h4) rfl rfl rfl vk rfl rfl rfl ?_;simp only[go_sem];refine KU [[.int .i64 b]] rfl rfl rfl rfl ?_;simp only[go_sem,splice,JA,Ap];exact⟨om,Jp (by simp[forget])⟩
      ·simp only[prl,Q6,Gb,Gc,Gh,Gi,go_sem];refine Jb2 ((ih g om).stmt _ _ _ _ h4) rfl rfl rfl vk rfl rfl rfl ?_;simp only[go_sem];refine KU [[.int .i64 b]] rfl rfl rfl rfl ?_;simp only[go_sem,splice,JA,Ap];exact⟨om,Jp (by simp[forget])⟩
      ·simp only[go_sem,splice];refine⟨Jg,(g,k++[b],s4),[0,1,2,5,6],⟨by simp only[Gg,Gf];omega,om,h1⟩,by simp only;omega,rfl,?_,?_⟩
       ·have Ep:Qr 4 (iz (k++[b]))=.slc 4 0 (k.length+1) none:=by rw[K7,show iz [b]=[[CV.int .i64 b]] from rfl,KM,Ap];rfl
        have OZ:Xm 1 (iz (k++[b]))=.arr 1 (iz k++[[.int .i64 b]]):=by rw[K7,show iz [b]=[[CV.int .i64 b]] from rfl,KN]
        rw[Ep,OZ];simp only[KE,Gb,Gc,go_sem,Jo,JG,ren,Qa (ρ:=[0,1,2,5,6]) (i:=5) (j:=3) (λ_=>rfl),Qb,Jn,Gs,Jao,Gg,Gf];rfl
       ·simp[forget,JG,ren,Jl]
    ·have d1:(s.bad<0)=False:=eq_false hb;rw[if_neg (λg=>hb g.1)]at h1;obtain⟨hK,rfl,rfl,rfl⟩:=K8 h1;simp only[go_sem,pO,pC,d1];exact Qm (by simp[gp,wks,wk.un,wk.refl]) (A7 (K,s1) ⟨hK,rfl⟩)
 ·rintro⟨k,s⟩ ⟨hK,he⟩
  cases he
  dsimp only
  obtain⟨x,L,rfl,hL⟩:=exprs_out h2;have Ap:(iz K).length=K.length:=Jf;have Cu:(iz L).length=L.length:=Jf;refine JV (s:=s1) wGive vk hl rfl rfl ?_;simp only[go_sem,gp,Gx];refine vr_kids (gp [(0,.ptr 0 0 0),(2,.ptr 2 0 0)] 37) [pO e s2 5,.dead,.arr 5 [[.int .u8 40,S [],.int .i64 (K.length:Nat),.slc 6 0 (K.length+(L.length+1)) none,.int .i64 p]],.dead,.dead,nO s2,.arr 1 (iz K++[.int .i64 x]::iz L)] Jm vk vM vk vM ?_ ?_ ?_
  ·simp only[go_sem];refine Jb2 (ih0.exprs _ _ _ _ h2) rfl rfl PS.n_need vk rfl rfl rfl ?_;rw[show iz (x::L)=[.int .i64 x]::iz L from rfl];simp only[go_sem,splice,JA,Ap,Cu];exact⟨by dsimp only at hK;omega,Jp (by simp[forget])⟩
  ·simp only[prl,Q6,Gb,Gc,Gh,Gi,go_sem];refine Jb2 (ih0.exprs _ _ _ _ h2) rfl rfl PS.n_need vk rfl rfl rfl ?_;rw[show iz (x::L)=[.int .i64 x]::iz L from rfl];simp only[go_sem,splice,JA,Ap,Cu];exact⟨by dsimp only at hK;omega,Jp (by simp[forget])⟩
  ·simp only[go_sem];refine JV (s:=s2) wRc vk hl rfl rfl ?_;simp only[go_sem];rw[show iz K++[.int .i64 x]::iz L=iz (K++x::L) by rw[K7];rfl];refine Je (id:=6) (z:=1) (els:=iz (K++x::L)) rfl (Jh _) ?_;have CE:K.length+(L.length+1)=(iz (K++x::L)).length:=by rw[Jf];simp
   simp only[go_sem,JK,frz,KC,Kl,J8,KS (show (5:Nat)≠6 by decide),KT,CE,Gv,Gd,if_true,Gu,Gt];refine Qv h rfl rfl PS.n_need vk _ wk.rslc rfl ?_;simp only[go_sem];exact⟨7,vk,rfl,rfl⟩
theorem vr_share3{L:LD}{B D:ICode}(C:α->Prop)(T0:α->Lu)(H0:α->Lv)
  (h:∀c',(∀x,C x->Ok P E n0 N Q [.ops [⟨d2,.call f ags,none⟩],.code c'] (T0 x) (H0 x))->Ok P E n0 N Q [.ops L,.code A,.code (.seq D (.seq B (.seq (.reg [⟨d1,.mv (.s 0),none⟩,⟨d2,.call f ags,none⟩]) c')))] T H)
  (hx:∀x,C x->Ok P E n0 N Q [.ops [⟨d2,.call f ags,none⟩],.code c2] (T0 x) (H0 x)):Ok P E n0 N Q [.ops L,.code A,.code (.seq D (.seq B (.seq (.reg [⟨d1,.mv (.s 0),none⟩,⟨d2,.call f ags,none⟩]) c2)))] T H:=h c2 hx
theorem wCells(AJ:tsOk ts=true)(ih:Law e f ts)(s s':PS ts)(v:Int)(l:Lx)(h:run e (f+1) .cells s=some (v,l,s')):JbW Ga 270 [] e s s' (.int .i64 v):=by
 have hl:ts.length<=1000000:=by simp only[tsOk,Gp,decide_eq_true_eq]at AJ;exact AJ.1
 refine Xw (Ki c270_ok λN=>?_) rfl λv H' h=>h
 simp only[run]at h;obtain⟨p,hP⟩:∃p,p=s.place e:=⟨_,rfl⟩;simp only[c270,go_sem];refine JV (s:=s) wLb vk hl rfl rfl ?_;simp only[go_sem,splice];rw[<-hP]at h|-;have ET:(s.need e wLb).nodes=s.nodes:=PS.n_need;generalize s.need e wLb=s0 at h ET|-;refine vr_share3 (α:=Nat×LA×Int×Lx×PS ts) (λt=>t.2.2.2.1.length<=2/\((run e f .Expr ((t.2.2.2.2.need e wRb).need e wEq)).bind λ(x,_,s4)=>s4.put ⟨t.1,t.2.1,t.2.2.1,t.2.2.2.1++[x],p⟩)=some (v,l,s')) (λ_=>gp [(0,.ptr 0 0 0),(2,.ptr 2 0 0),(38,.ptr 0 0 0)] 13) (λt=>[pO e t.2.2.2.2 3,.dead,.arr 5 [[.int .u8 t.1,S t.2.1,.int .i64 t.2.2.1,.slc 4 0 t.2.2.2.1.length none,.int .i64 p]],nO t.2.2.2.2,.arr 1 (iz t.2.2.2.1)]) (λc' A7=>?_) ?_
 ·refine JgN (s:=s0) 2 rfl rfl ?_
  cases hk:s0.kind 2 with
  |true=>
   rw[hk,if_pos rfl]at h;obtain⟨⟨b,l1,s1⟩,h1,h⟩:=bind_some h;obtain⟨⟨d,l2,s2⟩,h2,h⟩:=bind_some h
   dsimp only at h2 h
   simp only[go_sem,splice];refine Jc2 (s:=s0) 2 hl rfl rfl ?_;simp only[go_sem,splice];refine JV (s:=s0.take e 2) wIn vk hl rfl rfl ?_;simp only[go_sem];refine Qh (ih.bound _ _ _ _ h1) rfl rfl (by rw[PS.n_need,PS.n_take,ET]) vk rfl rfl rfl ?_;simp only[go_sem,splice];refine JV (s:=s1) wDd vk hl rfl rfl ?_;simp only[go_sem];refine vr_wkO (i:=2) (b:=[.int .u8 47,S (s0.taken 2),.int .i64 1,.slc 4 0 1 none,.int .i64 p]) rfl ⟨wk.refl _,wk.refl _,wk.refl _,JgL,wk.refl _,trivial⟩ ?_;simp only[go_sem];refine Y4 (gp [(0,.ptr 0 0 0),(2,.ptr 2 0 0)] 52) [pO e s2 5,.dead,.arr 5 [[.int .u8 47,S (s0.taken 2),.int .i64 1,.slc 6 0 2 none,.int .i64 p]],.dead,.dead,nO s2,.arr 1 [[.int .i64 b],[.int .i64 d]]] Jm vk vM vk vM ?_ ?_ ?_
   ·simp only[go_sem];refine Jb2 (ih.bound _ _ _ _ h2) rfl rfl PS.n_need vk rfl rfl rfl ?_;simp only[go_sem];refine KU [[.int .i64 d]] rfl rfl rfl rfl ?_;simp only[go_sem,splice,JA,Gl,Gm,Gj,Gn];exact Jp (by simp[forget])
   ·simp only[prl,Q6,Gb,Gc,Gh,Gi,go_sem];refine Jb2 (ih.bound _ _ _ _ h2) rfl rfl PS.n_need vk rfl rfl rfl ?_;simp only[go_sem];refine KU [[.int .i64 d]] rfl rfl rfl rfl ?_;simp only[go_sem,splice,JA,Gl,Gm,Gj,Gn];exact Jp (by simp[forget])
   ·simp only[go_sem];refine Kt (.inr ⟨35,true,rfl,rfl⟩) (pIs (x:=wBy) (s:=s2) (e:=e) (r:=5) vk hl rfl) ?_;rintro _ _ ⟨rfl,rfl⟩
    cases hb:s2.is wBy with
    |true=>
     simp only[hb,if_true]at h;have Dr:s2.pass wBy=s2.adv:=by rw[PS.pass,if_pos hb]
     rw[Dr];simp only[go_sem];refine Ja0 (s:=s2.adv) AJ rfl rfl ?_;simp only[go_sem,splice];refine Qm (T':=gp [(0,.ptr 0 0 0),(2,.ptr 2 0 0),(38,.ptr 0 0 0)] 13) (by simp[gp,wks,wk.un,wk.refl]) (Jga (ρ:=[0,1,2,5,6]) (Q7 rfl) ?_);simp only[KE,Gb,Gc,go_sem,Jo,JG,ren,Qa (ρ:=[0,1,2,5,6]) (i:=5) (j:=3) (λ_=>rfl),Qb,Jn];have hn:nO s2=nO (s2.adv.take e 3):=by rw[nO,nO,PS.n_take,PS.n_adv]
     rw[hn];exact A7 (47,s0.taken 2,s2.adv.num,[b,d],(s2.adv.take e 3)) ⟨Gd 2,h⟩
    |false=>
     simp only[hb,Gw,if_false]at h;have Dr:s2.pass wBy=s2:=by rw[PS.pass,if_neg (by simp[hb])]
     rw[Dr];simp only[go_sem];refine Qm (T':=gp [(0,.ptr 0 0 0),(2,.ptr 2 0 0),(38,.ptr 0 0 0)] 13) (by simp[gp,wks,wk.un,wk.refl]) (Jga (ρ:=[0,1,2,5,6]) (Q7 rfl) ?_);simp only[KE,Gb,Gc,go_sem,Jo,JG,ren,Qa (ρ:=[0,1,2,5,6]) (i:=5) (j:=3) (λ_=>rfl),Qb,Jn];exact A7 (47,s0.taken 2,1,[b,d],s2) ⟨Gd 2,h⟩
  |false=>
   rw[hk,if_neg vk]at h;obtain⟨⟨d,l2,s2⟩,h2,h⟩:=bind_some h;simp only[go_sem];refine Y4 (gp [(0,.ptr 0 0 0),(2,.ptr 2 0 0)] 52) [pO e s2 3,.dead,.arr 5 [[.int .u8 46,S [],.int .i64 0,.slc 4 0 1 none,.int .i64 p]],nO s2,.arr 1 [[.int .i64 d]]] Jm vk vM vk vM ?_ ?_ ?_
   ·simp only[go_sem];refine Jb2 (ih.bound _ _ _ _ h2) rfl rfl ET vk rfl rfl rfl ?_;simp only[go_sem];refine KU [[.int .i64 d]] rfl rfl rfl rfl ?_;simp only[go_sem,splice,JA,Gl,Gm,Gj,Gn];exact Jp (by simp[forget])
   ·simp only[prl,Q6,Gb,Gc,Gh,Gi,go_sem];refine Jb2 (ih.bound _ _ _ _ h2) rfl rfl ET vk rfl rfl rfl ?_;simp only[go_sem];refine KU [[.int .i64 d]] rfl rfl rfl rfl ?_;simp only[go_sem,splice,JA,Gl,Gm,Gj,Gn];exact Jp (by simp[forget])
   ·simp only[go_sem];exact Qm (by simp[gp,wks,wk.un,wk.refl]) (A7 (46,[],0,[d],s2) ⟨Nat.le_succ 1,h⟩)
 ·rintro⟨k,t,n,K,s3⟩ ⟨hK,h⟩
  dsimp only at hK h|-
  obtain⟨⟨x,l4,s4⟩,h4,h⟩:=bind_some h;have Ap:(iz K).length=K.length:=Jf;refine JV (s:=s3) wRb vk hl rfl rfl ?_;simp only[go_sem,gp,Gx];refine JV (s:=s3.need e wRb) wEq vk hl rfl rfl ?_;simp only[go_sem];refine Y4 (gp [(0,.ptr 0 0 0),(2,.ptr 2 0 0)] 52) [pO e s4 5,.dead,.arr 5 [[.int .u8 k,S t,.int .i64 n,.slc 6 0 (K.length+1) none,.int .i64 p]],.dead,.dead,nO s4,.arr 1 (iz K++[[.int .i64 x]])] Jm vk vM vk vM ?_ ?_ ?_
  ·simp only[go_sem];refine Jb2 (ih.Expr _ _ _ _ h4) rfl rfl (by rw[PS.n_need,PS.n_need]) vk rfl rfl rfl ?_;simp only[go_sem];refine KU [[.int .i64 x]] rfl rfl rfl rfl ?_;simp only[go_sem,splice,JA,Ap];exact⟨om,Jp (by simp[forget])⟩
  ·simp only[prl,Q6,Gb,Gc,Gh,Gi,go_sem];refine Jb2 (ih.Expr _ _ _ _ h4) rfl rfl (by rw[PS.n_need,PS.n_need]) vk rfl rfl rfl ?_;simp only[go_sem];refine KU [[.int .i64 x]] rfl rfl rfl rfl ?_;simp only[go_sem,splice,JA,Ap];exact⟨om,Jp (by simp[forget])⟩
  ·simp only[go_sem];rw[show iz K++[[.int .i64 x]]=iz (K++[x]) by rw[K7];rfl];refine Je (id:=6) (z:=1) (els:=iz (K++[x])) rfl (Jh _) ?_;have CE:K.length+1=(iz (K++[x])).length:=by rw[Jf];simp
   simp only[go_sem,JK,frz,KC,Kl,J8,KS (show (5:Nat)≠6 by decide),KT,CE,Gv,Gd,if_true,Gu,Gt];refine Qv h rfl rfl rfl vk _ wk.rslc rfl ?_;simp only[go_sem];exact⟨7,vk,rfl,rfl⟩
theorem vr_share2{L:LD}(C:α->Prop)(T0:α->Lu)(H0:α->Lv)
  (h:∀c',(∀x,C x->Ok P E n0 N Q [.ops [⟨d2,.call f ags,none⟩],.code c'] (T0 x) (H0 x))->Ok P E n0 N Q [.ops L,.code A,.code (.seq (.reg [⟨d1,.mv (.s 0),none⟩,⟨d2,.call f ags,none⟩]) c')] T H)
  (hx:∀x,C x->Ok P E n0 N Q [.ops [⟨d2,.call f ags,none⟩],.code c2] (T0 x) (H0 x)):Ok P E n0 N Q [.ops L,.code A,.code (.seq (.reg [⟨d1,.mv (.s 0),none⟩,⟨d2,.call f ags,none⟩]) c2)] T H:=h c2 hx
theorem mArray(AJ:tsOk ts=true)(hf:f<=1000000)(ih:∀g,g<=f->Law e g ts)(p:Int)(s s':PS ts)(v:Int)(l:Lx)(h:run e (f+1) (.array p) s=some (v,l,s')):JbW Ga 258 [.int .i64 p] e s s' (.int .i64 v):=by
 have hl:ts.length<=1000000:=by simp only[tsOk,Gp,decide_eq_true_eq]at AJ;exact AJ.1
 refine Xw (Ki c258_ok λN=>?_) rfl λv H' h=>h
 have ih0:=ih f (Gd _);simp only[run]at h;obtain⟨⟨z,l1,s1⟩,h1,h⟩:=bind_some h
 dsimp only at h
 simp only[c258,go_sem,splice];refine JV (s:=s) wLp vk hl rfl rfl ?_;simp only[go_sem];refine Qh (ih0.Expr _ _ _ _ h1) rfl rfl PS.n_need vk rfl rfl rfl ?_;simp only[go_sem,splice];refine vr_wkO (i:=2) (b:=[.int .u8 29,S [],.int .i64 0,.slc 4 0 1 none,.int .i64 p]) rfl ⟨wk.refl _,wk.refl _,wk.refl _,JgL,wk.refl _,trivial⟩ ?_;simp only[go_sem];refine vr_share2 (α:=Int×PS ts) (λt=>t.2.nodes=s1.nodes/\((run e f .cells ((t.2.need e wRp).need e wLc)).bind λ(c,_,s3)=>(run e f (.arrayL [z,c]) s3).bind λ(_,k,s4)=>(s4.need e wRc).put ⟨29,[],t.1,k,p⟩)=some (v,l,s')) (λ_=>gp [(0,.ptr 0 0 0),(4,.ptr 2 0 0),(13,.ptr 0 0 0)] 24) (λt=>[pO e t.2 3,.dead,.arr 5 [[.int .u8 29,S [],.int .i64 t.1,.slc 4 0 1 none,.int .i64 p]],nO s1,.arr 1 [[.int .i64 z]]]) (λc' A7=>?_) ?_
 ·refine Jab (s:=s1) wCm vk hl rfl rfl (λhi=>?_) λhi=>?_
  ·simp only[hi,if_true]at h;simp only[go_sem];refine Ja0 (s:=s1.adv) AJ rfl rfl ?_;simp only[go_sem,splice];exact Qm (by simp[gp,wks,wk.un,wk.refl]) (A7 (s1.adv.num,s1.adv.take e 3) ⟨by rw[PS.n_take,PS.n_adv],h⟩)
  ·simp only[hi,Gw,if_false]at h;simp only[go_sem];exact Qm (by simp[gp,wks,wk.un,wk.refl]) (A7 (0,s1) ⟨rfl,h⟩)
 ·rintro⟨n,s2⟩ ⟨hn,h⟩
  dsimp only at hn h|-
  obtain⟨⟨c,l3,s3⟩,h3,h⟩:=bind_some h;obtain⟨⟨y,K,s4⟩,h4,h⟩:=bind_some h
  dsimp only at h4 h
  refine JV (s:=s2) wRp vk hl rfl rfl ?_;simp only[go_sem,gp,Gx];refine JV (s:=s2.need e wRp) wLc vk hl rfl rfl ?_;simp only[go_sem];refine Y4 (gp [(0,.ptr 0 0 0),(4,.ptr 2 0 0)] 38) [pO e s3 5,.dead,.arr 5 [[.int .u8 29,S [],.int .i64 n,.slc 6 0 2 none,.int .i64 p]],.dead,.dead,nO s3,.arr 1 [[.int .i64 z],[.int .i64 c]]] Jm vk vM vk vM ?_ ?_ ?_
  ·simp only[go_sem];refine Jb2 (ih0.cells _ _ _ _ h3) rfl rfl (by rw[PS.n_need,PS.n_need,hn]) vk rfl rfl rfl ?_;simp only[go_sem];refine KU [[.int .i64 c]] rfl rfl rfl rfl ?_;simp only[go_sem,splice,JA,Gl,Gm,Gj,Gn];exact Jp (by simp[forget])
  ·simp only[prl,Q6,Gb,Gc,Gh,Gi,go_sem];refine Jb2 (ih0.cells _ _ _ _ h3) rfl rfl (by rw[PS.n_need,PS.n_need,hn]) vk rfl rfl rfl ?_;simp only[go_sem];refine KU [[.int .i64 c]] rfl rfl rfl rfl ?_;simp only[go_sem,splice,JA,Gl,Gm,Gj,Gn];exact Jp (by simp[forget])
  ·simp only[go_sem];refine Js (σ:=Nat×Lx×PS ts) (I:=λt=>t.2.1.length+t.1<=f+2/\t.1<=f/\run e t.1 (.arrayL t.2.1) t.2.2=some (y,K,s4))
    (inv:=λt=>gp [(0,.ptr 0 0 0),(4,.ptr 2 0 0)] 38) (hp:=λt=>[pO e t.2.2 3,.dead,.arr 5 [[.int .u8 29,S [],.int .i64 n,.slc 4 0 t.2.1.length none,.int .i64 p]],nO t.2.2,.arr 1 (iz t.2.1)]) (μ:=λt=>t.1) (f,[z,c],s3) [0,1,2,5,6] ⟨by simp only[Gj,Gn];omega,Gd _,h4⟩ rfl ?_ ?_ ?_
   ·simp[forget,JG,ren,Jl,gp]
   ·simp only[KE,Gb,Gc,go_sem,Jo,JG,ren,Qa (ρ:=[0,1,2,5,6]) (i:=5) (j:=3) (λ_=>rfl),Qb,Jn];rfl
   ·rintro⟨g,k,s⟩ ⟨El,hg,h4⟩
    dsimp only at El hg h4|-
    have Ap:(iz k).length=k.length:=Jf
    cases g with
    |zero=>cases h4
    |succ g=>
     simp only[run]at h4;simp only[go_sem];refine Jab (s:=s) wSe vk hl rfl rfl (λhi=>?_) λhi=>?_
     ·simp only[hi,if_true]at h4;obtain⟨⟨b,l5,s5⟩,h5,h4⟩:=bind_some h4;simp only[go_sem];refine Y4 (gp [(0,.ptr 0 0 0),(4,.ptr 2 0 0)] 38) [pO e s5 5,.dead,.arr 5 [[.int .u8 29,S [],.int .i64 n,.slc 6 0 (k.length+1) none,.int .i64 p]],.dead,.dead,nO s5,.arr 1 (iz k++[[.int .i64 b]])] Jm vk vM vk vM ?_ ?_ ?_
      ·simp only[go_sem];refine Jb2 ((ih g om).cells _ _ _ _ h5) rfl rfl PS.n_adv vk rfl rfl rfl ?_;simp only[go_sem];refine KU [[.int .i64 b]] rfl rfl rfl rfl ?_;simp only[go_sem,splice,JA,Ap];exact⟨om,Jp (by simp[forget])⟩
      ·simp only[prl,Q6,Gb,Gc,Gh,Gi,go_sem];refine Jb2 ((ih g om).cells _ _ _ _ h5) rfl rfl PS.n_adv vk rfl rfl rfl ?_;simp only[go_sem];refine KU [[.int .i64 b]] rfl rfl rfl rfl ?_;simp only[go_sem,splice,JA,Ap];exact⟨om,Jp (by simp[forget])⟩
      ·simp only[go_sem];refine⟨(g,k++[b],s5),[0,1,2,5,6],⟨by simp only[Gg,Gf];omega,om,h4⟩,by simp only;omega,rfl,?_,?_⟩
       ·simp only[KE,Gb,Gc,go_sem,Jo,JG,ren,Qa (ρ:=[0,1,2,5,6]) (i:=5) (j:=3) (λ_=>rfl),Qb,Jn,K7,Gs,Jao,Gg,Gf];rfl
       ·simp[forget,JG,ren,Jl]
     ·simp only[hi,Gw,if_false]at h4;obtain⟨hK,rfl,rfl,rfl⟩:=K8 h4;simp only[go_sem];refine JV (s:=s4) wRc vk hl rfl rfl ?_;simp only[go_sem];refine Je (id:=4) (z:=1) (els:=iz K) rfl (Jh _) ?_;have CE:K.length=(iz K).length:=by rw[Jf]
      simp only[go_sem,JK,frz,KC,Kl,J8,KS (show (3:Nat)≠4 by decide),KT,CE,Gv,Gd,if_true,Gu,Gt];refine Qv h rfl rfl PS.n_need vk _ wk.rslc rfl ?_;simp only[go_sem];exact⟨5,vk,rfl,rfl⟩
section
variable{l:LD}
theorem JgO (T':Lu)(H':Lv)(hm:P.follows .mixedOrders=true)
  (hb:(!(1 == 4) && decide (1<es.length) && decide (4<es.length))=true)
  (o1:(l.length == [false,true,false,false,true,false,true,false,true].length && (JaQ l.length (Jaz es 4 1) (clo (Jaz es 4 1)) && Qf l (clo (Jaz es 4 1)) ([false,true,false,false,true,false,true,false,true].map QY)))=true)
  (hp:JdH l.length [0,2,3,4,1,5,6,7,8] [0,4,1,2,3,5,6,7,8]=true)
  (o2:((prl [0,2,3,4,1,5,6,7,8] l).length == [false,false,false,true,true,false,true,false,true].length && (JaQ (prl [0,2,3,4,1,5,6,7,8] l).length (pre [0,2,3,4,1,5,6,7,8] [0,4,1,2,3,5,6,7,8] (Jaz es 1 4)) (clo (pre [0,2,3,4,1,5,6,7,8] [0,4,1,2,3,5,6,7,8] (Jaz es 1 4))) && Qf (prl [0,2,3,4,1,5,6,7,8] l) (clo (pre [0,2,3,4,1,5,6,7,8] [0,4,1,2,3,5,6,7,8] (Jaz es 1 4))) ([false,false,false,true,true,false,true,false,true].map QY)))=true)
  (h1:vdk P E (leads P E n0 N Q T' H') l [false,true,false,false,true,false,true,false,true] T H)
  (h2:vdk P E (leads P E n0 N Q T' H') (prl [0,2,3,4,1,5,6,7,8] l) [false,false,false,true,true,false,true,false,true] T H)
  (AA:KD P E n0 N Q k T' H'):Ok P E n0 N Q (.code (.dreg l es)::k) T H:=
 JgP hm (JcQ 1 4 hb (Yj _ T' H' o1 (JD _ _ _ AA) h1) (JcP _ _ hp (Yj _ T' H' o2 (JD _ _ _ AA) h2)))
end
theorem Jdz{l:LD}{s s' s0:PS ts}{v:Int}{l':Lx}(hx:s.put x=some (v,l',s'))(hq:H[q]? = some (pO e s r))(hr:H[r]? = some (nO s0))(hn:s.nodes=s0.nodes)(Ii:q≠r)(hw:ags.map (Kg T)=[.ptr q 0 0,.agg x.cv])(h:vdk Ga E K l bs (put T d (.int .i64 v)) ((H.set q (pO e s' H.length)).set r .dead++[nO s'])):vdkR Ga E none d (.call 123 ags) true K l bs T H:=by obtain⟨h1,rfl,rfl⟩:=pput_some hx;exact Jb2 (mAdd x e s h1) hq hr hn Ii rfl rfl hw h
theorem mDef(hl:ts.length<=1000000)(hf:f<=1000000)(ih:∀g,g<=f->Law e g ts)(s s':PS ts)(v:Int)(l:Lx)(h:run e (f+1) .Def s=some (v,l,s')):JbW Ga 76 [] e s s' (.int .i64 v):=by
 refine Xw (Ki c76_ok λN=>?_) rfl λv H' h=>h
 have ih0:=ih f (Gd _);simp only[run]at h;obtain⟨⟨z,K,s1⟩,h1,hA⟩:=bind_some h;clear h;obtain⟨⟨v2,l2,s2⟩,h2,hB⟩:=bind_some hA;clear hA;obtain⟨⟨z3,K3,s3⟩,h3,hC⟩:=bind_some hB;clear hB;obtain⟨⟨b,l4,s4⟩,h4,CK⟩:=bind_some hC;clear hC
 dsimp only at CK h2 h3 h4
 obtain⟨p,hP⟩:∃p,p=s.place e:=⟨_,rfl⟩;simp only[c76,go_sem];refine JV (s:=s) wDef vk hl rfl rfl ?_;simp only[go_sem,splice];refine Jc2 (s:=s.need e wDef) 2 hl rfl rfl ?_;simp only[go_sem,splice];refine JV (s:=(s.need e wDef).take e 2) wLp vk hl rfl rfl ?_;simp only[go_sem];rw[<-hP]at CK|-;obtain⟨nm,hN⟩:∃nm,nm=(s.need e wDef).taken 2:=⟨_,rfl⟩;rw[<-hN]at CK|-;have ET:(((s.need e wDef).take e 2).need e wLp).nodes=s.nodes:=by rw[PS.n_need,PS.n_take,PS.n_need]
 generalize ((s.need e wDef).take e 2).need e wLp=s0 at h1 ET|-;refine vr_move (s:=s0) (s0:=s) ET ?_;simp only[go_sem,Gl,Gm,Gj,Gn];refine JgM (α:=Lx×PS ts) (λt=>t.1.length<=1000000/\t=(K,s1)) (λt=>gp [(0,.ptr 0 0 0),(2,.ptr 2 0 0),(53,.ptr 0 0 0)] 29) (λt=>[pO e t.2 3,.dead,.arr 5 [[.int .u8 65,S nm,.int .i64 (t.1.length:Nat),Qr 4 (iz t.1),.int .i64 p]],nO t.2,Xm 1 (iz t.1)]) (λc' A7=>?_) ?_
 ·refine Js (σ:=Nat×Lx×PS ts) (I:=λt=>t.2.1.length+t.1<=f/\t.1<=f/\run e t.1 (.defL t.2.1) t.2.2=some (z,K,s1))
   (inv:=λt=>gp [(0,.ptr 0 0 0),(2,.ptr 2 0 0)] 83) (hp:=λt=>[pO e t.2.2 3,.dead,.arr 5 [[.int .u8 65,S nm,.int .i64 (t.2.1.length:Nat),Qr 4 (iz t.2.1),.int .i64 p]],nO t.2.2,Xm 1 (iz t.2.1)]) (μ:=λt=>t.1) (f,[],s0) [0,1,2,3,4] ⟨sM,Gd _,h1⟩ rfl ?_ ?_ ?_
  ·simp[forget,JG,ren,Jl,gp]
  ·simp only[KE,Gb,Gc,go_sem,Jo,Qa (ρ:=[0,1,2,3,4]) (i:=3) (j:=3) (λ_=>rfl),Qb,Jn];rfl
  ·rintro⟨g,k,s⟩ ⟨El,hg,h1⟩
   dsimp only at El hg h1|-
   have Ap:(iz k).length=k.length:=Jf
   cases g with
   |zero=>cases h1
   |succ g=>
    simp only[run]at h1;by_cases hb:s.bad<0
    ·have d1:(s.bad<0)=True:=eq_true hb;simp only[go_sem,pO,pC,d1];refine Kt (.inr ⟨21,true,rfl,rfl⟩) (Jhu (s:=s) (e:=e) (r:=3) rfl) ?_;rintro _ _ ⟨rfl,rfl⟩;by_cases ht:s.text=wRp
     ·have d2:(s.text == [41])=true:=beq_iff_eq.2 ht;rw[if_neg (λg=>g.2 ht)]at h1;obtain⟨hK,rfl,rfl,rfl⟩:=K8 h1;simp only[go_sem,d2];exact Qm (by simp[gp,wks,wk.un,wk.refl]) (A7 (K,s1) ⟨hK,rfl⟩)
     ·have d2:(s.text == [41])=false:=beq_eq_false_iff_ne.2 ht;rw[if_pos ⟨hb,ht⟩]at h1;obtain⟨sc,F3⟩:∃sc,sc=if k=[] then s else s.need e wCm:=⟨_,rfl⟩
      have OH:sc.nodes=s.nodes:=by rw[F3];split <;> first|rfl|exact PS.n_need
      rw[<-F3]at h1;obtain⟨⟨w,l5,s5⟩,h5,h1⟩:=bind_some h1;obtain⟨⟨gg,l6,s6⟩,h6,h1⟩:=bind_some h1
      dsimp only at h6 h1
      by_cases hk:k=[]
      case' pos=>have d3:((k.length:Int) > 0)=False:=eq_false (by rw[hk];decide);rw[if_pos hk]at F3;subst F3;simp only[go_sem,d2,d3,splice]
      case' neg=>have d3:((k.length:Int) > 0)=True:=eq_true (by have:=GI.2 hk;omega);rw[if_neg hk]at F3;simp only[go_sem,d2,d3];refine JV (s:=s) (r:=3) wCm vk hl rfl rfl ?_;simp only[go_sem,<-F3,splice]
      all_goals
       refine Jc2 (s:=sc) (r:=3) 2 hl rfl rfl ?_;simp only[go_sem,splice];refine JV (s:=sc.take e 2) wCo vk hl rfl rfl ?_;simp only[go_sem];refine Qh ((ih g om).typ _ _ _ _ h5) rfl rfl (by rw[PS.n_need,PS.n_take,OH]) vk rfl rfl rfl ?_;simp only[go_sem,splice];refine Je (id:=7) (z:=1) (els:=[[.int .i64 w]]) rfl rfl ?_;simp only[go_sem,JK,frz,KC,Kl,J8,KS (show (6:Nat)≠7 by decide),KT,JcJ (show (4:Nat)≠7 by decide),Jbj (Jh k)];refine Je (id:=5) (z:=5) (els:=[[.int .u8 64,S (sc.taken 2),.int .i64 0,.rslc 1 [[.int .i64 w]] none,.int .i64 (sc.place e)]]) rfl rfl ?_;simp only[go_sem,JK,frz,KC,Kl,J8,KS (show (6:Nat)≠5 by decide),KT,JcJ (show (4:Nat)≠5 by decide),Jbj (Jh k)];refine JgO (gp [(0,.ptr 0 0 0),(2,.ptr 2 0 0)] 83) [pO e s6 8,.dead,.arr 5 [[.int .u8 65,S nm,.int .i64 (k.length:Nat),.slc 9 0 (k.length+1) none,.int .i64 p]],.dead,.dead,.dead,.dead,.dead,nO s6,.arr 1 (iz k++[[.int .i64 gg]])] Jm vk vM vk vM ?_ ?_ ?_
       ·simp only[go_sem];refine Jdz h6 rfl rfl rfl vk rfl ?_;simp only[go_sem];refine KU [[.int .i64 gg]] rfl rfl rfl rfl ?_;simp only[go_sem,splice,JA,Ap];exact⟨om,Jp (by simp[forget])⟩
       ·simp only[prl,Q6,Gb,Gc,Gh,Gi,go_sem];refine Jdz h6 rfl rfl rfl vk rfl ?_;simp only[go_sem];refine KU [[.int .i64 gg]] rfl rfl rfl rfl ?_;simp only[go_sem,splice,JA,Ap];exact⟨om,Jp (by simp[forget])⟩
       ·simp only[go_sem,splice];refine⟨Jg,(g,k++[gg],s6),[0,1,2,8,9],⟨by simp only[Gg,Gf];omega,om,h1⟩,by simp only;omega,rfl,?_,?_⟩
        ·have Ep:Qr 4 (iz (k++[gg]))=.slc 4 0 (k.length+1) none:=by rw[K7,show iz [gg]=[[CV.int .i64 gg]] from rfl,KM,Ap];rfl
         have OZ:Xm 1 (iz (k++[gg]))=.arr 1 (iz k++[[.int .i64 gg]]):=by rw[K7,show iz [gg]=[[CV.int .i64 gg]] from rfl,KN]
         rw[Ep,OZ];simp only[KE,Gb,Gc,go_sem,Jo,JG,ren,Qa (ρ:=[0,1,2,8,9]) (i:=8) (j:=3) (λ_=>rfl),Qb,Jn,Gs,Jao,Gg,Gf];rfl
        ·simp[forget,JG,ren,Jl]
    ·have d1:(s.bad<0)=False:=eq_false hb;rw[if_neg (λg=>hb g.1)]at h1;obtain⟨hK,rfl,rfl,rfl⟩:=K8 h1;simp only[go_sem,pO,pC,d1];exact Qm (by simp[gp,wks,wk.un,wk.refl]) (A7 (K,s1) ⟨hK,rfl⟩)
 ·rintro⟨k,s⟩ ⟨hK,he⟩
  cases he
  dsimp only at hK|-
  have Ap:(iz K).length=K.length:=Jf;refine JV (s:=s1) wRp vk hl rfl rfl ?_;simp only[go_sem,gp,Gx];refine JV (s:=s1.need e wRp) wAr vk hl rfl rfl ?_;simp only[go_sem];refine Y4 (gp [(0,.ptr 0 0 0),(2,.ptr 2 0 0)] 83) [pO e s2 5,.dead,.arr 5 [[.int .u8 65,S nm,.int .i64 (K.length:Nat),.slc 6 0 (K.length+1) none,.int .i64 p]],.dead,.dead,nO s2,.arr 1 (iz K++[[.int .i64 v2]])] Jm vk vM vk vM ?_ ?_ ?_
  ·simp only[go_sem];refine Jb2 (ih0.typ _ _ _ _ h2) rfl rfl (by rw[PS.n_need,PS.n_need]) vk rfl rfl rfl ?_;simp only[go_sem];refine KU [[.int .i64 v2]] rfl rfl rfl rfl ?_;simp only[go_sem,splice,JA,Ap];exact⟨om,Jp (by simp[forget])⟩
  ·simp only[prl,Q6,Gb,Gc,Gh,Gi,go_sem];refine Jb2 (ih0.typ _ _ _ _ h2) rfl rfl (by rw[PS.n_need,PS.n_need]) vk rfl rfl rfl ?_;simp only[go_sem];refine KU [[.int .i64 v2]] rfl rfl rfl rfl ?_;simp only[go_sem,splice,JA,Ap];exact⟨om,Jp (by simp[forget])⟩
  ·simp only[go_sem];refine Js (σ:=Nat×Lx×PS ts) (I:=λt=>t.2.1.length+t.1<=f+1000001/\t.1<=f/\run e t.1 (.defT t.2.1) t.2.2=some (z3,K3,s3))
    (inv:=λt=>gp [(0,.ptr 0 0 0),(2,.ptr 2 0 0)] 83) (hp:=λt=>[pO e t.2.2 3,.dead,.arr 5 [[.int .u8 65,S nm,.int .i64 (K.length:Nat),.slc 4 0 t.2.1.length none,.int .i64 p]],nO t.2.2,.arr 1 (iz t.2.1)]) (μ:=λt=>t.1) (f,K++[v2],s2) [0,1,2,5,6] ⟨by simp only[Gg,Gf];omega,Gd _,h3⟩ rfl ?_ ?_ ?_
   ·simp[forget,JG,ren,Jl,gp]
   ·simp only[KE,Gb,Gc,go_sem,Jo,JG,ren,Qa (ρ:=[0,1,2,5,6]) (i:=5) (j:=3) (λ_=>rfl),Qb,Jn,K7,Gs,Jao,Gg,Gf];rfl
   ·rintro⟨g,k,s⟩ ⟨El,hg,h3⟩
    dsimp only at El hg h3|-
    have BC:(iz k).length=k.length:=Jf
    cases g with
    |zero=>cases h3
    |succ g=>
     simp only[run]at h3;simp only[go_sem];refine Jab (s:=s) wCm vk hl rfl rfl (λhi=>?_) λhi=>?_
     ·simp only[hi,if_true]at h3;obtain⟨⟨c,l5,s5⟩,h5,h3⟩:=bind_some h3;simp only[go_sem];refine Y4 (gp [(0,.ptr 0 0 0),(2,.ptr 2 0 0)] 83) [pO e s5 5,.dead,.arr 5 [[.int .u8 65,S nm,.int .i64 (K.length:Nat),.slc 6 0 (k.length+1) none,.int .i64 p]],.dead,.dead,nO s5,.arr 1 (iz k++[[.int .i64 c]])] Jm vk vM vk vM ?_ ?_ ?_
      ·simp only[go_sem];refine Jb2 ((ih g om).typ _ _ _ _ h5) rfl rfl PS.n_adv vk rfl rfl rfl ?_;simp only[go_sem];refine KU [[.int .i64 c]] rfl rfl rfl rfl ?_;simp only[go_sem,splice,JA,BC];exact⟨om,Jp (by simp[forget])⟩
      ·simp only[prl,Q6,Gb,Gc,Gh,Gi,go_sem];refine Jb2 ((ih g om).typ _ _ _ _ h5) rfl rfl PS.n_adv vk rfl rfl rfl ?_;simp only[go_sem];refine KU [[.int .i64 c]] rfl rfl rfl rfl ?_;simp only[go_sem,splice,JA,BC];exact⟨om,Jp (by simp[forget])⟩
      ·simp only[go_sem];refine⟨(g,k++[c],s5),[0,1,2,5,6],⟨by simp only[Gg,Gf];omega,om,h3⟩,by simp only;omega,rfl,?_,?_⟩
       ·simp only[KE,Gb,Gc,go_sem,Jo,JG,ren,Qa (ρ:=[0,1,2,5,6]) (i:=5) (j:=3) (λ_=>rfl),Qb,Jn,K7,Gs,Jao,Gg,Gf];rfl
       ·simp[forget,JG,ren,Jl]
     ·simp only[hi,Gw,if_false]at h3;obtain⟨jC,rfl,rfl,rfl⟩:=K8 h3;simp only[go_sem];refine Y4 (gp [(0,.ptr 0 0 0),(2,.ptr 2 0 0)] 83) [pO e s4 5,.dead,.arr 5 [[.int .u8 65,S nm,.int .i64 (K.length:Nat),.slc 6 0 (K3.length+1) none,.int .i64 p]],.dead,.dead,nO s4,.arr 1 (iz K3++[[.int .i64 b]])] Jm vk vM vk vM ?_ ?_ ?_
      ·simp only[go_sem];refine Jb2 (ih0.block _ _ _ _ h4) rfl rfl rfl vk rfl rfl rfl ?_;simp only[go_sem];refine KU [[.int .i64 b]] rfl rfl rfl rfl ?_;simp only[go_sem,splice,JA,BC];exact⟨om,Jp (by simp[forget])⟩
      ·simp only[prl,Q6,Gb,Gc,Gh,Gi,go_sem];refine Jb2 (ih0.block _ _ _ _ h4) rfl rfl rfl vk rfl rfl rfl ?_;simp only[go_sem];refine KU [[.int .i64 b]] rfl rfl rfl rfl ?_;simp only[go_sem,splice,JA,BC];exact⟨om,Jp (by simp[forget])⟩
      ·simp only[go_sem];rw[show iz K3++[[.int .i64 b]]=iz (K3++[b]) by rw[K7];rfl];refine Je (id:=6) (z:=1) (els:=iz (K3++[b])) rfl (Jh _) ?_;have CE:K3.length+1=(iz (K3++[b])).length:=by rw[Jf];simp
       simp only[go_sem,JK,frz,KC,Kl,J8,KS (show (5:Nat)≠6 by decide),KT,CE,Gv,Gd,if_true,Gu,Gt];refine Qv CK rfl rfl rfl vk _ wk.rslc rfl ?_;simp only[go_sem];exact⟨7,vk,rfl,rfl⟩
theorem frz_iz{id:Nat}{e:LQ}{k:Lx}:(iz k).map (JK id z e)=iz k:=JJ (Jh k)
theorem mLoop(hl:ts.length<=1000000)(hf:f<=1000000)(ih:∀g,g<=f->Law e g ts)(p:Int)(s s':PS ts)(v:Int)(l:Lx)(h:run e (f+1) (.loop p) s=some (v,l,s')):JbW Ga 257 [.int .i64 p] e s s' (.int .i64 v):=by
 refine Xw (Ki c257_ok λN=>?_) rfl λv H' h=>h
 have ih0:=ih f (Gd _);simp only[run]at h;obtain⟨⟨z,K,s1⟩,h1,hA⟩:=bind_some h;clear h;obtain⟨⟨c,l2,s2⟩,h2,hB⟩:=bind_some hA;clear hA;obtain⟨⟨z3,K3,s3⟩,h3,hC⟩:=bind_some hB;clear hB;obtain⟨⟨z4,K4,s4⟩,h4,hD⟩:=bind_some hC;clear hC;obtain⟨⟨z5,L,s5⟩,h5,hE⟩:=bind_some hD;clear hD;obtain⟨⟨gv,l6,s6⟩,h6,CK⟩:=bind_some hE;clear hE
 dsimp only at CK h2 h3 h4 h5 h6
 simp only[c257,go_sem,splice];refine JV (s:=s) wLp vk hl rfl rfl ?_;simp only[go_sem];have ET:(s.need e wLp).nodes=s.nodes:=PS.n_need;generalize s.need e wLp=s0 at h1 ET|-;refine vr_move (s:=s0) (s0:=s) ET ?_;simp only[go_sem,Gl,Gm,Gj,Gn];refine JgM (α:=Lx×PS ts) (λt=>t.1.length<=1000000/\t=(K,s1)) (λt=>gp [(0,.ptr 0 0 0),(4,.ptr 2 0 0),(53,.ptr 0 0 0)] 74) (λt=>[pO e t.2 3,.dead,.arr 5 [[.int .u8 28,S [],.int .i64 (t.1.length:Nat),Qr 4 (iz t.1),.int .i64 p]],nO t.2,Xm 1 (iz t.1)]) (λc' A7=>?_) ?_
 ·refine Js (σ:=Nat×Lx×PS ts) (I:=λt=>t.2.1.length+t.1<=f/\t.1<=f/\run e t.1 (.loopL t.2.1) t.2.2=some (z,K,s1))
   (inv:=λt=>gp [(0,.ptr 0 0 0),(4,.ptr 2 0 0)] 128) (hp:=λt=>[pO e t.2.2 3,.dead,.arr 5 [[.int .u8 28,S [],.int .i64 (t.2.1.length:Nat),Qr 4 (iz t.2.1),.int .i64 p]],nO t.2.2,Xm 1 (iz t.2.1)]) (μ:=λt=>t.1) (f,[],s0) [0,1,2,3,4] ⟨sM,Gd _,h1⟩ rfl ?_ ?_ ?_
  ·simp[forget,JG,ren,Jl,gp]
  ·simp only[KE,Gb,Gc,go_sem,Jo,Qa (ρ:=[0,1,2,3,4]) (i:=3) (j:=3) (λ_=>rfl),Qb,Jn];rfl
  ·rintro⟨g,k,s⟩ ⟨El,hg,h1⟩
   dsimp only at El hg h1|-
   have Ap:(iz k).length=k.length:=Jf
   cases g with
   |zero=>cases h1
   |succ g=>
    simp only[run]at h1;by_cases hb:s.bad<0
    ·have d1:(s.bad<0)=True:=eq_true hb;by_cases hx:k≠[]/\s.text=wRp
     ·have d2:(s.text == [41])=true:=beq_iff_eq.2 hx.2;have d4:((k.length:Int) == 0)=false:=by have:=GI.2 hx.1;rw[beq_eq_false_iff_ne];omega
      rw[if_neg (λg=>g.2.elim hx.1 λg=>g hx.2)]at h1;obtain⟨hK,rfl,rfl,rfl⟩:=K8 h1;simp only[go_sem,pO,pC,d1,d4];refine Kt (.inr ⟨22,false,rfl,rfl⟩) (Jhu (s:=s1) (e:=e) (r:=3) rfl) ?_;rintro _ _ ⟨rfl,rfl⟩;simp only[go_sem,d2];exact Qm (by simp[gp,wks,wk.un,wk.refl]) (A7 (K,s1) ⟨hK,rfl⟩)
     ·rw[if_pos ⟨hb,by by_cases hk:k=[] <;> first|exact .inl hk|exact .inr λg=>hx ⟨hk,g⟩⟩]at h1;obtain⟨sc,F3⟩:∃sc,sc=if k=[] then s else s.need e wCm:=⟨_,rfl⟩
      have OH:sc.nodes=s.nodes:=by rw[F3];split <;> first|rfl|exact PS.n_need
      rw[<-F3]at h1;obtain⟨⟨w,l5,s7⟩,h7,h1⟩:=bind_some h1;obtain⟨⟨gg,l6,s8⟩,h8,h1⟩:=bind_some h1
      dsimp only at h8 h1
      by_cases hk:k=[]
      case' pos=>
       have d4:((k.length:Int) == 0)=true:=by rw[hk];rfl
       have d3:((k.length:Int) > 0)=False:=eq_false (by rw[hk];decide);rw[if_pos hk]at F3;subst F3;simp only[go_sem,pO,pC,d1,d3,d4,splice]
      case' neg=>
       have d4:((k.length:Int) == 0)=false:=by have:=GI.2 hk;rw[beq_eq_false_iff_ne];omega
       have d3:((k.length:Int) > 0)=True:=eq_true (by have:=GI.2 hk;omega);have d2:(s.text == [41])=false:=beq_eq_false_iff_ne.2 λg=>hx ⟨hk,g⟩
       rw[if_neg hk]at F3;simp only[go_sem,pO,pC,d1,d4];refine Kt (.inr ⟨22,false,rfl,rfl⟩) (Jhu (s:=s) (e:=e) (r:=3) rfl) ?_;rintro _ _ ⟨rfl,rfl⟩;simp only[go_sem,d2,d3];refine JV (s:=s) (r:=3) wCm vk hl rfl rfl ?_;simp only[go_sem,<-F3,splice]
      all_goals
       refine Jc2 (s:=sc) (r:=3) 2 hl rfl rfl ?_;simp only[go_sem,splice];refine JV (s:=sc.take e 2) wAs vk hl rfl rfl ?_;simp only[go_sem];refine Qh ((ih g om).Expr _ _ _ _ h7) rfl rfl (by rw[PS.n_need,PS.n_take,OH]) vk rfl rfl rfl ?_;simp only[go_sem,splice];refine Je (id:=7) (z:=1) (els:=[[.int .i64 w]]) rfl rfl ?_;simp only[go_sem,JK,frz,KC,Kl,J8,KS (show (6:Nat)≠7 by decide),KT,JcJ (show (4:Nat)≠7 by decide),Jbj (Jh k)];refine Je (id:=5) (z:=5) (els:=[[.int .u8 43,S (sc.taken 2),.int .i64 0,.rslc 1 [[.int .i64 w]] none,.int .i64 (sc.place e)]]) rfl rfl ?_;simp only[go_sem,JK,frz,KC,Kl,J8,KS (show (6:Nat)≠5 by decide),KT,JcJ (show (4:Nat)≠5 by decide),Jbj (Jh k)];refine JgO (gp [(0,.ptr 0 0 0),(4,.ptr 2 0 0)] 128) [pO e s8 8,.dead,.arr 5 [[.int .u8 28,S [],.int .i64 (k.length:Nat),.slc 9 0 (k.length+1) none,.int .i64 p]],.dead,.dead,.dead,.dead,.dead,nO s8,.arr 1 (iz k++[[.int .i64 gg]])] Jm vk vM vk vM ?_ ?_ ?_
       ·simp only[go_sem];refine Jdz h8 rfl rfl rfl vk rfl ?_;simp only[go_sem];refine KU [[.int .i64 gg]] rfl rfl rfl rfl ?_;simp only[go_sem,splice,JA,Ap];exact⟨om,Jp (by simp[forget])⟩
       ·simp only[prl,Q6,Gb,Gc,Gh,Gi,go_sem];refine Jdz h8 rfl rfl rfl vk rfl ?_;simp only[go_sem];refine KU [[.int .i64 gg]] rfl rfl rfl rfl ?_;simp only[go_sem,splice,JA,Ap];exact⟨om,Jp (by simp[forget])⟩
       ·simp only[go_sem,splice];refine⟨Jg,(g,k++[gg],s8),[0,1,2,8,9],⟨by simp only[Gg,Gf];omega,om,h1⟩,by simp only;omega,rfl,?_,?_⟩
        ·have Ep:Qr 4 (iz (k++[gg]))=.slc 4 0 (k.length+1) none:=by rw[K7,show iz [gg]=[[CV.int .i64 gg]] from rfl,KM,Ap];rfl
         have OZ:Xm 1 (iz (k++[gg]))=.arr 1 (iz k++[[.int .i64 gg]]):=by rw[K7,show iz [gg]=[[CV.int .i64 gg]] from rfl,KN]
         rw[Ep,OZ];simp only[KE,Gb,Gc,go_sem,Jo,JG,ren,Qa (ρ:=[0,1,2,8,9]) (i:=8) (j:=3) (λ_=>rfl),Qb,Jn,Gs,Jao,Gg,Gf];rfl
        ·simp[forget,JG,ren,Jl]
    ·have d1:(s.bad<0)=False:=eq_false hb;rw[if_neg (λg=>hb g.1)]at h1;obtain⟨hK,rfl,rfl,rfl⟩:=K8 h1;simp only[go_sem,pO,pC,d1];exact Qm (by simp[gp,wks,wk.un,wk.refl]) (A7 (K,s1) ⟨hK,rfl⟩)
 ·rintro⟨k,s⟩ ⟨hK,he⟩
  cases he
  dsimp only at hK|-
  have Ap:(iz K).length=K.length:=Jf;refine JV (s:=s1) wRp vk hl rfl rfl ?_;simp only[go_sem,gp,Gx];refine JV (s:=s1.need e wRp) wWhile vk hl rfl rfl ?_;simp only[go_sem];refine Y4 (gp [(0,.ptr 0 0 0),(4,.ptr 2 0 0)] 128) [pO e s2 5,.dead,.arr 5 [[.int .u8 28,S [],.int .i64 (K.length:Nat),.slc 6 0 (K.length+1) none,.int .i64 p]],.dead,.dead,nO s2,.arr 1 (iz K++[[.int .i64 c]])] Jm vk vM vk vM ?_ ?_ ?_
  ·simp only[go_sem];refine Jb2 (ih0.Expr _ _ _ _ h2) rfl rfl (by rw[PS.n_need,PS.n_need]) vk rfl rfl rfl ?_;simp only[go_sem];refine KU [[.int .i64 c]] rfl rfl rfl rfl ?_;simp only[go_sem,splice,JA,Ap];exact⟨om,Jp (by simp[forget])⟩
  ·simp only[prl,Q6,Gb,Gc,Gh,Gi,go_sem];refine Jb2 (ih0.Expr _ _ _ _ h2) rfl rfl (by rw[PS.n_need,PS.n_need]) vk rfl rfl rfl ?_;simp only[go_sem];refine KU [[.int .i64 c]] rfl rfl rfl rfl ?_;simp only[go_sem,splice,JA,Ap];exact⟨om,Jp (by simp[forget])⟩
  ·simp only[go_sem];refine JV (s:=s2) wDo vk hl rfl rfl ?_;simp only[go_sem];refine JV (s:=s2.need e wDo) wLc vk hl rfl rfl ?_;simp only[go_sem];refine Js (σ:=Nat×Lx×PS ts) (I:=λt=>t.2.1.length+t.1<=f+1000001/\t.1<=f/\run e t.1 (.loopS t.2.1) t.2.2=some (z3,K3,s3))
    (inv:=λt=>gp [(0,.ptr 0 0 0),(4,.ptr 2 0 0)] 128) (hp:=λt=>[pO e t.2.2 3,.dead,.arr 5 [[.int .u8 28,S [],.int .i64 (K.length:Nat),.slc 4 0 t.2.1.length none,.int .i64 p]],nO t.2.2,.arr 1 (iz t.2.1)]) (μ:=λt=>t.1) (f,K++[c],(s2.need e wDo).need e wLc) [0,1,2,5,6] ⟨by simp only[Gg,Gf];omega,Gd _,h3⟩ rfl ?_ ?_ ?_
   ·simp[forget,JG,ren,Jl,gp]
   ·have hn:nO ((s2.need e wDo).need e wLc)=nO s2:=by rw[nO,nO,PS.n_need,PS.n_need]
    simp only[KE,Gb,Gc,go_sem,Jo,JG,ren,Qa (ρ:=[0,1,2,5,6]) (i:=5) (j:=3) (λ_=>rfl),Qb,Jn,K7,Gs,Jao,Gg,Gf,hn];rfl
   ·rintro⟨g,k,s⟩ ⟨El,hg,h3⟩
    dsimp only at El hg h3|-
    have BC:(iz k).length=k.length:=Jf
    cases g with
    |zero=>cases h3
    |succ g=>
     simp only[run]at h3;simp only[go_sem];refine JgN (s:=s) 2 rfl rfl ?_
     cases hi:s.kind 2 with
     |true=>
      simp only[hi,if_true]at h3;obtain⟨⟨y,l7,s7⟩,h7,h3⟩:=bind_some h3;simp only[go_sem];refine Y4 (gp [(0,.ptr 0 0 0),(4,.ptr 2 0 0)] 128) [pO e s7 5,.dead,.arr 5 [[.int .u8 28,S [],.int .i64 (K.length:Nat),.slc 6 0 (k.length+1) none,.int .i64 p]],.dead,.dead,nO s7,.arr 1 (iz k++[[.int .i64 y]])] Jm vk vM vk vM ?_ ?_ ?_
      ·simp only[go_sem];refine Jb2 ((ih g om).stmt _ _ _ _ h7) rfl rfl rfl vk rfl rfl rfl ?_;simp only[go_sem];refine KU [[.int .i64 y]] rfl rfl rfl rfl ?_;simp only[go_sem,splice,JA,BC];exact⟨om,Jp (by simp[forget])⟩
      ·simp only[prl,Q6,Gb,Gc,Gh,Gi,go_sem];refine Jb2 ((ih g om).stmt _ _ _ _ h7) rfl rfl rfl vk rfl rfl rfl ?_;simp only[go_sem];refine KU [[.int .i64 y]] rfl rfl rfl rfl ?_;simp only[go_sem,splice,JA,BC];exact⟨om,Jp (by simp[forget])⟩
      ·simp only[go_sem];refine⟨(g,k++[y],s7),[0,1,2,5,6],⟨by simp only[Gg,Gf];omega,om,h3⟩,by simp only;omega,rfl,?_,?_⟩
       ·simp only[KE,Gb,Gc,go_sem,Jo,JG,ren,Qa (ρ:=[0,1,2,5,6]) (i:=5) (j:=3) (λ_=>rfl),Qb,Jn,K7,Gs,Jao,Gg,Gf];rfl
       ·simp[forget,JG,ren,Jl]
     |false=>
      simp only[hi,Gw,if_false]at h3;obtain⟨jC,rfl,rfl,rfl⟩:=K8 h3;simp only[go_sem];refine Js (σ:=Nat×Lx×PS ts) (I:=λt=>t.2.1.length+t.1<=f+1000001/\t.1<=f/\run e t.1 (.loopN t.2.1) t.2.2=some (z4,K4,s4))
       (inv:=λt=>gp [(0,.ptr 0 0 0),(4,.ptr 2 0 0)] 128) (hp:=λt=>[pO e t.2.2 3,.dead,.arr 5 [[.int .u8 28,S [],.int .i64 (K.length:Nat),.slc 4 0 t.2.1.length none,.int .i64 p]],nO t.2.2,.arr 1 (iz t.2.1)]) (μ:=λt=>t.1) (f,K3,s3) [0,1,2,3,4] ⟨by simp only;omega,Gd _,h4⟩ rfl ?_ ?_ ?_
      ·simp[forget,JG,ren,Jl,gp]
      ·simp only[KE,Gb,Gc,go_sem,Jo,JG,ren,Qa (ρ:=[0,1,2,3,4]) (i:=3) (j:=3) (λ_=>rfl),Qb,Jn,Jao];rfl
      ·rintro⟨g,k,s⟩ ⟨El,hg,h4⟩
       dsimp only at El hg h4|-
       have BC:(iz k).length=k.length:=Jf
       cases g with
       |zero=>cases h4
       |succ g=>
        simp only[run]at h4;simp only[go_sem];refine Jb1 (s:=s) rfl rfl ?_;by_cases hi:s.text=wNext
        ·have d1:(s.text == [110,101,120,116])=true:=beq_iff_eq.2 hi;rw[if_pos hi]at h4;obtain⟨⟨w,l7,s7⟩,h7,h4⟩:=bind_some h4;obtain⟨⟨y,l8,s8⟩,h8,h4⟩:=bind_some h4
         dsimp only at h8 h4
         simp only[go_sem,d1];refine JV (s:=s) wNext vk hl rfl rfl ?_;simp only[go_sem,splice];refine Jc2 (s:=s.need e wNext) 2 hl rfl rfl ?_;simp only[go_sem,splice];refine JV (s:=(s.need e wNext).take e 2) wEq vk hl rfl rfl ?_;simp only[go_sem];refine Qh ((ih g om).Expr _ _ _ _ h7) rfl rfl (by rw[PS.n_need,PS.n_take,PS.n_need]) vk rfl rfl rfl ?_;simp only[go_sem,splice];refine JV (s:=s7) wSe vk hl rfl rfl ?_;simp only[go_sem];refine Je (id:=7) (z:=1) (els:=[[.int .i64 w]]) rfl rfl ?_;simp only[go_sem,JK,frz,KC,Kl,J8,KS (show (6:Nat)≠7 by decide),KT,frz_iz];refine Je (id:=5) (z:=5) (els:=[[.int .u8 44,S ((s.need e wNext).taken 2),.int .i64 0,.rslc 1 [[.int .i64 w]] none,.int .i64 (s.place e)]]) rfl rfl ?_;simp only[go_sem,JK,frz,KC,Kl,J8,KS (show (6:Nat)≠5 by decide),KT,frz_iz];refine JgO (gp [(0,.ptr 0 0 0),(4,.ptr 2 0 0)] 128) [pO e s8 8,.dead,.arr 5 [[.int .u8 28,S [],.int .i64 (K.length:Nat),.slc 9 0 (k.length+1) none,.int .i64 p]],.dead,.dead,.dead,.dead,.dead,nO s8,.arr 1 (iz k++[[.int .i64 y]])] Jm vk vM vk vM ?_ ?_ ?_
         ·simp only[go_sem];refine Jdz h8 rfl rfl PS.n_need vk rfl ?_;simp only[go_sem];refine KU [[.int .i64 y]] rfl rfl rfl rfl ?_;simp only[go_sem,splice,JA,BC];exact⟨om,Jp (by simp[forget])⟩
         ·simp only[prl,Q6,Gb,Gc,Gh,Gi,go_sem];refine Jdz h8 rfl rfl PS.n_need vk rfl ?_;simp only[go_sem];refine KU [[.int .i64 y]] rfl rfl rfl rfl ?_;simp only[go_sem,splice,JA,BC];exact⟨om,Jp (by simp[forget])⟩
         ·simp only[go_sem];refine⟨(g,k++[y],s8),[0,1,2,8,9],⟨by simp only[Gg,Gf];omega,om,h4⟩,by simp only;omega,rfl,?_,?_⟩
          ·simp only[KE,Gb,Gc,go_sem,Jo,JG,ren,Qa (ρ:=[0,1,2,8,9]) (i:=8) (j:=3) (λ_=>rfl),Qb,Jn,K7,Gs,Jao,Gg,Gf];rfl
          ·simp[forget,JG,ren,Jl]
        ·have d1:(s.text == [110,101,120,116])=false:=beq_eq_false_iff_ne.2 hi;rw[if_neg hi]at h4;obtain⟨kN,rfl,rfl,rfl⟩:=K8 h4;simp only[go_sem,d1];refine JV (s:=s4) wRc vk hl rfl rfl ?_;simp only[go_sem];refine JV (s:=s4.need e wRc) wGive vk hl rfl rfl ?_;simp only[go_sem,splice];refine JV (s:=(s4.need e wRc).need e wGive) wLp vk hl rfl rfl ?_;simp only[go_sem];refine Qh (ih0.exprs _ _ _ _ h5) rfl rfl (by rw[PS.n_need,PS.n_need,PS.n_need]) vk rfl rfl rfl ?_;simp only[go_sem,splice];refine JV (s:=s5) wRp vk hl rfl rfl ?_;simp only[go_sem];refine Je (id:=5) (z:=5) (els:=[[.int .u8 45,S [],.int .i64 0,.rslc 1 (iz L) none,.int .i64 ((s4.need e wRc).place e)]]) rfl rfl ?_;simp only[go_sem,JK,frz,KC,Kl,J8,KS (show (6:Nat)≠5 by decide),KT,frz_iz];refine JgO (gp [(0,.ptr 0 0 0),(4,.ptr 2 0 0)] 128) [pO e s6 7,.dead,.arr 5 [[.int .u8 28,S [],.int .i64 (K.length:Nat),.slc 8 0 (K4.length+1) none,.int .i64 p]],.dead,.dead,.dead,.dead,nO s6,.arr 1 (iz K4++[[.int .i64 gv]])] Jm vk vM vk vM ?_ ?_ ?_
         ·simp only[go_sem];refine Jdz h6 rfl rfl PS.n_need vk rfl ?_;simp only[go_sem];refine KU [[.int .i64 gv]] rfl rfl rfl rfl ?_;simp only[go_sem,splice,JA,BC];exact⟨om,Jp (by simp[forget])⟩
         ·simp only[prl,Q6,Gb,Gc,Gh,Gi,go_sem];refine Jdz h6 rfl rfl PS.n_need vk rfl ?_;simp only[go_sem];refine KU [[.int .i64 gv]] rfl rfl rfl rfl ?_;simp only[go_sem,splice,JA,BC];exact⟨om,Jp (by simp[forget])⟩
         ·simp only[go_sem];rw[show iz K4++[[.int .i64 gv]]=iz (K4++[gv]) by rw[K7];rfl];refine Je (id:=8) (z:=1) (els:=iz (K4++[gv])) rfl (Jh _) ?_;have CE:K4.length+1=(iz (K4++[gv])).length:=by rw[Jf];simp
          simp only[go_sem,JK,frz,KC,Kl,J8,KS (show (7:Nat)≠8 by decide),KT,CE,Gv,Gd,if_true,Gu,Gt];refine Qv CK rfl rfl rfl vk _ wk.rslc rfl ?_;simp only[go_sem];exact⟨9,vk,rfl,rfl⟩
theorem run0{pr:Pr}{s:PS ts}{x:Int×Lx×PS ts}(h:run e 0 pr s=some x):False:=by simp[run]at h
theorem law_zero:Law e 0 ts:=by constructor <;> (intros;exact(run0 (by assumption)).elim)
theorem law_le(AJ:tsOk ts=true):∀(n f:Nat),f<=n->n<=1000000->Law e f ts
 |0,f,h,_=>by
  obtain rfl:f=0:=om;exact law_zero
 |n+1,0,_,_=>law_zero
 |n+1,f+1,h,hn=>by
  have hl:ts.length<=1000000:=by simp only[tsOk,Gp,decide_eq_true_eq]at AJ;exact AJ.1
  have ih:∀g,g<=f->Law e g ts:=λg hg=>law_le AJ n g om om
  have ih0:=ih f (Gd _);have hf:f<=1000000:=om;exact⟨wTyp hl ih0,wBlock hl hf ih,wStmt hl hf ih,wBind hl ih0,wExprs hl hf ih,wExpr hl ih0,wLeft hl ih,wPost hl ih,wAtom AJ ih0,mLoop hl hf ih,mArray AJ hf ih,wCells AJ ih0,wBound AJ,mDef hl hf ih⟩
theorem law_all(AJ:tsOk ts=true)(hf:f<=1000000):Law e f ts:=law_le AJ f f (Gd _) hf
theorem refParse (l:LA)(hl:l.length<=1000000)(hR:Jbb l=(ts,0,0))(AJ:tsOk ts=true)(hf:f<=1000000){K:Lx}{s1:PS ts}(hI:items (l.length:Nat) f [] ⟨0,GG _,[],-1⟩=some (K,s1))(Cf:s1.bad<0)(Ij:s1.nodes≠[])(jD:K≠[])
  (ht:(Tr.mk s1.nodes K).Fit) (hm:s1.nodes.length<=700) (hi:K.length<=20) {o:Lx} (ho:JB (JO s1.nodes) []=some o) (hd:Jbp ⟨s1.nodes,K⟩=false)
  (hz:∀i,i<s1.nodes.length->(∀k∈(s1.nodes.getD i default).kids,0<=k/\k<s1.nodes.length)/\Qq (s1.nodes.getD i default).k (s1.nodes.getD i default).n (lets s1.nodes (s1.nodes.getD i default))=true) :
  Fn Ga 48 [S l] (.tup [(Tr.mk s1.nodes K).cv,.int .i64 0,.int .i64 0]):=by
 refine Jb c48_ok rfl rfl λN=>?_
 have dQ:=refRead l hl;rw[hR]at dQ;simp only[c48,go_sem];refine JU dQ ?_;simp only[go_sem,splice];refine YJ ?_;simp only[go_sem,Gl,Gm];refine YJ ?_;simp only[go_sem,Gl,Gm];obtain⟨e,he⟩:∃e:Int,e=(l.length:Nat):=⟨_,rfl⟩;rw[<-he]at hI|-;refine Js (σ:=Nat×Lx×PS ts) (I:=λt=>t.2.1.length+t.1<=f/\t.1<=f/\items e t.1 t.2.1 t.2.2=some (K,s1))
  (inv:=λt=>gp [(2,.ptr 0 0 0),(2,.rslc 3 (lxr ts) none),(2,.ptr 1 0 0),(0,.ptr 2 0 0)] 81) (hp:=λt=>[.arr 2 [[.nils,.nils]],pO e t.2.2 3,.arr 2 [[.nils,Qr 4 (iz t.2.1)]],nO t.2.2,Xm 1 (iz t.2.1)]) (μ:=λt=>t.1) (f,[],⟨0,GG _,[],-1⟩) [0,1,2,3,4] ⟨sM,Gd _,hI⟩ rfl ?_ rfl ?_
 ·simp[forget,JG,ren,Jl,gp]
 ·rintro⟨g,k,s⟩ ⟨El,hg,hI⟩
  dsimp only at El hg hI|-
  have Ap:(iz k).length=k.length:=Jf
  cases g with
  |zero=>cases hI
  |succ g=>
   simp only[items]at hI;by_cases ha:s.at_<ts.length
   ·have d1:=dtT s.at_ ts.length;by_cases hb:s.bad<0
    ·have d2:(s.bad<0)=True:=eq_true hb;rw[if_pos ⟨ha,hb⟩]at hI;obtain⟨⟨b,l4,s4⟩,h4,hI⟩:=bind_some hI;simp only[go_sem,pO,pC,d1,d2,Xc];refine Y4 (gp [(2,.ptr 0 0 0),(2,.rslc 3 (lxr ts) none),(2,.ptr 1 0 0),(0,.ptr 2 0 0)] 81) [.arr 2 [[.nils,.nils]],pO e s4 5,.arr 2 [[.nils,.slc 6 0 (k.length+1) none]],.dead,.dead,nO s4,.arr 1 (iz k++[[.int .i64 b]])] Jm vk vM vk vM ?_ ?_ ?_
     ·simp only[go_sem];refine Jb2 ((law_all (f:=g) AJ om).Def _ _ _ _ h4) rfl rfl rfl vk rfl rfl rfl ?_;simp only[go_sem];refine KU [[.int .i64 b]] rfl rfl rfl rfl ?_;simp only[go_sem,splice,JA,Ap];exact⟨om,Jp (by simp[forget])⟩
     ·simp only[prl,Q6,Gb,Gc,Gh,Gi,go_sem];refine Jb2 ((law_all (f:=g) AJ om).Def _ _ _ _ h4) rfl rfl rfl vk rfl rfl rfl ?_;simp only[go_sem];refine KU [[.int .i64 b]] rfl rfl rfl rfl ?_;simp only[go_sem,splice,JA,Ap];exact⟨om,Jp (by simp[forget])⟩
     ·simp only[go_sem];refine⟨(g,k++[b],s4),[0,1,2,5,6],⟨by simp only[Gg,Gf];omega,om,hI⟩,by simp only;omega,rfl,?_,?_⟩
      ·have Ep:Qr 4 (iz (k++[b]))=.slc 4 0 (k.length+1) none:=by rw[K7,show iz [b]=[[CV.int .i64 b]] from rfl,KM,Ap];rfl
       have OZ:Xm 1 (iz (k++[b]))=.arr 1 (iz k++[[.int .i64 b]]):=by rw[K7,show iz [b]=[[CV.int .i64 b]] from rfl,KN]
       rw[Ep,OZ];simp only[KE,Gb,Gc,go_sem,Jo,JG,ren,Qa (ρ:=[0,1,2,5,6]) (i:=5) (j:=3) (λ_=>rfl),Qb,Gs,Jao];rfl
      ·simp[forget,JG,ren,Jl]
    ·rw[if_neg (λg=>hb g.2)]at hI
     split at hI
     ·cases hI;exact absurd Cf hb
     ·cases hI
   ·have d1:=dfF s.at_ ts.length;rw[if_neg (λg=>ha g.1)]at hI
    split at hI
    case isFalse=>cases hI
    cases hI
    obtain⟨n1,N1,UI⟩:∃a b,ndz s1.nodes=a::b:=by
     cases hq:s1.nodes with
     |nil=>exact absurd hq Ij
     |cons a b=>exact⟨_,_,rfl⟩
    obtain⟨k1,K1,bH⟩:∃a b,iz K=a::b:=by
     cases hq:K with
     |nil=>exact absurd hq jD
     |cons a b=>exact⟨_,_,rfl⟩
    have d2:(s1.bad>=0)=False:=JS;simp only[go_sem,pO,pC,nO,d1,d2,Xc,UI,bH,YL,Ja7];have CF:Jq (n1::N1)=true:=UI▸Xh _;have CR:Jq (k1::K1)=true:=bH▸Jh _;refine Je (id:=3) (z:=5) (els:=n1::N1) rfl CF ?_;simp only[go_sem,JK,frz,KC,Kl,JJ CR,Gv,Gd,if_true,Gu,Gt,Gj];refine Je (id:=4) (z:=1) (els:=k1::K1) rfl CR ?_;simp only[go_sem,JK,frz,KC,Kl,J8,Gv,Gd,if_true,Gu,Gt,Gj];rw[<-UI,<-bH];have Dg:decide (¬(700<(Tr.mk s1.nodes K).nodes.length\/20<(Tr.mk s1.nodes K).items.length))=true:=by rw[decide_eq_true_eq];show ¬(700<s1.nodes.length\/20<K.length);omega
    have hL:=refLimits ⟨s1.nodes,K⟩;rw[Dg]at hL;have hD:=Jf4 ⟨s1.nodes,K⟩ ht ho;rw[hd]at hD;refine JU hL ?_;simp only[go_sem];refine Ka (.inr ⟨67,false,rfl,rfl⟩) hD ?_;simp only[go_sem];refine JL (σ:=Nat) (I:=λi=>i<=s1.nodes.length) (inv:=λi=>gp [(2,.ptr 0 0 0),(6,.ptr 2 0 0),(0,.int .i64 (i:Int))] 80) (hp:=λ_=>[.arr 2 [[.nils,.nils]],.arr 5 [[.rslc 3 (lxr ts) none,.int .i64 e,.int .i64 (s1.at_:Int),.rslc 5 (ndz s1.nodes) none,.int .i64 s1.bad]],.arr 2 [[.rslc 5 (ndz s1.nodes) none,.rslc 1 (iz K) none]],.dead,.dead]) (μ:=λi=>s1.nodes.length-i) 0 (GG _) ?_ rfl ?_
    ·simp[forget,gp]
    ·intro i Be;have DT:(ndz s1.nodes).length=s1.nodes.length:=Ja;by_cases Ab:i<s1.nodes.length
     ·have d3:=dtT i s1.nodes.length;have hx:(s1.nodes.getD i default).Fit:=by rw[Gz,Gr Ab];exact ht.nodes _ (GR Ab)
      obtain⟨z1,z2⟩:=hz i Ab;have hS:=refSized ⟨s1.nodes,K⟩ i Ab (by show s1.nodes.length<=1400;omega) hx (λy hy=>(ht.nodes y hy).k) z1
      dsimp only at hS
      rw[z2]at hS;simp only[go_sem,DT,d3];refine JU hS ?_;simp only[go_sem];refine⟨Jg,i+1,om,om,?_⟩;simp[forget]
     ·have d3:=dfF i s1.nodes.length;simp only[go_sem,DT,d3,splice];rfl
def JfV (x:Int):Bool:=decide (-1000000000<=x) && decide (x<=1000000000)
def okNd (x:Nd):Bool:=decide (x.k<256) && decide (x.text.length<=60) && JfV x.n && decide (x.kids.length<=30) && x.kids.all JfV && JfV x.pl
def sizN (t:Tr)(i:Nat):Bool:=(t.nodes.getD i default).kids.all (λk=>decide (0<=k) && decide (k<t.nodes.length)) && Qq (t.nodes.getD i default).k (t.nodes.getD i default).n (lets t.nodes (t.nodes.getD i default))
def okT (t:Tr):Bool:=decide (t.nodes≠[]) && decide (t.items≠[]) && decide (t.nodes.length<=700) && decide (t.items.length<=20) && t.nodes.all okNd && t.items.all JfV && (JB (JO t.nodes) []).isSome && !Jbp t && (List.range t.nodes.length).all (sizN t)
def Ja3 (l:LA):Option Tr:=
 if l.length<=1000000/\(Jbb l).2=(0,0)/\tsOk (Jbb l).1=true then
  match items (ts:=(Jbb l).1) (l.length:Nat) 1000 [] ⟨0,GG _,[],-1⟩ with
  |none=>none
  |some (K,s)=>if s.bad<0/\okT ⟨s.nodes,K⟩=true then some ⟨s.nodes,K⟩ else none
 else none
theorem Jcr {x:Int}(h:JfV x=true):InR .i64 x:=by simp only[JfV,Gp,decide_eq_true_eq]at h;exact Jg
theorem okNd_fit(h:okNd x=true):x.Fit:=by simp only[okNd,Gp,decide_eq_true_eq,GD]at h;obtain⟨⟨⟨⟨⟨h1,h2⟩,h3⟩,h4⟩,h5⟩,h6⟩:=h;exact⟨h1,h2,Jcr h3,h4,λi hi=>Jcr (h5 i hi),Jcr h6⟩
theorem okT_fit {t:Tr}(h:okT t=true):t.Fit:=by simp only[okT,Gp,decide_eq_true_eq,GD]at h;obtain⟨⟨⟨⟨⟨⟨⟨⟨h1,h2⟩,h3⟩,h4⟩,h5⟩,h6⟩,h7⟩,h8⟩,h9⟩:=h;exact⟨om,om,λx hx=>okNd_fit (h5 x hx),λi hi=>Jcr (h6 i hi)⟩
theorem refTreeK {l:LA}{t:Tr}(h:Ja3 l=some t):Fn Ga 48 [S l] (.tup [t.cv,.int .i64 0,.int .i64 0])/\okT t=true:=by
 unfold Ja3 at h
 split at h
 case isFalse=>cases h
 rename_i hc;obtain⟨hl,hR,AJ⟩:=hc
 cases hI:items (ts:=(Jbb l).1) (l.length:Nat) 1000 [] ⟨0,GG _,[],-1⟩ with
 |none=>rw[hI]at h;cases h
 |some p=>
  obtain⟨K,s⟩:=p;rw[hI]at h
  dsimp only at h
  split at h
  case isFalse=>cases h
  rename_i hq
  cases h
  obtain⟨Cf,Ao⟩:=hq;have RD:=Ao;simp only[okT,Gp,decide_eq_true_eq,GD,Bool.not_eq_true',List.mem_range]at Ao;obtain⟨⟨⟨⟨⟨⟨⟨⟨h1,h2⟩,h3⟩,h4⟩,h5⟩,h6⟩,h7⟩,h8⟩,h9⟩:=Ao;obtain⟨o,ho⟩:=Option.isSome_iff_exists.1 h7;refine⟨refParse l hl (Prod.ext rfl hR) AJ (f:=1000) vk hI Cf h1 h2 (okT_fit RD) h3 h4 ho h8 λi hi=>?_,RD⟩;have:=h9 i hi;simp only[sizN,Gp,GD,decide_eq_true_eq]at this;exact⟨this.1,this.2⟩
end Go.Cm
end
end
