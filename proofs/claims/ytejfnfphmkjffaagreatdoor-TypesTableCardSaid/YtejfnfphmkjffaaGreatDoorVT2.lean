/-
  A part of the proof. Conditions: none.
-/
import Derived.Test.YtejfnfphmkjffaaGreatDoorVT1
set_option linter.unusedSimpArgs false
set_option linter.unusedVariables false
open Option.some renaming injEq->Gn
open Prod.mk renaming injEq->Gp
open List renaming getD_eq_getElem?_getD->Gb,getElem?_eq_getElem->Gh,length_cons->Gc,getElem?_set_self->Gl,length_nil->Gf,map_cons->Gd,getElem?_set_ne->Gq,getElem?_eq_none->Gs,map_nil->Gj,range->Gg,getElem?_range->Gt,getD_cons_zero->Gu,getElem?_eq_some_iff->Gy,set_cons_zero->Gv,take_of_length_le->Gz,length_take->Gw,set_cons_succ->GA,getElem?_map->GD,getElem?_append_right->GM,mem_or_eq_of_mem_set->GN,getElem_mem->GG,take_succ_eq_append_getElem->G5,getD_cons_succ->GQ,getElem?_append_left->G6,drop_zero->GI,mem_cons->GJ,not_mem_nil->GR,length_drop->GU,map_map->GK,take_zero->GV,take_succ_cons->G7,getElem_range->G8,getElem_set->G9,cons_append->Ha,all_eq_true->Hd,nil_append->He,length_set->Hf,replicate->Hg,getElem?_take_of_lt->Hy,getElem?_cons_zero->Hz,all_cons->Hl,drop_eq_nil_of_le->HV,mem_map->Hm,all_nil->Ho,map_congr_left->HY,length_append->HZ,getElem?_drop->H5,length_range->H6,ext_getElem?->H7,take_length->H8,mem_flatMap->H9,ext_getElem->La,range_succ->Lb,length_map->Lc,headD_cons->Ld,all_append->Le,map_set->Lf,map_id->Lg,length->Lh
open Bool renaming and_eq_true->GL,true_and->GX,eq_iff_iff->Hq,false_and->Hr,and_true->Ht
open Nat renaming le_refl->Gr,zero_add->Gx,add_sub_cancel_left->Li,le_of_eq->Hu,reduceEqDiff->Lj,strongRecOn->Ll,reduceAdd->Lm,sub_self->Lp,lt_or_ge->Lr
open Option renaming getD_some->GH,isSome_some->GY,isSome_none->GZ,map_some->Hw
open Go.Proofs.Tryz renaming prog->Ga
open Int renaming toNat_natCast->Gi,cast_ofNat_Int->Gm
noncomputable section
section
set_option maxRecDepth 100000
namespace Go.Cm
section
def still:IOp->Bool
 |.nchk _=>true
 |.sliceS _ _ _=>true
 |.indexS _ _=>true
 |_=>false
theorem still_exec {op:IOp}{T:List CV}{H H':List CObj}{c:Cond}{v:CV}(hs:still op=true)(he:exec op T H=some (c,v,H')):H'=H/\∀H2,exec op T H2=some (c,v,H2):=by
 cases op <;> simp only[still]at hs <;> first|(cases hs;done)|skip
 all_goals
  simp only[exec]at he|-
  repeat' split at he
  all_goals first|(cases he;done)|(simp only[Gn,Gp]at he;obtain⟨rfl,rfl,rfl⟩:=he;refine⟨rfl,λH2=>?_⟩;simp_all)
def low (op:IOp)(T:List CV):Option Nat:=match op with
 |.load _ _ a=>match Ka T a with
  |.ptr id _ _=>some id
  |_=>none
 |.iaddr _ a _=>match Ka T a with
  |.slc id _ _ _=>some id
  |_=>none
 |_=>none
theorem low_exec {op:IOp}{T:List CV}{H H' H2:List CObj}{c:Cond}{v:CV}{id:Nat}(hl:low op T=some id)(he:exec op T H=some (c,v,H'))(h2:H2[id]? = H[id]?):H'=H/\exec op T H2=some (c,v,H2):=by
 cases op <;> simp only[low]at hl <;> first|(cases hl;done)|skip
 case load ag n a=>
  split at hl
  ·rename_i i off ha
   cases hl
   simp only[exec,ha]at he|-;rw[h2]
   repeat' split at he
   all_goals first|(cases he;done)|(simp only[Gn,Gp]at he;obtain⟨rfl,rfl,rfl⟩:=he;refine⟨rfl,?_⟩;simp_all)
  ·cases hl
 case iaddr z a i=>
  split at hl
  ·rename_i off len cap ha
   cases hl
   simp only[exec,ha]at he|-
   cases hi:Ka T i <;> rw[hi]at he <;> simp only[reduceCtorEq]at he
   simp only;rw[h2]
   repeat' split at he
   all_goals first|(cases he;done)|(simp only[Gn,Gp]at he;obtain⟨rfl,rfl,rfl⟩:=he;refine⟨rfl,?_⟩;simp_all)
  ·cases hl
def JbE (b:Nat):Foot×Foot:=if b=4 then(.on [1,2,3,4,5],.on []) else if 2000<=b then(.on [b-2000+1],.on [b-2000+1]) else if 1000<=b then(.on [0,b-1000+1],.on [0,b-1000+1]) else footQ b
def XX (b:Nat)(op:IOp)(T:List CV)(H:List CObj):Option (Cond×CV×List CObj):=if 1000<=b then none else if b=4 then(match low op T with|some id=>if id<5 then exec op T H else none|none=>none) else if b=0/\still op=true then exec op T H else Jgf b op T H
section
variable (P:Program)(E:Env)(n0:Nat)(N:Fr)(Q:Exit->List CV->List CObj->Prop)
def vdy (k:List KItem):List IOper->List Nat->List CV->List CObj->Prop
 |[],_,T,H=>Ko P E n0 N Q k T H
 |_::_,[],_,_=>False
 |⟨d,op,none⟩::l,b::bs,T,H=>match XX b op T H with
  |some (c,v,H')=>c.holds/\vdy k l bs (put T d v) H'
  |none=>∃v H',HS P E ⟨d,op,none⟩ T H v H' (JbE b)/\vdy k l bs (put T d v) H'
 |⟨d,op,some (s,want)⟩::l,b::bs,T,H=>Xz (T.getD s .un) want (match XX b op T H with
  |some (c,v,H')=>c.holds/\vdy k l bs (put T d v) H'
  |none=>∃v H',HS P E ⟨d,op,some (s,want)⟩ T H v H' (JbE b)/\vdy k l bs (put T d v) H') (vdy k l bs (put T d (.tup [])) H)
def vdyR (r:Option (Cond×CV×List CObj))(d:Option Nat)(op:IOp)(g:Option (Nat×Bool))(b:Nat)(k:List KItem)(l:List IOper)(bs:List Nat)(T:List CV)(H:List CObj):Prop:=
 match r with
 |some (c,v,H')=>c.holds/\vdy P E n0 N Q k l bs (put T d v) H'
 |none=>∃v H',HS P E ⟨d,op,g⟩ T H v H' (JbE b)/\vdy P E n0 N Q k l bs (put T d v) H'
end
section
variable {P:Program}{E:Env}{n0:Nat}{N:Fr}{Q:Exit->List CV->List CObj->Prop}{H H':List CObj}{T:List CV}{k:List KItem}{l:List IOper}{es:List (List Nat)}{bs:List Nat}
theorem vy_nil:vdy P E n0 N Q k [] bs T H=Ko P E n0 N Q k T H:=propext (by cases bs <;> exact Iff.rfl)
theorem vy_op {d:Option Nat}{op:IOp}{b:Nat}:vdy P E n0 N Q k (⟨d,op,none⟩::l) (b::bs) T H=vdyR P E n0 N Q (XX b op T H) d op none b k l bs T H:=propext Iff.rfl
theorem vy_gop {d:Option Nat}{op:IOp}{b s:Nat}{want:Bool}:vdy P E n0 N Q k (⟨d,op,some (s,want)⟩::l) (b::bs) T H=Xz (T.getD s .un) want (vdyR P E n0 N Q (XX b op T H) d op (some (s,want)) b k l bs T H) (vdy P E n0 N Q k l bs (put T d (.tup [])) H):=propext Iff.rfl
theorem vdyR_some {d:Option Nat}{op:IOp}{g:Option (Nat×Bool)}{b:Nat}{c:Cond}{v:CV}:vdyR P E n0 N Q (some (c,v,H')) d op g b k l bs T H=(c.holds/\vdy P E n0 N Q k l bs (put T d v) H'):=propext Iff.rfl
theorem vdy_look {T':List CV}{H':List CObj}(hT:T=T')(hH:H=H'):vdy P E n0 N Q k l bs T H=vdy P E n0 N Q k l bs T' H':=by rw[hT,hH]
theorem vdyR_look {r r':Option (Cond×CV×List CObj)}{d:Option Nat}{op:IOp}{g:Option (Nat×Bool)}{b:Nat}(h:r=r'):vdyR P E n0 N Q r d op g b k l bs T H=vdyR P E n0 N Q r' d op g b k l bs T H:=by rw[h]
attribute [congr] vdy_look vdyR_look
theorem Jdc {b:Nat}{d:Option Nat}{g:Option (Nat×Bool)}{op:IOp}{c:Cond}{v:CV}(hg:GOk T g)(he:Jgf b op T H=some (c,v,H'))(hc:c.holds):HS P E ⟨d,op,g⟩ T H v H' (footQ b):=by
 unfold Jgf at he;unfold footQ
 split at he
 ·rename_i h;rw[if_pos h];unfold JeI at he;rw[if_neg (by decide)]at he
  split at he
  ·rename_i hs
   split at he
   ·rename_i c' v' h1;simp only[Gn,Gp]at he;obtain⟨rfl,rfl,rfl⟩:=he;exact JbK λH2=>.inr ⟨hg,.inl ⟨_,Jhn hs h1 H2,hc⟩⟩
   ·cases he
  ·cases he
 ·rename_i h;rw[if_neg h]
  split at he
  ·rename_i h1;rw[if_pos h1]
   split at he
   ·rename_i h2;obtain rfl:=looks_heap h2 he;exact hs_ro hg he hc
   ·cases he
  ·rename_i h1;rw[if_neg h1];exact hs_op hg he hc
theorem xexecY_sound {b:Nat}{d:Option Nat}{g:Option (Nat×Bool)}{op:IOp}{c:Cond}{v:CV}(hg:GOk T g)(he:XX b op T H=some (c,v,H'))(hc:c.holds):HS P E ⟨d,op,g⟩ T H v H' (JbE b):=by
 unfold XX at he
 split at he
 ·cases he
 rename_i hb;unfold JbE
 split at he
 ·rename_i h4;rw[if_pos h4]
  split at he
  ·rename_i id hl
   split at he
   ·rename_i h5;obtain⟨rfl,_⟩:=low_exec hl he rfl;refine⟨λ_ _=>rfl,λT2 H2 ag hx=>⟨H2,λy hy=>(by cases hy),λ_ _=>rfl,λ_ _ _ _ _ Ap=>?_⟩⟩;have hH:H2[id]? = H'[id]?:=by
     have:=hx (id+1) (by simp only[Foot.has,GJ,GR,or_false];omega);simpa [hat]using this
    exact Jet (Yr ag hg) (by rw[<-Qv (Jj ag).2];exact(low_exec hl he hH).2) hc Ap
   ·cases he
  ·cases he
 ·rename_i h4;rw[if_neg h4,iN7,if_neg hb]
  split at he
  ·rename_i h;obtain⟨rfl,h2⟩:=h;obtain⟨rfl,h3⟩:=still_exec h2 he;exact JbK λH2=>.inr ⟨hg,.inl ⟨_,h3 H2,hc⟩⟩
  ·exact Jdc hg he hc
theorem hs_no0 {io:IOper}{v:CV}{f:Foot×Foot}(h:HS P E io T H v H Foot.no)(hf:(∀x,f.2.has x->f.1.has x)):HS P E io T H v H f:=by
 refine⟨λ_ _=>rfl,λT2 H2 ha hx=>?_⟩;obtain⟨H3,_,h2,h3⟩:=h.run T2 H2 ha λy hy=>(by cases hy)
 exact⟨H3,λy hy=>(h2 y λhy=>(by cases hy)).trans (hx y (hf y hy)),λy _=>h2 y λhy=>(by cases hy),h3⟩
theorem footY_sub {b:Nat}:∀x,(JbE b).2.has x->(JbE b).1.has x:=λx=>by
 unfold JbE
 split
 ·intro h;cases h
 ·split
  ·exact id
  ·split
   ·exact id
   ·unfold footQ
    split
    ·exact id
    ·split
     ·intro h;cases h
     ·exact id
theorem vdy_vals:∀(l:List IOper) (bs:List Nat) (T:List CV) (H:List CObj),vdy P E n0 N Q k l bs T H->l.length=bs.length->∃(v:Nat->CV) (hh:Nat->List CObj),hh 0=H/\(∀j,j<l.length->HS P E (Xb l j) (tst l v T j) (hh j) (v j) (hh (j+1)) (Xc (bs.map JbE) j))/\Ko P E n0 N Q k (tst l v T l.length) (hh l.length)
 |[],bs,T,H,h,_=>⟨λ_=>.un,λ_=>H,rfl,by simp,by rw[vy_nil]at h;exact h⟩
 |io::l,[],T,H,h,hl=>by simp at hl
 |io::l,b::bs,T,H,h,hl=>by
  have Ej:∃v0 H',HS P E io T H v0 H' (JbE b)/\vdy P E n0 N Q k l bs (put T io.dst v0) H':=by
   obtain⟨d,op,g⟩:=io;have hR:∀{g:Option (Nat×Bool)},GOk T g->vdyR P E n0 N Q (XX b op T H) d op g b k l bs T H->∃v0 H',HS P E ⟨d,op,g⟩ T H v0 H' (JbE b)/\vdy P E n0 N Q k l bs (put T d v0) H':=λhg h=>by
    unfold vdyR at h
    split at h
    ·rename_i c v H' he;exact⟨v,H',xexecY_sound hg he h.1,h.2⟩
    ·exact h
   cases g with
   |none=>
    rw[vy_op]at h;exact hR (.inl rfl) h
   |some g=>
    obtain⟨s,want⟩:=g;rw[vy_gop]at h;unfold Xz at h
    split at h
    ·rename_i t ht;by_cases hw:t=want
     ·exact hR (.inr ⟨s,want,rfl,by rw[ht,hw]⟩) (h.1 hw)
     ·have Ev:t = !want:=by cases t <;> cases want <;> first|rfl|exact absurd rfl hw
      exact⟨.tup [],H,hs_no0 (JbK λH2=>.inl ⟨s,want,rfl,.inl (by rw[ht,Ev]),rfl⟩) footY_sub,h.2 Ev⟩
    ·rename_i ht;exact⟨.tup [],H,hs_no0 (JbK λH2=>.inl ⟨s,want,rfl,.inr ht,rfl⟩) footY_sub,h⟩
    ·exact h.elim
  obtain⟨v0,H',h1,h2⟩:=Ej;obtain⟨v,hh,h0,h3,h4⟩:=vdy_vals l bs _ _ h2 (by simpa using hl)
  let v':Nat->CV:=λj=>match j with|0=>v0|j+1=>v j
  let Fs:Nat->List CObj:=λj=>match j with|0=>H|j+1=>hh j
  have key:∀j,tst (io::l) v' T (j+1)=tst l v (put T io.dst v0) j:=by
   intro j
   induction j with
   |zero=>rfl
   |succ j ih=>rw[tst,ih];rfl
  refine⟨v',Fs,rfl,λj hj=>?_,?_⟩
  ·cases j with
   |zero=>
    have e:Fs (0+1)=H':=h0;rw[e];exact h1
   |succ j=>rw[key];exact h3 j (by simpa using hj)
  ·rw[Gc,key];exact h4
theorem JQ (bs:List Nat)(hm:P.follows .mixedOrders=true)(AP:(l.length == bs.length && (Jbd l.length es (clo es) && Ql l (clo es) (bs.map JbE)))=true)(h:vdy P E n0 N Q k l bs T H):Ok P E n0 N Q (.code (.dreg l es)::k) T H:=by
 simp only[GL,beq_iff_eq]at AP;obtain⟨v,hh,h0,h1,h2⟩:=vdy_vals l bs T H h AP.1;exact JgU AP.2.1 hm AP.2.2 h1 h0 (JA _ _ _ h2)
theorem Jgh {d:Option Nat}{g:Option (Nat×Bool)}{f:Nat}{xa:List IArg}{v:CV}(hg:GOk T g)(Ah:Fn P f (xa.map (Ka T)) v)(h:vdy P E n0 N Q k l bs (put T d v) H):vdyR P E n0 N Q none d (.call f xa) g 0 k l bs T H:=
 ⟨v,H,hs_f hg Ah,h⟩
theorem hs_pcall {d:Option Nat}{g:Option (Nat×Bool)}{f:Nat}{xa:List IArg}{v:CV}(hg:GOk T g)(Ah:Pure P E f (xa.map (Ka T)) H v):HS P E ⟨d,.call f xa,g⟩ T H v H (.all,.on []):=by
 have h:=Jg5 (d:=d) hg Ah;refine⟨λ_ _=>rfl,λT2 H2 ag hx=>?_⟩;have hH:H2=H:=YT λy=>hx y trivial
 obtain⟨H2',h1,_,h3⟩:=h.run T2 H2 ag λy _=>hx y trivial
 have aO:H2'=H:=YT λy=>h1 y trivial
 subst hH aO;exact⟨_,λy hy=>(by cases hy),λ_ _=>rfl,h3⟩
theorem vy_p {d:Option Nat}{g:Option (Nat×Bool)}{f:Nat}{xa:List IArg}{v:CV}(hg:GOk T g)(Ah:Pure P E f (xa.map (Ka T)) H v)(h:vdy P E n0 N Q k l bs (put T d v) H):vdyR P E n0 N Q none d (.call f xa) g 1 k l bs T H:=
 ⟨v,H,hs_pcall hg Ah,h⟩
theorem vy_new {d:Option Nat}{g:Option (Nat×Bool)}{op:IOp}(id:Nat){c:Cond}(mk:Nat->CV)(o:CObj)(hg:GOk T g)(M7:H.length=id)(he:∀H2,exec op T H2=some (c,mk H2.length,H2++[o]))(hc:c.holds)(Ab:id<1000)(h:vdy P E n0 N Q k l bs (put T d (mk id)) (H++[o])):vdyR P E n0 N Q none d op g (1000+id) k l bs T H:=by
 subst M7;have hf:JbE (1000+H.length)=(.on [0,H.length+1],.on [0,H.length+1]):=by
  unfold JbE;rw[iN7,iN7,iP7,Li]
 refine⟨_,_,?_,h⟩;rw[hf];refine⟨λx hx=>?_,λT2 H2 ag hx=>?_⟩
 ·simp only[Foot.has,GJ,GR,or_false,not_or]at hx
  cases x with
  |zero=>exact absurd rfl hx.1
  |succ x=>
   simp only[hat,Gp,and_true];have Ai:x≠H.length:=λe=>hx.2 (by rw[e])
   rcases Lr x H.length with h|h
   ·rw[G6 h]
   ·rw[Gs (by simp;omega),Gs h]
 ·have hl:H2.length=H.length:=by
   have:=hx 0 (by simp[Foot.has]);simpa [hat]using this
  refine⟨H2++[o],λx hx=>?_,λx hx=>?_,λ_ _ _ _ _ Ap=>Jet (c:=c) (v:=mk H2.length) (H':=H2++[o]) (Yr ag hg) (by rw[<-Qv (Jj ag).2];exact he H2) hc (by rw[hl];exact Ap)⟩
  ·simp only[Foot.has,GJ,GR,or_false]at hx;rcases hx with rfl|rfl
   ·simp[hat,hl]
   ·simp only[hat,Gp,and_true];rw[<-hl,GM (Gr _),hl,GM (Gr _)]
  ·simp only[Foot.has,GJ,GR,or_false,not_or]at hx
   cases x with
   |zero=>exact absurd rfl hx.1
   |succ x=>
    simp only[hat,Gp,and_true];have Ai:x≠H2.length:=λe=>hx.2 (by rw[e,hl])
    rcases Lr x H2.length with h|h
    ·rw[G6 h]
    ·rw[Gs (by simp;omega),Gs h]
theorem vy_set {d:Option Nat}{g:Option (Nat×Bool)}{op:IOp}(j:Nat){c:Cond}{v:CV}(o:CObj)(hg:GOk T g)(he:∀H2:List CObj,H2[j]? = H[j]?->exec op T H2=some (c,v,H2.set j o))(hc:c.holds)(hj:j<H.length)(h:vdy P E n0 N Q k l bs (put T d v) (H.set j o)):vdyR P E n0 N Q none d op g (2000+j) k l bs T H:=by
 have hf:JbE (2000+j)=(.on [j+1],.on [j+1]):=by
  unfold JbE;rw[iN7,iP7,Li]
 have hs:∀(H:List CObj) (x:Nat),x≠j+1->hat (H.set j o) x=hat H x:=λH x hx=>by
  cases x with
  |zero=>simp[hat]
  |succ i=>simp only[hat];rw[Gq (by omega)]
 refine⟨_,_,?_,h⟩;rw[hf];refine⟨λx hx=>hs H x (by simpa [Foot.has]using hx),λT2 H2 ag hx=>?_⟩;have hH:H2[j]? = H[j]?:=by
  have:=hx (j+1) (by simp[Foot.has]);simpa [hat]using this
 have Ea:j<H2.length:=by
  rw[Gh hj]at hH;exact(Gy.1 hH).1
 refine⟨H2.set j o,λx hx=>?_,λx hx=>hs H2 x (by simpa [Foot.has]using hx),λ_ _ _ _ _ Ap=>Jet (Yr ag hg) (by rw[<-Qv (Jj ag).2];exact he H2 hH) hc Ap⟩;have:x=j+1:=by simpa [Foot.has]using hx
 subst this;simp only[hat];rw[Gl Ea,Gl hj]
theorem vy_row {d:Option Nat}{g:Option (Nat×Bool)}{z n:Nat}{zero:List CV}{ps:List (Nat×IArg)}(els:List (List CV))(hg:GOk T g)(Ay:Jm ((IOp.bslice z n zero ps).rd.map λs=>T.getD s .un)=true)(he:XQ T z (Hg n zero) ps=some els)(hn:els.length=n)(hc:Jq els=true)(h:vdy P E n0 N Q k l bs (put T d (.rslc z els none)) H):vdyR P E n0 N Q none d (.bslice z n zero ps) g 0 k l bs T H:=by
 refine⟨_,H,JbK λH2=>.inr ⟨hg,.inr (.inr ⟨Ay,rfl,.tt,.slc 0 0 n (some n),[.arr z els],0,z,els,?_,trivial,rfl,hc,?_⟩)⟩,h⟩
 ·simp[exec,he]
 ·subst hn;simp[frz]
end
theorem yexec0 {op:IOp}{T:List CV}{H:List CObj}:XX 0 op T H=if still op=true then exec op T H else JeI false op T H:=by
 unfold XX;rw[if_neg (by decide),if_neg (by decide)];by_cases h:still op=true
 ·rw[if_pos ⟨rfl,h⟩,if_pos h]
 ·rw[if_neg (λx=>h x.2),if_neg h];rfl
theorem yexec1 {op:IOp}{T:List CV}{H:List CObj}:XX 1 op T H=if looks op=true then exec op T H else none:=by
 unfold XX;rw[if_neg (by decide),if_neg (by decide),if_neg (λh=>by cases h.1)];rfl
theorem yexec2 {op:IOp}{T:List CV}{H:List CObj}:XX 2 op T H=exec op T H:=by
 unfold XX;rw[if_neg (by decide),if_neg (by decide),if_neg (λh=>by cases h.1)];rfl
theorem yexec4 {op:IOp}{T:List CV}{H:List CObj}:XX 4 op T H=match low op T with|some id=>if id<5 then exec op T H else none|none=>none:=by
 unfold XX;rw[if_neg (by decide),if_pos rfl]
theorem JhF {b:Nat}{op:IOp}{T:List CV}{H:List CObj}(h:1000<=b):XX b op T H=none:=by
 unfold XX;rw[if_pos h]
attribute [go_sem] yexec0 yexec1 yexec2 yexec4 still low
attribute [go_sem] vy_nil vy_op vy_gop vdyR_some
end
section
mutual
def refs:CV->List Nat
 |.slc j _ _ _=>[j]
 |.ptr j _ _=>[j]
 |.map j=>[j]
 |.fn _ l1 l2=>Jfm l1++Jfm l2
 |.iface _ c=>refs c
 |.agg l=>Jfm l
 |.tup l=>Jfm l
 |_=>[]
def Jfm:List CV->List Nat
 |[]=>[]
 |c::cs=>refs c++Jfm cs
end
def JgO:CObj->List Nat
 |.arr _ es=>es.flatMap Jfm
 |.map kvs=>kvs.flatMap λp=>refs p.1++refs p.2
 |_=>[]
mutual
theorem Jcf {ρ:List Nat}:∀(c:CV),(∀i∈refs c,Jn i ρ 0=some i)->ren ρ c=c
 |.un,_=>rfl
 |.bool _,_=>rfl
 |.int _ _,_=>rfl
 |.str _,_=>rfl
 |.nilp,_=>rfl
 |.ptr j _ _,h=>by simp only[ren,h j (by simp[refs])]
 |.rptr _,_=>rfl
 |.nils,_=>rfl
 |.slc j _ _ _,h=>by simp only[ren,h j (by simp[refs])]
 |.rslc _ _ _,_=>rfl
 |.nilm,_=>rfl
 |.map j,h=>by simp only[ren,h j (by simp[refs])]
 |.fn _ l1 l2,h=>by simp only[ren,YY l1 λi hi=>h i (by simp[refs,hi]),YY l2 λi hi=>h i (by simp[refs,hi])]
 |.yld _,_=>rfl
 |.nilf,_=>rfl
 |.iface _ c,h=>by simp only[ren,Jcf c λi hi=>h i (by simpa [refs]using hi)]
 |.nili,_=>rfl
 |.agg l,h=>by simp only[ren,YY l λi hi=>h i (by simpa [refs]using hi)]
 |.tup l,h=>by simp only[ren,YY l λi hi=>h i (by simpa [refs]using hi)]
theorem YY {ρ:List Nat}:∀(l:List CV),(∀i∈Jfm l,Jn i ρ 0=some i)->JB ρ l=l
 |[],_=>rfl
 |c::cs,h=>by simp only[JB,Jcf c λi hi=>h i (by simp[Jfm,hi]),YY cs λi hi=>h i (by simp[Jfm,hi])]
end
theorem ren_refsO {ρ:List Nat}{o:CObj}(h:∀i∈JgO o,Jn i ρ 0=some i):XM ρ o=o:=by
 cases o with
 |arr z es=>
  simp only[XM]
  congr 1
  refine(HY λe he=>?_).trans (Lg _);exact YY e λi hi=>h i (by simp only[JgO,H9];exact⟨e,he,hi⟩)
 |map kvs=>
  simp only[XM]
  congr 1
  refine(HY λp hp=>?_).trans (Lg _);have h1:∀i∈refs p.1++refs p.2,Jn i ρ 0=some i:=λi hi=>h i (by simp only[JgO,H9];exact⟨p,hp,hi⟩)
  rw[Jcf p.1 λi hi=>h1 i (by simp[hi]),Jcf p.2 λi hi=>h1 i (by simp[hi])];rfl
 |dead=>rfl
 |ext s b=>rfl
def okId (H:List CObj)(p i:Nat):Prop:=i<H.length/\(H[i]? = some .dead->i<p)
structure NoD (p:Nat)(T:List CV)(H:List CObj):Prop where
 t:∀c∈T,∀i∈refs c,okId H p i
 h:∀o∈H,∀i∈JgO o,okId H p i
theorem mem_put {T:List CV}{d:Option Nat}{v c:CV}(h:c∈put T d v):c=v\/c∈T:=by
 cases d with
 |none=>exact .inr h
 |some d=>exact(GN h).symm
theorem Jbr {H:List CObj}{p i j:Nat}{o:CObj}(ho:o.alive=true)(h:okId H p i):okId (H.set j o) p i:=by
 refine⟨by rw[Hf];exact h.1,λhd=>?_⟩;by_cases e:i=j
 ·subst e;rw[Gl h.1,Gn]at hd;subst hd;cases ho
 ·rw[Gq (λx=>e x.symm)]at hd;exact h.2 hd
section
variable (P:Program)(E:Env)(n0 p:Nat)(N:Fr)(Q:Exit->List CV->List CObj->Prop)
structure HSI (io:IOper)(T:List CV)(H:List CObj)(v:CV)(H':List CObj)(f:Foot×Foot):Prop where
 out:∀x,¬f.2.has x->hat H' x=hat H x
 run:∀T2 H2,NoD p T2 H2->agree io.rd T T2->(∀x,f.1.has x->hat H2 x=hat H x)->∃H2',NoD p (put T2 io.dst v) H2'/\(∀x,f.2.has x->hat H2' x=hat H' x)/\(∀x,¬f.2.has x->hat H2' x=hat H2 x)/\
  ∀(N:Fr) (Q:Exit->List CV->List CObj->Prop) (k:List KItem) (l:List IOper),Ok P E n0 N Q (.ops l::k) (put T2 io.dst v) H2'->Ok P E n0 N Q (.ops (io::l)::k) T2 H2
def Jcw (b:Nat×List Nat):Foot×Foot:=match b.1 with
 |0=>(.on (b.2.map (· + 1)),.on [])
 |j+1=>(.on ((j+1)::b.2.map (· + 1)),.on [j+1])
def vdz (k:List KItem):List IOper->List (Nat×List Nat)->List CV->List CObj->Prop
 |[],_,T,H=>Ko P E n0 N Q k T H
 |_::_,[],_,_=>False
 |io::l,b::bs,T,H=>∃v H',HSI P E n0 p io T H v H' (Jcw b)/\vdz k l bs (put T io.dst v) H'
end
section
variable {P:Program}{E:Env}{n0 p:Nat}{N:Fr}{Q:Exit->List CV->List CObj->Prop}{H H':List CObj}{T:List CV}{k:List KItem}{l:List IOper}{es:List (List Nat)}{fs:List (Foot×Foot)}{v:Nat->CV}{hh:Nat->List CObj}{bs:List (Nat×List Nat)}
theorem JeG (hv:∀j,j<l.length->HSI P E n0 p (Xb l j) (tst l v T j) (hh j) (v j) (hh (j+1)) (Xc fs j)){x a:Nat}:∀d,a+d<=l.length->(∀i,a<=i->i<a+d->¬(Xc fs i).2.has x)->hat (hh (a+d)) x=hat (hh a) x
 |0,_,_=>rfl
 |d+1,h,hn=>by
  have h1:=(hv (a+d) (by omega)).out x (hn (a+d) (by omega) (by omega));have h2:=JeG hv d (by omega) λi hi Da=>hn i hi (by omega)
  rw[<-h2];exact h1
theorem any_orderI (ho:OrderedH l es fs)(hv:∀j,j<l.length->HSI P E n0 p (Xb l j) (tst l v T j) (hh j) (v j) (hh (j+1)) (Xc fs j))(AL:Ok P E n0 N Q k (tst l v T l.length) (hh l.length)){S:Nat->Bool}{is:List Nat}(h:Sched l.length es S is) :
  ∀T' H',(∀i,i<l.length->S i=true->∀e∈es.getD i [],S e=true)->At l v T S T'->AtH l fs hh S H'->NoD p T' H'->Ok P E n0 N Q (.ops (is.map (Xb l))::k) T' H':=by
 induction h with
 |nil hn=>
  rename_i S;intro T' H' Ay hA hB _;have Ak:∀i,i<l.length->S i=true:=by
   intro i
   induction i using Ll with
   |_ i ih=>
    intro hi
    cases hS:S i with
    |true=>rfl
    |false=>
     obtain⟨e,he,Og⟩:=hn i hi hS;have Ab:=ho.base.lt i hi e he;have:=ih e Ab (by omega);rw[this]at Og;cases Og
  have hH:H'=hh l.length:=YT λx=>hB x l.length (Gr _) λi hi _=>⟨λ_=>hi,λ_=>Ak i hi⟩
  rw[hA.all ho.base Ak,hH];exact Jbq AL
 |cons hi hS hr _ ih=>
  rename_i S j is Cu;intro T' H' Ay hA hB hN;have key:∀i,i<l.length->i≠j->∀x,(Xc fs i).2.has x->((Xc fs j).1.has x\/(Xc fs j).2.has x)->(S i=true↔i<j):=by
   intro i Af Ai x h1 h2;have h3:=ho.ord i j x Af hi Ai h1 h2
   constructor
   ·intro ED;rcases h3 with h3|h3
    ·exact ho.base.lt j hi i h3
    ·have:=Ay i Af ED j h3;rw[hS]at this;cases this
   ·intro Ab;rcases h3 with h3|h3
    ·exact hr i h3
    ·have:=ho.base.lt i Af j h3;omega
  obtain⟨H2',g0,g1,g2,g3⟩:=(hv j hi).run T' H' hN (hA.agree ho.base Ay hi hS hr) (λx hx=>hB x j (by omega) λi Af hw=>by
   by_cases Cw:i=j
   ·subst Cw;rw[hS];simp
   ·exact key i Af Cw x hw (.inl hx))
  refine g3 N Q k _ (ih _ _ (λi Af ED e he=>?_) (hA.step ho.base hi hS) ?_ g0)
  ·simp only[Bool.or_eq_true,beq_iff_eq]at ED|-;rcases ED with h|h
   ·exact .inl (Ay i Af h e he)
   ·subst h;exact .inl (hr e he)
  ·intro x m hm hw;by_cases hx:(Xc fs j).2.has x
   ·rw[g1 x hx];have Uf:j<m:=(hw j hi hx).1 (by simp);have hc:=JeG hv (x:=x) (a:=j+1) (m-(j+1)) (by omega) (λi h1 h2 Dm=>by
     have Af:i<l.length:=by omega
     have h4:=(hw i Af Dm).2 (by omega);have Ai:i≠j:=by omega
     have h5:S i=true:=by simpa [Ai]using h4
     have:=(key i Af Ai x Dm (.inr hx)).1 h5;omega)
    have e:j+1+(m-(j+1))=m:=by omega
    rw[e]at hc;exact hc.symm
   ·rw[g2 x hx];refine hB x m hm λi Af Dm=>?_
    have Ai:i≠j:=λe=>hx (e▸Dm)
    have:=hw i Af Dm;simpa [Ai]using this
theorem vdz_vals:∀(l:List IOper) (bs:List (Nat×List Nat)) (T:List CV) (H:List CObj),vdz P E n0 p N Q k l bs T H->l.length=bs.length->∃(v:Nat->CV) (hh:Nat->List CObj),hh 0=H/\(∀j,j<l.length->HSI P E n0 p (Xb l j) (tst l v T j) (hh j) (v j) (hh (j+1)) (Xc (bs.map Jcw) j))/\Ko P E n0 N Q k (tst l v T l.length) (hh l.length)
 |[],bs,T,H,h,_=>⟨λ_=>.un,λ_=>H,rfl,by simp,by cases bs <;> exact h⟩
 |io::l,[],T,H,h,hl=>by simp at hl
 |io::l,b::bs,T,H,h,hl=>by
  obtain⟨v0,H',h1,h2⟩:=h;obtain⟨v,hh,h0,h3,h4⟩:=vdz_vals l bs _ _ h2 (by simpa using hl)
  let v':Nat->CV:=λj=>match j with|0=>v0|j+1=>v j
  let Fs:Nat->List CObj:=λj=>match j with|0=>H|j+1=>hh j
  have key:∀j,tst (io::l) v' T (j+1)=tst l v (put T io.dst v0) j:=by
   intro j
   induction j with
   |zero=>rfl
   |succ j ih=>rw[tst,ih];rfl
  refine⟨v',Fs,rfl,λj hj=>?_,?_⟩
  ·cases j with
   |zero=>
    have e:Fs (0+1)=H':=h0;rw[e];exact h1
   |succ j=>rw[key];exact h3 j (by simpa using hj)
  ·rw[Gc,key];exact h4
theorem vr_dregZ (p:Nat)(bs:List (Nat×List Nat))(hm:P.follows .mixedOrders=true)(AP:(l.length == bs.length && (Jbd l.length es (clo es) && Ql l (clo es) (bs.map Jcw)))=true)(hN:NoD p T H)(h:vdz P E n0 p N Q k l bs T H):Ok P E n0 N Q (.code (.dreg l es)::k) T H:=by
 simp only[GL,beq_iff_eq]at AP;obtain⟨v,hh,h0,h1,h2⟩:=vdz_vals l bs T H h AP.1;refine ok_draw hm λis hs=>?_
 refine any_orderI (YQ AP.2.2) h1 (JA _ _ _ h2) (Jef AP.2.1 hs λ_ _ h=>by cases h) T H (λ_ _ h=>by cases h) ⟨rfl,λ_ _=>rfl,λ_ _ _ h=>by cases h⟩ (λx m hm hw=>?_) hN;have hc:=JeG h1 (x:=x) (a:=0) m (by omega) (λi _ h2 Dm=>by
  have:=(hw i (by omega) Dm).2 (by omega)
  cases this)
 rw[Gx]at hc;rw[hc,h0]
theorem Jde {io:IOper}{R:List Nat}{c:Cond}{v:CV}(hg:io.guard=none)(he:Jgf 0 io.op T H=some (c,v,H))(hc:c.holds)(hr:refs v=R)(hR:∀i∈R,okId H p i)(h:vdz P E n0 p N Q k l bs (put T io.dst v) H):vdz P E n0 p N Q k (io::l) ((0,R)::bs) T H:=by
 refine⟨v,H,⟨λ_ _=>rfl,λT2 H2 hN ha hx=>?_⟩,h⟩;have hs:=Jdc (P:=P) (E:=E) (d:=io.dst) (g:=io.guard) (.inl hg) he hc;obtain⟨H3,_,h2,h3⟩:=hs.run T2 H2 ha λy hy=>(by cases hy)
 have hH:H3=H2:=YT λy=>h2 y λhy=>(by cases hy)
 subst hH;refine⟨H3,⟨λc hc i hi=>?_,hN.h⟩,λy hy=>(by cases hy),λ_ _=>rfl,λN Q k l Ap=>h3 n0 N Q k l Ap⟩;rcases mem_put hc with rfl|hc
 ·rw[hr]at hi;have h4:=hR i hi;have h5:=hx (i+1) (by simp only[Jcw,Foot.has,Hm];exact⟨i,hi,rfl⟩);simp only[hat,Gp,and_true]at h5;have h6:i<H3.length:=by
   have:=Gh h4.1;rw[this]at h5;exact(Gy.1 h5).1
  exact⟨h6,λhd=>h4.2 (by rw[<-h5];exact hd)⟩
 ·exact hN.t c hc i hi
theorem Jg6 {H:List CObj}{j x:Nat}{o:CObj}(h:x≠j+1):hat (H.set j o) x=hat H x:=by
 cases x with
 |zero=>simp[hat]
 |succ i=>simp only[hat];rw[Gq (by omega)]
theorem okId_foot {R:List Nat}{H2:List CObj}{j:Nat}(hR:∀i∈R,okId H p i)(hx:∀x,(Jcw (j+1,R)).1.has x->hat H2 x=hat H x):∀i∈R,okId H2 p i:=λi hi=>by
 have h4:=hR i hi;have h5:=hx (i+1) (by simp only[Jcw,Foot.has,GJ,Hm];exact .inr ⟨i,hi,rfl⟩);simp only[hat,Gp,and_true]at h5;have h6:i<H2.length:=by
  have:=Gh h4.1;rw[this]at h5;exact(Gy.1 h5).1
 exact⟨h6,λhd=>h4.2 (by rw[<-h5];exact hd)⟩
theorem hat_at {R:List Nat}{H2:List CObj}{j:Nat}(hx:∀x,(Jcw (j+1,R)).1.has x->hat H2 x=hat H x):H2[j]? = H[j]?:=by
 have h5:=hx (j+1) (by simp[Jcw,Foot.has]);simpa [hat]using h5
theorem Jdf (j:Nat){io:IOper}{R:List Nat}{c:Cond}(mk:Nat->CV)(o:CObj)(hg:io.guard=none)(he:∀H2,exec io.op T H2=some (c,mk H2.length,H2++[o]))(hc:c.holds)(MW:∀ρ id i,Jn id ρ 0=some i->ren ρ (mk id)=mk i)(Pk:refs (mk j)=[j])(ho:o.alive=true)(hj:H[j]? = some .dead)(jm:p<=j)(hn:n0<=p)(hr:JgO o=R)(hR:∀i∈R,okId H p i)(h:vdz P E n0 p N Q k l bs (put T io.dst (mk j)) (H.set j o)):vdz P E n0 p N Q k (io::l) ((j+1,R)::bs) T H:=by
 have Bc:=(Gy.1 hj).1;refine⟨mk j,H.set j o,⟨λx hx=>Jg6 λe=>hx (by simp[Jcw,Foot.has,e]),λT2 H2 hN ha hx=>?_⟩,h⟩;have Ea:H2[j]? = some .dead:=by rw[hat_at hx,hj]
 have ER:=(Gy.1 Ea).1;have O5:=okId_foot hR hx;have Ai:∀i,okId H2 p i->i≠j:=λi hi e=>by subst e;have:=hi.2 Ea;omega
 have M7:∀i,i<H2.length->i≠j->Jn i ((Gg H2.length).set j H2.length) 0=some i:=λi hi Cw=>by
  have h1:((Gg H2.length).set j H2.length)[i]? = some i:=by rw[Gq (λe=>Cw e.symm),Gt hi]
  have key:∀(ρ:List Nat) (a b:Nat),ρ[b]? = some i->(∀m,m<b->ρ[m]?≠some i)->Jn i ρ a=some (a+b):=by
   intro ρ
   induction ρ with
   |nil=>intro a b h;simp at h
   |cons q ρ ih=>
    intro a b h hm
    cases b with
    |zero=>simp at h;simp[Jn,h]
    |succ b=>
     have hq:q≠i:=λe=>hm 0 (by omega) (by simp[e])
     rw[Jn,if_neg hq,ih (a+1) b (by simpa using h) λm Cq hh=>hm (m+1) (by omega) (by simpa using hh)]
     congr 1;omega
  rw[key _ 0 i h1 λm hm hh=>?_,Gx];by_cases e:m=j
  ·subst e;rw[Gl (by simpa using ER),Gn]at hh;omega
  ·rw[Gq (λx=>e x.symm),Gt (by omega),Gn]at hh;omega
 have fP:Jn H2.length ((Gg H2.length).set j H2.length) 0=some j:=by
  have key:∀(ρ:List Nat) (a b x:Nat),ρ[b]? = some x->(∀m,m<b->ρ[m]?≠some x)->Jn x ρ a=some (a+b):=by
   intro ρ
   induction ρ with
   |nil=>intro a b x h;simp at h
   |cons q ρ ih=>
    intro a b x h hm
    cases b with
    |zero=>simp at h;simp[Jn,h]
    |succ b=>
     have hq:q≠x:=λe=>hm 0 (by omega) (by simp[e])
     rw[Jn,if_neg hq,ih (a+1) b x (by simpa using h) λm Cq hh=>hm (m+1) (by omega) (by simpa using hh)]
     congr 1;omega
  rw[key _ 0 j H2.length (Gl (by simpa using ER)) λm hm hh=>?_,Gx];rw[Gq (by omega),Gt (by omega),Gn]at hh;omega
 refine⟨H2.set j o,⟨λc hc i hi=>?_,λo' U0 i hi=>?_⟩,λx Bd=>?_,λx Bd=>Jg6 λe=>Bd (by simp[Jcw,Foot.has,e]),λN Q k l Ap=>?_⟩
 ·rcases mem_put hc with rfl|hc
  ·rw[Pk,List.mem_singleton]at hi;subst hi;refine⟨by rw[Hf];exact ER,λhd=>?_⟩;rw[Gl ER,Gn]at hd;subst hd;cases ho
  ·exact Jbr ho (hN.t c hc i hi)
 ·rcases GN U0 with h1|rfl
  ·exact Jbr ho (hN.h o' h1 i hi)
  ·rw[hr]at hi;exact Jbr ho (O5 i hi)
 ·have:x=j+1:=by simpa [Jcw,Foot.has]using Bd
  subst this;simp only[hat];rw[Gl ER,Gl Bc]
 ·refine Jet (c:=c) (v:=mk H2.length) (H':=H2++[o]) (.inl hg) (by rw[<-Qv (Jj ha).2];exact he H2) hc ?_;refine JfI (ρ:=(Gg H2.length).set j H2.length) ⟨?_,λi hi=>?_,λi hi=>?_⟩ ?_
  ·refine List.pairwise_iff_getElem.2 λa b ha hb Sd=>?_
   rw[Hf,H6]at ha hb;rw[G9,G9,G8,G8]
   split <;> split <;> omega
  ·rw[HZ];rcases GN hi with h1|rfl
   ·have:=List.mem_range.1 h1;omega
   ·simp
  ·rw[Gq (by omega),Gt (by omega)]
  ·have e1:JB ((Gg H2.length).set j H2.length) (put T2 io.dst (mk H2.length))=put T2 io.dst (mk j):=by
    have h0:JB ((Gg H2.length).set j H2.length) T2=T2:=by
     have:∀l:List CV,(∀c∈l,ren ((Gg H2.length).set j H2.length) c=c)->JB ((Gg H2.length).set j H2.length) l=l:=by
      intro l
      induction l with
      |nil=>intro _;rfl
      |cons c l ih=>intro hl;rw[JB,hl c (by simp),ih λc hc=>hl c (by simp[hc])]
     exact this T2 λc hc=>Jcf c λi hi=>M7 i (hN.t c hc i hi).1 (Ai i (hN.t c hc i hi))
    cases hd:io.dst with
    |none=>exact h0
    |some d=>
     have:∀(l:List CV) (d:Nat),JB ((Gg H2.length).set j H2.length) (l.set d (mk H2.length))=(JB ((Gg H2.length).set j H2.length) l).set d (mk j):=by
      intro l
      induction l with
      |nil=>intro d;rfl
      |cons c l ih=>
       intro d
       cases d with
       |zero=>simp only[Gv,JB,MW _ _ _ fP]
       |succ d=>simp only[GA,JB,ih]
     show JB _ (T2.set d (mk H2.length))=T2.set d (mk j);rw[this,h0]
   have e2:Kq ((Gg H2.length).set j H2.length) (H2++[o])=H2.set j o:=by
    refine H7 λa=>?_
    simp only[Kq,GD];by_cases Dl:a<H2.length
    ·by_cases e:a=j
     ·subst e;rw[Gl (by simpa using Dl),Gl Dl];simp only[Hw,Gb,GM (Gr _),Lp,Hz,GH];rw[ren_refsO λi hi=>by rw[hr]at hi;exact M7 i (O5 i hi).1 (Ai i (O5 i hi))]
     ·rw[Gq (λx=>e x.symm),Gt Dl,Gq (λx=>e x.symm)];simp only[Hw,Gb,G6 Dl,Gh Dl,GH];rw[ren_refsO λi hi=>M7 i (hN.h _ (GG Dl) i hi).1 (Ai i (hN.h _ (GG Dl) i hi))]
    ·rw[Gs (by simp;omega),Gs (by simp;omega)];rfl
   rw[e1,e2];exact Ap
theorem vz_set (j:Nat){io:IOper}{R:List Nat}{c:Cond}{v:CV}(o:CObj)(hg:io.guard=none)(he:∀H2:List CObj,H2[j]? = H[j]?->exec io.op T H2=some (c,v,H2.set j o))(hc:c.holds)(hv:refs v=[])(ho:o.alive=true)(hr:JgO o=R)(hR:∀i∈R,okId H p i)(Bc:j<H.length)(h:vdz P E n0 p N Q k l bs (put T io.dst v) (H.set j o)):vdz P E n0 p N Q k (io::l) ((j+1,R)::bs) T H:=by
 refine⟨v,H.set j o,⟨λx hx=>Jg6 λe=>hx (by simp[Jcw,Foot.has,e]),λT2 H2 hN ha hx=>?_⟩,h⟩;have Ea:=hat_at hx;have ER:j<H2.length:=by
  rw[Gh Bc]at Ea;exact(Gy.1 Ea).1
 have O5:=okId_foot hR hx;refine⟨H2.set j o,⟨λc hc i hi=>?_,λo' U0 i hi=>?_⟩,λx Bd=>?_,λx Bd=>Jg6 λe=>Bd (by simp[Jcw,Foot.has,e]),λN Q k l Ap=>Jet (.inl hg) (by rw[<-Qv (Jj ha).2];exact he H2 Ea) hc Ap⟩
 ·rcases mem_put hc with rfl|hc
  ·rw[hv]at hi;cases hi
  ·exact Jbr ho (hN.t c hc i hi)
 ·rcases GN U0 with h1|rfl
  ·exact Jbr ho (hN.h o' h1 i hi)
  ·rw[hr]at hi;exact Jbr ho (O5 i hi)
 ·have:x=j+1:=by simpa [Jcw,Foot.has]using Bd
  subst this;simp only[hat];rw[Gl ER,Gl Bc]
end
end
end Go.Cm
end
section
set_option maxRecDepth 100000
set_option maxHeartbeats 4000000
open Go.Proofs
namespace Go.Cm
section
section
variable {P:Program}{E:Env}{H:List CObj}
inductive Fnl (n0:Nat)(v0:CV)(H0:List CObj):CV->List CObj->Prop
 |done {v:CV}:wk v v0->Fnl n0 v0 H0 v H0
 |frz {v:CV} {H:List CObj} (id z:Nat) (els:List (List CV)):H[id]? = some (.arr z els)->Jq els=true->Fnl n0 v0 H0 (Go.Cm.frz id z els v) (Ky id z els H)->Fnl n0 v0 H0 v H
 |ren {v:CV} {H:List CObj} (ρ:List Nat):Jdx ρ n0 H.length=true->Fnl n0 v0 H0 (Go.Cm.ren ρ v) (Kq ρ H)->Fnl n0 v0 H0 v H
theorem CallsC.fnl {f:Nat}{args:List CV}{v0:CV}{H0:List CObj}(h:CallsC P E f args H λv H'=>Fnl H.length v0 H0 v H'):CallsC P E f args H λv H'=>v=v0/\H'=H0:=by
 intro m w vs hs hv;refine(h m w vs hs hv).mono ?_;rintro e w' ⟨r,m',v,H',h1,h2,h3,h4,g⟩;subst h1
 induction g generalizing m' with
 |done hw=>exact⟨r,m',v0,_,rfl,h2,h3,hw _ _ _ h4,rfl,rfl⟩
 |frz id z els g1 g2 _ ih=>
  obtain⟨imm',Az,he,hf⟩:=Sim.freeze (n0:=H.length) h3 g1 g2;exact ih _ (h2.trans he) Az (hf _ _ h4)
 |ren ρ g1 _ ih=>
  have Ad:=h2.long (by rw[hs.len];exact Gr _);rw[h3.len]at Ad;obtain⟨own',Az,he,hf,_⟩:=Sim.ren (n0:=H.length) h3 (QP g1) Ad;exact ih _ (h2.trans he) Az (hf _ _ h4)
end
def txz (l:TL):List (List CV):=l.map λa=>[S (tyT a)]
def txV (l:TL):CV:=.rslc 1 (txz l) none
def gz (l:List TL):List (List CV):=l.map λx=>[txV x]
def bqz (l:List Bool):List (List CV):=l.map λb=>[.bool b]
def kz (l:List (Nat×Bool)):List (CV×CV):=l.map λp=>(.int .i64 (p.1:Int),.bool p.2)
theorem QO {l:TL}:(txz l).length=l.length:=by simp[txz]
theorem X5 {l:List TL}:(gz l).length=l.length:=by simp[gz]
theorem bqz_len {l:List Bool}:(bqz l).length=l.length:=by simp[bqz]
theorem KR:∀(l:TL),Jq (txz l)=true
 |[]=>rfl
 |_::l=>KR l
theorem Qu:∀(l:List TL),Jq (gz l)=true
 |[]=>rfl
 |_::l=>Qu l
theorem QI:∀(l:List Bool),Jq (bqz l)=true
 |[]=>rfl
 |_::l=>QI l
theorem Jaf {l:TL}{i:Nat}(h:i<l.length):(txz l).getD i []=[S (tyT (l.getD i .int))]:=by
 simp[txz,Gb,Gh h]
theorem QW {l:List TL}{i:Nat}(h:i<l.length):(gz l).getD i []=[txV (Ju l i)]:=by
 simp[gz,Ju,Gb,Gh h]
theorem bqz_get {l:List Bool}{i:Nat}(h:i<l.length):(bqz l).getD i []=[.bool (l.getD i false)]:=by
 simp[bqz,Gb,Gh h]
theorem gz_set {l:List TL}{i:Nat}{x:TL}:(gz l).set i [txV x]=gz (l.set i x):=by simp[gz,Lf]
theorem bqz_set {l:List Bool}{i:Nat}{b:Bool}:(bqz l).set i [.bool b]=bqz (l.set i b):=by simp[bqz,Lf]
theorem keyN {x a:Nat}:YE .int (.int .i64 (x:Int)) (.int .i64 (a:Int))=some (x == a):=by
 simp only[YE,if_true]
 congr 1
 rw[Hq,beq_iff_eq,beq_iff_eq];exact Int.ofNat_inj
theorem Jap {k:Nat}:∀(l:List (Nat×Bool)) (i:Nat),(QL .int (.int .i64 (k:Int)) (kz l) i=some none/\J7 l k=false/\∀b,kz l++[(.int .i64 (k:Int),.bool b)]=kz (X4 k b l))\/(∃j,QL .int (.int .i64 (k:Int)) (kz l) i=some (some (i+j,.bool (J7 l k)))/\∀b,(kz l).set j (.int .i64 (k:Int),.bool b)=kz (X4 k b l))
 |[],i=>.inl ⟨rfl,rfl,λ_=>rfl⟩
 |(a,c)::l,i=>by
  by_cases h:a=k
  ·subst h;have e:YE .int (.int .i64 (a:Int)) (.int .i64 (a:Int))=some true:=by rw[keyN,beq_self_eq_true]
   refine .inr ⟨0,?_,λb=>?_⟩
   ·simp only[kz,Gd,QL,e,J7,if_pos,Nat.add_zero]
   ·simp only[kz,Gd,Gv,X4,if_pos]
  ·have e:YE .int (.int .i64 (k:Int)) (.int .i64 (a:Int))=some false:=by rw[keyN,beq_false_of_ne (λe=>h e.symm)]
   rcases Jap l (i+1) with ⟨h1,h2,h3⟩|⟨j,h1,h3⟩
   ·refine .inl ⟨?_,by rw[J7,if_neg h];exact h2,λb=>?_⟩
    ·simp only[kz,Gd,QL,e];exact h1
    ·rw[X4,if_neg h];show (_::(kz l++_))=(_::kz (X4 k b l));rw[h3]
   ·refine .inr ⟨j+1,?_,λb=>?_⟩
    ·simp only[kz,Gd,QL,e,J7,if_neg h];rw[show i+(j+1)=i+1+j by omega];exact h1
    ·rw[X4,if_neg h];show (_::(kz l).set j _)=(_::kz (X4 k b l));rw[h3]
structure FT0 where
 t:Tr
 of:List Int
 up:List Int
 fi:List Int
variable (K:FT0)(S:FS)
def fRow (b:Option Nat):List CV:=[.rslc 5 (ndz K.t.nodes) none,.rslc 1 (iz K.t.items) none,.rslc 1 (iz K.of) none,.rslc 1 (iz K.up) none,.rslc 1 (iz K.fi) none,.slc 1 0 K.t.nodes.length (some K.t.nodes.length),.slc 2 0 K.t.nodes.length (some K.t.nodes.length),.map 3,.map 4,.int .i64 ((b.getD 0:Nat):Int),.bool b.isSome]
def hpF (X:List CObj):List CObj:=.arr 11 [fRow K S.bad] :: .arr 1 (gz S.got) :: .arr 1 (bqz S.dn) :: .map (kz S.fd) :: .map (kz S.fg)::X
variable {K S}
theorem ren_kz {l:List (Nat×Bool)}{ρ:List Nat}:(kz l).map (λp=>(ren ρ p.1,ren ρ p.2))=kz l:=by
 unfold kz;rw[GK];rfl
theorem ren_gz {l:List TL}{ρ:List Nat}:(gz l).map (JB ρ)=gz l:=Jc (Qu l)
theorem ren_bqz {l:List Bool}{ρ:List Nat}:(bqz l).map (JB ρ)=bqz l:=Jc (QI l)
theorem ren_hp {X:List CObj}{ρ:List Nat}:Kq (0::1::2::3::4::ρ) (hpF K S X)=hpF K S (ρ.map λid=>XM (0::1::2::3::4::ρ) ((hpF K S X).getD id .dead)):=by
 have h1:XM (0::1::2::3::4::ρ) (.arr 1 (gz S.got))=.arr 1 (gz S.got):=by rw[Jo,ren_gz]
 have h2:XM (0::1::2::3::4::ρ) (.arr 1 (bqz S.dn))=.arr 1 (bqz S.dn):=by rw[Jo,ren_bqz]
 have h3:XM (0::1::2::3::4::ρ) (.map (kz S.fd))=.map (kz S.fd):=by rw[JgN,ren_kz]
 have h4:XM (0::1::2::3::4::ρ) (.map (kz S.fg))=.map (kz S.fg):=by rw[JgN,ren_kz]
 have h0:XM (0::1::2::3::4::ρ) (.arr 11 [fRow K S.bad])=.arr 11 [fRow K S.bad]:=rfl;show [XM _ (.arr 11 [fRow K S.bad]),XM _ (.arr 1 (gz S.got)),XM _ (.arr 1 (bqz S.dn)),XM _ (.map (kz S.fd)),XM _ (.map (kz S.fg))]++_=_;rw[h0,h1,h2,h3,h4];rfl
theorem frz_fRow {id z:Nat}{e:List (List CV)}{b:Option Nat}(h:5<=id):JY id z e (fRow K b)=fRow K b:=by
 have h1:¬1=id:=by omega
 have h2:¬2=id:=by omega
 simp only[fRow,JY,frz,if_neg h1,if_neg h2]
theorem frz_hp {X:List CObj}{id z:Nat}{e:List (List CV)}:Ky (id+5) z e (hpF K S X)=hpF K S ((X.map (Qc (id+5) z e)).set id .dead):=by
 have h3:∀l:List (Nat×Bool),(kz l).map (λp=>(frz (id+5) z e p.1,frz (id+5) z e p.2))=kz l:=λl=>by unfold kz;rw[GK];rfl
 have h0:=frz_fRow (K:=K) (id:=id+5) (z:=z) (e:=e) (b:=S.bad) (by omega);simp only[hpF,Ky,Gd,Gj,Qc,h0,h3,JO (Qu _),JO (QI _),GA]
theorem back_out {σ:List Nat}{n:Nat}{H':List CObj}(hσ:σ=[0,1,2,3,4])(hH:H'.length=5):∀(X:List CObj) (k:Nat),5<=k->Jaz σ n k H' X=X
 |[],k,_=>by
  subst hσ;rw[Jaz,HV (by simp[hH])];rfl
 |o::X,k,hk=>by
  have h:Jn k σ 0=none:=by
   subst hσ;simp only[Jn];rw[iN7,iN7,iN7,iN7,iN7]
  rw[Jaz,h,back_out hσ hH X (k+1) (by omega)]
theorem back_hp {S':FS}{X:List CObj}{n:Nat}:Jaz [0,1,2,3,4] n 0 (hpF K S' []) (hpF K S X)=hpF K S' X:=by
 have h1:=JdQ (τ:=tau [0,1,2,3,4] n) (z:=1) (Qu S'.got);have h2:=JdQ (τ:=tau [0,1,2,3,4] n) (z:=1) (QI S'.dn);have h3:∀l:List (Nat×Bool),moO (tau [0,1,2,3,4] n) (.map (kz l))=.map (kz l):=λl=>by
  show CObj.map ((kz l).map λp=>(mo _ p.1,mo _ p.2))=_;unfold kz;rw[GK];rfl
 have h0:moO (tau [0,1,2,3,4] n) (.arr 11 [fRow K S'.bad])=.arr 11 [fRow K S'.bad]:=rfl;show moO _ (.arr 11 [fRow K S'.bad])::moO _ (.arr 1 (gz S'.got))::moO _ (.arr 1 (bqz S'.dn))::moO _ (.map (kz S'.fd))::moO _ (.map (kz S'.fg))::Jaz [0,1,2,3,4] n 5 (hpF K S' []) X=_;rw[h0,h1,h2,h3,h3,back_out rfl rfl X 5 (Gr _)];rfl
def FMe (P:Program)(f:Nat)(args:List CV)(K:FT0)(S S':FS)(res:CV):Prop:=CallsC P Env.none f (.ptr 0 0 0::args) (hpF K S []) λv H'=>v=res/\H'=hpF K S' []
theorem FMe.on {P:Program}{E:Env}{f:Nat}{args:List CV}{S':FS}{res:CV}{X:List CObj}(h:FMe P f args K S S' res)(ha:Jm args=true)(hr:res.closed=true):CallsC P E f (.ptr 0 0 0::args) (hpF K S X) λv H'=>v=res/\H'=hpF K S' X:=by
 refine(CallsC.loc [0,1,2,3,4] h ?_ ?_ ?_).mono ?_
 ·show ren _ (.ptr 0 0 0)::JB _ args=_;rw[Xl args ha];rfl
 ·rw[ren_hp];rfl
 ·rfl
 ·rintro v H' ⟨v0,H0,⟨rfl,rfl⟩,rfl,rfl⟩;exact⟨Jez _ hr,back_hp⟩
theorem Fnl.out {v v0:CV}{X:List CObj}(hw:wk v v0)(hc:v.closed=true):Fnl 5 v0 (hpF K S []) v (hpF K S X):=by
 refine .ren [0,1,2,3,4] (by simp[Jdx,hpF,Lb]) ?_;rw[ren_hp,Y0 v hc];exact .done hw
theorem Fnl.one {v v0:CV}{X:List CObj}(id:Nat){z:Nat}{els:List (List CV)}(hX:X[id]? = some (.arr z els))(hc:Jq els=true)(Ay:(Go.Cm.frz (id+5) z els v).closed=true)(hw:wk (Go.Cm.frz (id+5) z els v) v0):Fnl 5 v0 (hpF K S []) v (hpF K S X):=
 .frz (id+5) z els hX hc (by rw[frz_hp];exact Fnl.out hw Ay)
theorem Fnl.more {v v0:CV}{X:List CObj}(id:Nat){z:Nat}{els:List (List CV)}(hX:X[id]? = some (.arr z els))(hc:Jq els=true)(h:Fnl 5 v0 (hpF K S []) (Go.Cm.frz (id+5) z els v) (hpF K S ((X.map (Qc (id+5) z els)).set id .dead))):Fnl 5 v0 (hpF K S []) v (hpF K S X):=
 .frz (id+5) z els hX hc (by rw[frz_hp];exact h)
theorem J8 {P:Program}{f:Nat}{args:List CV}{S':FS}{res:CV}(h:CallsC P Env.none f (.ptr 0 0 0::args) (hpF K S []) λv H'=>Fnl 5 res (hpF K S' []) v H'):FMe P f args K S S' res:=CallsC.fnl h
end
def opT:Option TyX->List UInt8
 |none=>[]
 |some a=>tyT a
def Ke:TL->Option TyX
 |[a]=>some a
 |_=>none
theorem Jer {l:TL}{a:TyX}:Ke l=some a↔l=[a]:=by
 unfold Ke
 split
 ·simp
 ·rename_i h
  constructor
  ·intro h;cases h
  ·intro e;exact absurd e (h a)
theorem oneO_none {l:TL}(h:l.length≠1):Ke l=none:=by
 rcases l with _|⟨a,_|⟨b,l⟩⟩
 ·rfl
 ·exact absurd rfl h
 ·rfl
def prt:Option TyX->Option TyX
 |some (.arr b)=>some b
 |some (.str b)=>some b
 |_=>none
def isStr:Option TyX->Bool
 |some (.str _)=>true
 |_=>false
def Jc9:Option TyX->Bool
 |some (.arr _)=>true
 |_=>false
theorem JeC {a:Option TyX}:isStr a=true↔∃b,a=some (.str b):=by
 rcases a with _|a|a|a|a <;> simp[isStr]
theorem isArr_iff {a:Option TyX}:Jc9 a=true↔∃b,a=some (.arr b):=by
 rcases a with _|a|a|a|a <;> simp[Jc9]
theorem Jgz:∀a:TyX,(tyT a).length<=7*tyP a
 |.int=>by simp[tyT,tyP]
 |.bool=>by simp[tyT,tyP]
 |.arr a=>by have:=Jgz a;simp[tyT,tyP];omega
 |.str a=>by have:=Jgz a;simp[tyT,tyP,QD];omega
theorem tyF_len {t:Tr}:∀f i,tyP (tyF t f i)<=f+1
 |0,_=>by simp[tyF,tyP]
 |f+1,i=>by
  have h:=tyF_len (t:=t) f (JG t i 0);rw[tyF]
  split
  ·simp[tyP]
  ·split
   ·simp[tyP]
   ·split <;> simp[tyP] <;> omega
theorem Jd9 {t:Tr}{i:Nat}(h:i<1400):(tyT (tyN t i)).length<=10000:=by
 have h1:=Jgz (tyN t i);have h2:=tyF_len (t:=t) (i+1) i;unfold tyN at h1|-;omega
theorem Jhg {l:TL}(h:X6 l=true){a:TyX}(ha:a∈l):(tyT a).length<=140:=by
 unfold X6 at h;have:=Hd.1 h a ha;rw[decide_eq_true_eq]at this;have:=Jgz a;omega
theorem JbT {l:TL}(h:X6 l=true):(opT (Ke l)).length<=140:=by
 cases ho:Ke l with
 |none=>simp[opT]
 |some a=>
  have:=Jer.1 ho;subst this;exact Jhg h (by simp)
theorem prt_len {a:Option TyX}:(opT (prt a)).length<=(opT a).length:=by
 rcases a with _|a|a|a|a <;> simp[prt,opT,tyT] <;> omega
def areB (got:List TL)(w:List UInt8)(ks:List Int):Bool:=ks.all λk=>match Ke (Ju got k.toNat) with
 |none=>false
 |some a=>tyT a == w
theorem JaA {got:List TL}{a:TyX}{k:Int}:areB got (tyT a) [k]=(Ju got k.toNat == [a]):=by
 simp only[areB,Hl,Ho,Ht]
 cases ho:Ke (Ju got k.toNat) with
 |none=>
  symm
  rw[beq_eq_false_iff_ne];intro e;rw[e]at ho;cases ho
 |some b=>
  rw[Jer.1 ho,Hq,beq_iff_eq,beq_iff_eq];exact⟨λh=>by rw[Jd8 h],λh=>by cases h;rfl⟩
theorem are_cons {got:List TL}{w:List UInt8}{k:Int}{l:List Int}:areB got w (k::l)=(areB got w [k] && areB got w l):=by
 simp[areB]
theorem are_none {got:List TL}{k:Int}:areB got [] [k]=false:=by
 simp only[areB,Hl,Ho,Ht]
 cases ho:Ke (Ju got k.toNat) with
 |none=>rfl
 |some b=>
  rw[beq_eq_false_iff_ne];exact Jd7
theorem takeT {l:TL}{i:Nat}(h:i<l.length):l.take (i+1)=l.take i++[l.getD i .int]:=by
 rw[G5 h,Gb,Gh h];rfl
theorem equalTx (a b:TL)(ha:a.length<=100000):Fn Ga 125 [txV a,txV b] (.bool (a == b)):=by
 have Am:(txz a).length=a.length:=QO;have Bt:(txz b).length=b.length:=QO;refine Ja c125_ok rfl rfl λN=>?_
 by_cases hl:a.length=b.length
 ·have e1:((a.length:Int) != (b.length:Int))=false:=by simp[hl]
  simp only[c125,go_sem,txV,Am,Bt,e1];refine JE (I:=λi:Nat=>i<=a.length/\a.take i=b.take i) (inv:=λi=>gp [(0,.rslc 1 (txz a) none),(0,.rslc 1 (txz b) none),(10,.int .i64 (a.length:Int)),(0,.int .i64 (i:Int))] 12) (hp:=λ_=>[]) (μ:=λi=>a.length-i) 0 ⟨by omega,by simp⟩ ?_ rfl ?_
  ·simp[forget,gp]
  ·rintro i ⟨hi,Aa⟩;by_cases Ab:i<a.length
   ·have d1:=dtT i a.length;have Ie:=Jaf Ab;have Uk:=Jaf (l:=b) (i:=i) (by omega);have eB:=takeT Ab;have eu:=takeT (l:=b) (i:=i) (by omega);simp only[go_sem,d1];refine JW Jp (by decide) ?_;simp only[go_sem,Am,Bt,Ie,Uk,tyT_eq];refine⟨by omega,by omega,?_⟩;by_cases he:a.getD i .int=b.getD i .int
    ·have e2:(a.getD i .int == b.getD i .int)=true:=by rw[he];simp
     simp only[go_sem,e2];refine⟨Jh,i+1,⟨by omega,by rw[eB,eu,Aa,he]⟩,by omega,?_⟩;simp[forget]
    ·have e2:(a.getD i .int == b.getD i .int)=false:=by simpa using he
     have Ai:(a == b)=false:=by
      rw[beq_eq_false_iff_ne];rintro rfl;exact he rfl
     simp only[go_sem,e2,Ai]
   ·have d1:=dfF i a.length;have he:(a == b)=true:=by
     rw[beq_iff_eq];rw[Gz (by omega),Gz (by omega)]at Aa;exact Aa
    simp only[go_sem,d1,he]
 ·have e1:((a.length:Int) != (b.length:Int))=true:=by simp;omega
  have he:(a == b)=false:=by
   rw[beq_eq_false_iff_ne];rintro rfl;exact hl rfl
  simp only[c125,go_sem,txV,Am,Bt,e1,he]
theorem cloneTx {l:TL}(hl:l.length<=100000):Fn Ga 41 [txV l] (txV l):=by
 cases l with
 |nil=>
  refine Ja3 ?_ rfl rfl;refine Kc c41_ok λN=>?_
  simp only[c41,go_sem,txV,txz,Gj];refine ok_eqnil rfl λb=>?_
  cases b with
  |true=>
   simp only[go_sem];exact .inl wk.nils
  |false=>
   simp only[go_sem];exact .inr ⟨0,1,[],rfl,rfl,by simp[frz];exact wk.refl _⟩
 |cons x xs=>
  refine(JdW (Kc c41_ok λN=>?_) rfl (KR (x::xs))).fn rfl (KR _);have Ad:(txz xs).length=xs.length:=QO;simp only[Gc]at hl;simp only[c41,go_sem,txV,txz,Gd,Jy];refine⟨by simp;omega,1,by rw[Yo],rfl⟩
theorem indexTx {f:Nat}{F:IFunc}(l:TL)(q:TyX->Bool)(hF:Je Ga f=some F)(hq:∀p∈l,Fn Ga f [S (tyT p)] (.bool (q p)))(Ad:l.length<=100000):Fn Ga 131 [txV l,.fn f [] []] (.int .i64 (Xk q l 0)):=by
 have Af:(txz l).length=l.length:=QO;refine Ja c131_ok rfl rfl λN=>?_
 simp only[c131,go_sem,txV,Af];refine JE (I:=λi:Nat=>i<=l.length/\Xk q l 0=Xk q (l.drop i) i) (inv:=λi=>gp [(0,.rslc 1 (txz l) none),(0,.fn f [] []),(5,.int .i64 l.length),(0,.int .i64 i)] 10) (hp:=λ_=>[]) (μ:=λi=>l.length-i) 0 ⟨by omega,rfl⟩ ?_ rfl ?_
 ·simp[forget,gp]
 ·rintro i ⟨hi,Aa⟩;by_cases Ab:i<l.length
  ·have d1:=dtT i l.length;have Ar:=Jaf Ab;have Cb:l[i]? = some (l.getD i .int):=by rw[Gb,Gh Ab];rfl
   have hm:l.getD i .int∈l:=List.mem_of_getElem? Cb;rw[QX Cb]at Aa;simp only[go_sem,Af,d1,Ar];refine anO ?_;refine vr_fv (.inl rfl) rfl hF nm (hq _ hm) ?_
   cases hb:q (l.getD i .int) with
   |true=>
    rw[hb,if_pos rfl]at Aa;simp only[go_sem,Aa]
   |false=>
    rw[hb]at Aa;simp only[go_sem];refine⟨Jh,i+1,⟨by omega,by simpa using Aa⟩,by omega,?_⟩;simp[forget]
  ·have d1:=dfF i l.length;rw[HV (by omega)]at Aa;simp only[go_sem,d1,Aa,Xk]
theorem containsTx {f:Nat}{F:IFunc}(l:TL)(q:TyX->Bool)(hF:Je Ga f=some F)(hq:∀p∈l,Fn Ga f [S (tyT p)] (.bool (q p)))(Ad:l.length<=100000):Fn Ga 95 [txV l,.fn f [] []] (.bool (l.any q)):=by
 refine Ja c95_ok rfl rfl λN=>?_
 simp only[c95,go_sem];refine JV (indexTx l q hF hq Ad) ?_;simp only[go_sem,Jav]
theorem cutPrefix0 (l p:List UInt8):Fn Ga 97 [S l,S p] (if l.take p.length=p then .tup [S (l.drop p.length),.bool true] else .tup [S l,.bool false]):=by
 refine Ja c97_ok rfl (by split <;> rfl) λN=>?_
 simp +contextual only[c97,go_sem];refine JV (JfX _ _) ?_;simp +contextual only[go_sem];refine⟨λh=>?_,λh=>?_⟩
 ·simp at h;rw[if_neg h]
 ·simp at h;have hl:=congrArg Lh h;simp at hl;rw[if_pos h,H8];exact⟨by omega,rfl⟩
theorem cutPrefix (l p:List UInt8):Fn Ga 65 [S l,S p] (if l.take p.length=p then .tup [S (l.drop p.length),.bool true] else .tup [S l,.bool false]):=by
 refine Ja c65_ok rfl (by split <;> rfl) λN=>?_
 simp +contextual only[c65,go_sem];refine JV (cutPrefix0 _ _) ?_;by_cases h:l.take p.length=p
 ·simp +contextual only[go_sem,if_pos h]
 ·simp +contextual only[go_sem,if_neg h]
def wStr:List UInt8:=[115,116,114,101,97,109]
def wArr:List UInt8:=[91,93]
def innX:Option TyX->CV
 |some (.arr b)=>.tup [S wArr,S (tyT b),.bool true]
 |some (.str b)=>.tup [S wStr,S (tyT b),.bool true]
 |_=>.tup [S [],S [],.bool false]
theorem innX_closed:∀a,(innX a).closed=true
 |none=>rfl
 |some .int=>rfl
 |some .bool=>rfl
 |some (.arr _)=>rfl
 |some (.str _)=>rfl
theorem opT_str {a:Option TyX}:(opT a).take 7=QD↔∃b,a=some (.str b):=by
 constructor
 ·intro h;rcases a with _|a|a|a|a
  ·simp[opT,QD]at h
  ·simp[opT,tyT,QD]at h
  ·simp[opT,tyT,QD]at h
  ·simp[opT,tyT,QD]at h
  ·exact⟨a,rfl⟩
 ·rintro⟨b,rfl⟩;simp[opT,tyT,QD]
theorem arr_facts {b:TyX}:∃l,tyT (.arr b)=l/\l.length=(tyT b).length+2/\l.getD 0 0=91/\l.getD (l.length-1) 0=93/\(l.take (l.length-1)).drop 1=tyT b:=by
 refine⟨_,rfl,by simp[tyT],rfl,?_,?_⟩
 ·simp[tyT]
 ·simp[tyT]
section
theorem tyP_len:∀a:TyX,tyP a<=(tyT a).length+1
 |.int=>by simp[tyT,tyP]
 |.bool=>by simp[tyT,tyP]
 |.arr a=>by have:=tyP_len a;simp[tyT,tyP];omega
 |.str a=>by have:=tyP_len a;simp[tyT,tyP,QD];omega
theorem JdF (a:Option TyX)(hl:(opT a).length<=100000):Fn Ga 43 [S (opT a)] (innX a):=by
 refine Ja c43_ok rfl (innX_closed a) λN=>?_
 simp -implicitDefEqProofs only[c43,go_sem];refine JV (cutPrefix (opT a) QD) ?_;by_cases h:∃b,a=some (.str b)
 ·obtain⟨b,rfl⟩:=h;have h7:(opT (some (.str b))).take QD.length=QD:=opT_str.2 ⟨b,rfl⟩;have hd:(opT (some (.str b))).drop QD.length=tyT b:=by simp[opT,tyT,QD]
  rw[if_pos h7,hd];simp -implicitDefEqProofs only[go_sem,innX];rfl
 ·have h7:¬(opT a).take QD.length=QD:=λe=>h (opT_str.1 e)
  rw[if_neg h7];rcases a with _|a|a|b|b
  ·simp -implicitDefEqProofs only[go_sem,opT,innX,Gf]
  ·simp -implicitDefEqProofs only[go_sem,opT,tyT,innX,Gc,Gf,show ((1:Int)<((0+1+1+1:Nat):Int))=True from Kl,Gu,show ((((105:UInt8).toNat:Nat):Int) == 91)=false from rfl];decide
  ·simp -implicitDefEqProofs only[go_sem,opT,tyT,innX,Gc,Gf,show ((1:Int)<((0+1+1+1+1:Nat):Int))=True from Kl,Gu,show ((((98:UInt8).toNat:Nat):Int) == 91)=false from rfl];decide
  ·obtain⟨l,e,h1,h2,h3,h4⟩:=arr_facts (b:=b);simp only[opT,e]at hl|-;have d1:((1:Int)<(l.length:Int))=True:=Kl;simp -implicitDefEqProofs only[go_sem,d1,h2,h3,innX,show ((((91:UInt8).toNat:Nat):Int) == 91)=true from rfl,show ((((93:UInt8).toNat:Nat):Int) == 93)=true from rfl];refine⟨by omega,Jh,⟨by omega,by omega⟩,?_⟩;refine JW Jp (by decide) ?_;simp -implicitDefEqProofs only[go_sem,h4];exact⟨Jh,by omega,rfl⟩
  ·exact absurd ⟨b,rfl⟩ h
theorem Jgy (a:TyX)(hl:(tyT a).length<=100000):Fn Ga 42 [S (tyT a)] (.int .i64 (tyP a:Int)):=by
 have hp:tyP a<=100001:=by have:=tyP_len a;omega
 refine Ja c42_ok rfl rfl λN=>?_
 simp -implicitDefEqProofs only[c42,go_sem];refine JE (I:=λs:Nat×TyX=>s.1+tyP s.2=tyP a+1/\(tyT s.2).length<=100000) (inv:=λs=>gp [(0,S (tyT s.2)),(2,.int .i64 (s.1:Int))] 21) (hp:=λ_=>[]) (μ:=λs=>tyP s.2) (1,a) ⟨by simp only;omega,hl⟩ ?_ rfl ?_
 ·simp[forget,gp]
 ·rintro⟨m,r⟩ ⟨h1,h2⟩
  dsimp only at h1 h2
  simp -implicitDefEqProofs only[go_sem];refine JV (JdF (some r) h2) ?_;rcases r with _|_|b|b
  ·simp only[tyP]at h1;obtain rfl:m=tyP a:=by omega
   simp -implicitDefEqProofs only[go_sem,innX,tyT]
  ·simp only[tyP]at h1;obtain rfl:m=tyP a:=by omega
   simp -implicitDefEqProofs only[go_sem,innX,tyT,show (([98,111,111,108]:List UInt8) == [105,110,116])=false from by decide,beq_self_eq_true]
  all_goals
   simp only[tyP]at h1;have h3:(tyT b).length<=100000:=by simp only[tyT,QD,Gc,HZ,Gf]at h2;omega
   simp -implicitDefEqProofs only[go_sem,innX];refine⟨Jh,(m+1,b),⟨by simp only;omega,h3⟩,by simp only[tyP];omega,?_⟩;simp[forget]
theorem typGreat1 (a:TyX)(hl:(tyT a).length<=100000):Fn Ga 96 [S (tyT a)] (.bool (decide (20<tyP a))):=by
 refine Ja c96_ok rfl rfl λN=>?_
 simp -implicitDefEqProofs only[c96,go_sem];refine JV (Jgy a hl) ?_;simp -implicitDefEqProofs only[go_sem]
 congr 1
 exact decide_eq_decide.2 (by omega)
theorem typGreat (l:TL)(hn:l.length<=100000)(hl:∀a∈l,(tyT a).length<=100000):Fn Ga 63 [txV l] (.bool (!X6 l)):=by
 have he:l.any (λa=>decide (20<tyP a)) = !X6 l:=by
  unfold X6;rw[Hq,List.any_eq_true,Bool.not_eq_true',<-Bool.not_eq_true,Hd];simp only[decide_eq_true_eq]
  constructor
  ·rintro⟨x,h1,h2⟩ h;have:=h x h1;omega
  ·intro h;refine Classical.byContradiction λhn=>h λx hx=>?_
   refine Classical.byContradiction λh2=>hn ⟨x,hx,by omega⟩
 refine Ja c63_ok rfl rfl λN=>?_
 simp -implicitDefEqProofs only[c63,go_sem,txV];refine JV (containsTx l _ c96_ok (λp hp=>typGreat1 p (hl p hp)) hn) ?_;simp -implicitDefEqProofs only[go_sem,he]
theorem Jd6 (l:List UInt8)(hl:l.length<=100000):Fn Ga 75 [S l] (S (QD++l)):=by
 refine Ja c75_ok rfl rfl λN=>?_
 simp -implicitDefEqProofs only[c75,go_sem];exact⟨by omega,rfl⟩
theorem typArray (l:List UInt8)(hl:l.length<=100000):Fn Ga 74 [S l] (S (91::(l++[93]))):=by
 refine Ja c74_ok rfl rfl λN=>?_
 simp -implicitDefEqProofs only[c74,go_sem];exact⟨by omega,by omega⟩
section
variable {P:Program}{E:Env}{n0:Nat}{N:Fr}{Q:Exit->List CV->List CObj->Prop}{H:List CObj}{T:List CV}{k:List KItem}{K:FT0}{Z Z':FS}
theorem Ku {d:Option Nat}{ge:Option (Nat×Bool)}{f:Nat}{ags:List IArg}{l:List IOper}{args:List CV}{res:CV}{X:List CObj}(hM:FMe P f args K Z Z' res)(hg:GOk T ge)(ha:ags.map (Ka T)=.ptr 0 0 0::args)(hH:H=hpF K Z X)(hc:Jm args=true)(hr:res.closed=true)(h:Ko P E n0 N Q (.ops l::k) (put T d res) (hpF K Z' X)):Ok P E n0 N Q (.ops (⟨d,.call f ags,ge⟩::l)::k) T H:=by
 subst hH;refine Km hg (by rw[ha];exact hM.on hc hr) ?_;rintro v H' ⟨rfl,rfl⟩;exact h
theorem JcM {X:List CObj}{z:Nat}{els:List (List CV)}(id:Nat)(hH:H=hpF K Z X)(hX:X[id]? = some (.arr z els))(hc:Jq els=true)(h:Ko P E n0 N Q k (JY (id+5) z els T) (hpF K Z ((X.map (Qc (id+5) z els)).set id .dead))):Ok P E n0 N Q k T H:=by
 subst hH;refine Jd (id:=id+5) (z:=z) (els:=els) hX hc ?_;rw[frz_hp];exact h
end
section
variable {K:FT0}{Z:FS}
theorem Fnl.same {v:CV}:Fnl 5 v (hpF K Z []) v (hpF K Z []):=.done (wk.refl _)
theorem fmOne {i:Nat}(hi:i<K.t.nodes.length)(hl:Z.got.length=K.t.nodes.length):FMe Ga 130 [.int .i64 (i:Int)] K Z Z (.tup [S (opT (Ke (Ju Z.got i))),.bool (Ke (Ju Z.got i)).isSome]):=by
 have hg:=QW (l:=Z.got) (i:=i) (by omega);have A7:(gz Z.got).length=K.t.nodes.length:=by rw[X5,hl]
 refine J8 (Kc c130_ok λN=>?_);generalize Ju Z.got i=l at *;rcases l with _|⟨a,_|⟨b,l⟩⟩
 ·simp -implicitDefEqProofs only[c130,go_sem,hpF,fRow,hg,A7,txV,txz,Gj,Gf];exact⟨⟨by omega,by omega⟩,by omega,.done (wk.refl _)⟩
 ·have d1:(((1:Nat):Int) != 1)=false:=rfl;simp -implicitDefEqProofs only[c130,go_sem,hpF,fRow,hg,A7,txV,txz,Gj,Gd,Gc,Gf,d1];exact⟨⟨by omega,by omega⟩,by omega,by omega,.done (wk.refl _)⟩
 ·have d1:(((l.length+1+1:Nat):Int) != 1)=true:=by simp;omega
  simp -implicitDefEqProofs only[c130,go_sem,hpF,fRow,hg,A7,txV,txz,Gd,Gc,Gf,Lc,d1];exact⟨⟨by omega,by omega⟩,by omega,.done (wk.refl _)⟩
theorem fmBare {i:Nat}(hi:i<K.t.nodes.length):FMe Ga 129 [.int .i64 (i:Int)] K Z Z (.bool (nd K.t i).kids.isEmpty):=by
 have hg:=J3 hi;have Aw:(iz (nd K.t i).kids).length=(nd K.t i).kids.length:=Jg;refine J8 (Kc c129_ok λN=>?_);simp -implicitDefEqProofs only[c129,go_sem,hpF,fRow,Jb,hg,Nd.cv,Aw];refine anO ?_;rw[show ((((nd K.t i).kids.length:Nat):Int) == 0)=(nd K.t i).kids.isEmpty by cases (nd K.t i).kids <;> simp;omega];exact .done (wk.refl _)
end
section
variable {K:FT0}{o:List Int}(g:GoodT K.t o)(ht:K.t.Fit){Z:FS}
include g ht
theorem fmExpr {s:Nat}(hs:s<K.t.nodes.length)(hk:(nd K.t s).k=41):FMe Ga 155 [.int .i64 (s:Int)] K Z Z (.int .i64 (Ji K.t s:Int)):=by
 have hg:=J3 hs;obtain⟨b1,_,_,b4⟩:=KF g hs hk;have hn:=(JeS ht hs).n;obtain⟨a,hN,Ad,_,_⟩:=YH g hs hk;change (nd K.t s).n=a at hN;change (nd K.t s).kids.length=a+1 at Ad;have Aw:(iz (nd K.t s).kids).length=a+1:=by rw[Jg];exact Ad
 have A7:=lastz g hs (by omega);rw[show (nd K.t s).kids.length-1=a by omega]at A7;refine J8 (Kc c155_ok λN=>?_);simp -implicitDefEqProofs only[c155,go_sem,hpF,fRow];refine JQ [0,0,0,0,1,0,0,0,0,0,0,0,0,1,0,0,0,0,0,0,0] Jp (by decide +kernel) ?_;simp -implicitDefEqProofs only[go_sem,Jb,hg,Nd.cv,Aw,hN,A7]
 repeat refine anO ?_
 exact .done (wk.refl _)
omit ht in
theorem XF:∀i,i<K.t.nodes.length->60<=(nd K.t i).k->(nd K.t i).k<=63->FMe Ga 58 [.int .i64 (i:Int)] K Z Z (S (tyT (tyN K.t i))):=by
 intro i
 induction i using Ll with
 |_ i ih=>
  intro hi h1 h2;have Aj:=g.many;have hg:=J3 hi;rw[tyN_eq g hi h1 h2];refine J8 (Kc c58_ok λN=>?_);by_cases SB:(nd K.t i).k=60
  ·rw[if_pos SB];simp -implicitDefEqProofs only[c58,go_sem,hpF,fRow,Jb,hg,Nd.cv,SB,Gm,beq_self_eq_true]
   repeat refine anO ?_
   exact .out (wk.refl _) rfl
  ·by_cases Uy:(nd K.t i).k=61
   ·rw[if_neg SB,if_pos Uy];simp -implicitDefEqProofs only[c58,go_sem,hpF,fRow,Jb,hg,Nd.cv,Uy,Gm,beq_self_eq_true,show ((61:Int) == 60)=false from rfl]
    repeat refine anO ?_
    exact .out (wk.refl _) rfl
   ·obtain⟨q1,q2,q3,q4⟩:=Jcq g hi (.inr (.inl (by omega)));have hl:=Qz g hi (.inr (.inr (.inr (by omega))));obtain⟨a,ha⟩:∃a,(nd K.t i).kids=[a]:=by
     match h:(nd K.t i).kids,hl with
     |[a],_=>exact⟨_,rfl⟩
    have hr:=g.kid hi (k:=a) (by change a∈(nd K.t i).kids;rw[ha];simp);obtain⟨a,rfl⟩:∃a':Nat,a=a':=⟨a.toNat,by omega⟩;have DD:JG K.t i 0=a:=by unfold JG;rw[ha];rfl
    rw[DD]at q2 q3 q4|-;have hW:=ih a q2 (by omega) q3 q4;have CB:=Jd9 (t:=K.t) (i:=a) (by omega);have Uh:iz (nd K.t i).kids=[[.int .i64 (a:Int)]]:=by rw[ha];rfl
    rcases (show (nd K.t i).k=62\/(nd K.t i).k=63 by omega) with hk|hk
    ·rw[if_neg SB,if_neg Uy,if_pos hk];simp -implicitDefEqProofs only[c58,go_sem,hpF,fRow,Jb,hg,Nd.cv,hk,Uh,Gm,beq_self_eq_true,show ((62:Int) == 60)=false from rfl,show ((62:Int) == 61)=false from rfl,Gc,Gf]
     repeat refine anO ?_
     refine Ku hW (.inl rfl) rfl rfl rfl rfl ?_;simp -implicitDefEqProofs only[go_sem];refine JV (typArray _ (by omega)) ?_;simp -implicitDefEqProofs only[go_sem];exact .out (wk.refl _) rfl
    ·rw[if_neg SB,if_neg Uy,iN7];simp -implicitDefEqProofs only[c58,go_sem,hpF,fRow,Jb,hg,Nd.cv,hk,Uh,Gm,show ((63:Int) == 60)=false from rfl,show ((63:Int) == 61)=false from rfl,show ((63:Int) == 62)=false from rfl,Gc,Gf]
     repeat refine anO ?_
     refine Ku hW (.inl rfl) rfl rfl rfl rfl ?_;simp -implicitDefEqProofs only[go_sem];refine JV (Jd6 _ (by omega)) ?_;simp -implicitDefEqProofs only[go_sem];exact .out (wk.refl _) rfl
end
section
variable {K:FT0}{Z:FS}
def areQ (got:List TL)(w:List UInt8)(k:Int):Bool:=match Ke (Ju got k.toNat) with
 |none=>false
 |some a=>tyT a == w
theorem areB_eq {got:List TL}{w:List UInt8}{ks:List Int}:areB got w ks = !ks.any λk=>!areQ got w k:=by
 rw[List.not_any_eq_all_not];simp only[Bool.not_not];rfl
theorem fmAre1 {E:Env}{w:List UInt8}{X:List CObj}{i:Nat}(hi:i<K.t.nodes.length)(hl:Z.got.length=K.t.nodes.length):Pure Ga E 151 [.int .i64 (i:Int),.ptr 5 0 0,.ptr 6 0 0] (hpF K Z (.arr 1 [[.ptr 0 0 0]] :: .arr 1 [[S w]]::X)) (.bool (!areQ Z.got w (i:Int))):=by
 have hO:=fmOne hi hl;refine Kc c151_ok λN=>?_
 unfold areQ;rw[Gi];simp -implicitDefEqProofs only[c151,go_sem,hpF];refine Ku hO (.inl rfl) rfl rfl rfl rfl ?_
 cases Ke (Ju Z.got i) with
 |none=>
  simp -implicitDefEqProofs only[go_sem,opT,GZ,hpF]
 |some a=>
  simp -implicitDefEqProofs only[go_sem,opT,GY,hpF]
theorem fmAre {w:List UInt8}{ks:List Int}(hl:Z.got.length=K.t.nodes.length)(hk:∀k∈ks,0<=k/\k<K.t.nodes.length)(hn:ks.length<=1000):FMe Ga 122 [S w,.rslc 1 (iz ks) none] K Z Z (.bool (areB Z.got w ks)):=by
 have hC:∀X,Pure Ga Env.none 152 [.rslc 1 (iz ks) none,.fn 151 [] [.ptr 5 0 0,.ptr 6 0 0]] (hpF K Z (.arr 1 [[.ptr 0 0 0]] :: .arr 1 [[S w]]::X)) (.bool (ks.any λk=>!areQ Z.got w k)):=λX=>
  containsFP ks _ c151_ok (λp hp=>by
   obtain⟨i,rfl⟩:∃i:Nat,p=i:=⟨p.toNat,by have:=(hk p hp).1;omega⟩;exact fmAre1 (by have:=(hk _ hp).2;omega) hl) (by omega)
 refine J8 (Kc c122_ok λN=>?_);rw[areB_eq];simp -implicitDefEqProofs only[c122,go_sem,hpF];refine vr_pc (.inl rfl) (hC []) ?_;simp -implicitDefEqProofs only[go_sem];exact .out (wk.refl _) rfl
theorem Jf2 {i:Nat}(hi:i<K.t.nodes.length)(hl:Z.got.length=K.t.nodes.length)(hf:X6 (Ju Z.got i)=true):FMe Ga 121 [.int .i64 (i:Int)] K Z Z (.tup [S (opT (prt (Ke (Ju Z.got i)))),.bool (isStr (Ke (Ju Z.got i)))]):=by
 have hO:=fmOne hi hl;have hI:=JdF (Ke (Ju Z.got i)) (by have:=JbT hf;omega);refine J8 (Kc c121_ok λN=>?_);simp -implicitDefEqProofs only[c121,go_sem,hpF];refine Ku hO (.inl rfl) rfl rfl rfl rfl ?_;simp -implicitDefEqProofs only[go_sem];refine JV hI ?_;rcases Ke (Ju Z.got i) with _|_|_|b|b
 all_goals
  simp -implicitDefEqProofs only[go_sem,innX,prt,opT,isStr,GZ,GY,wStr,wArr,beq_self_eq_true,show (([]:List UInt8) == [115,116,114,101,97,109])=false from rfl,show (([91,93]:List UInt8) == [115,116,114,101,97,109])=false from rfl];exact .out (wk.refl _) rfl
theorem fmArrayed {i:Nat}(hi:i<K.t.nodes.length)(hl:Z.got.length=K.t.nodes.length)(hf:X6 (Ju Z.got i)=true):FMe Ga 123 [.int .i64 (i:Int)] K Z Z (.tup [S (opT (prt (Ke (Ju Z.got i)))),.bool (Jc9 (Ke (Ju Z.got i)))]):=by
 have hO:=fmOne hi hl;have hI:=JdF (Ke (Ju Z.got i)) (by have:=JbT hf;omega);refine J8 (Kc c123_ok λN=>?_);simp -implicitDefEqProofs only[c123,go_sem,hpF];refine Ku hO (.inl rfl) rfl rfl rfl rfl ?_;simp -implicitDefEqProofs only[go_sem];refine JV hI ?_;rcases Ke (Ju Z.got i) with _|_|_|b|b
 all_goals
  simp -implicitDefEqProofs only[go_sem,innX,prt,opT,Jc9,GZ,GY,wStr,wArr,beq_self_eq_true,show (([]:List UInt8) == [91,93])=false from rfl,show (([115,116,114,101,97,109]:List UInt8) == [91,93])=false from rfl];exact .out (wk.refl _) rfl
end
end
section
section
variable {k:Nat}{ks:List Int}{n:Nat}{K L:Nat->TL}{ty:TyX}{sp sr si gm:TL}
theorem rk_cons:JI 4 ks n K L ty sp sr si gm=if (isStr (Ke (K 1)) && K 0 == [(prt (Ke (K 1))).getD .int])=true then some [.str ((prt (Ke (K 1))).getD .int)] else none:=by
 rcases h:K 1 with _|⟨a,_|⟨b,l⟩⟩
 ·simp[JI,h,Ke,isStr]
 ·cases a <;> simp[JI,h,Ke,isStr,prt]
 ·simp[JI,h,Ke,isStr]
theorem rk_or (hk:k=5\/k=6):JI k ks n K L ty sp sr si gm=if (K 0 == [.bool] && K 1 == [.bool])=true then some [.bool] else none:=by
 rcases hk with rfl|rfl <;> simp[JI]
theorem rk_eq (hk:k=7\/k=8):JI k ks n K L ty sp sr si gm=if (K 0 == [.int] && K 1 == [.int] || K 0 == [.bool] && K 1 == [.bool])=true then some [.bool] else none:=by
 rcases hk with rfl|rfl <;> simp[JI]
theorem rk_lt (hk:9<=k/\k<=12):JI k ks n K L ty sp sr si gm=if (K 0 == [.int] && K 1 == [.int])=true then some [.bool] else none:=by
 rcases (show k=9\/k=10\/k=11\/k=12 by omega) with rfl|rfl|rfl|rfl <;> simp[JI]
theorem rk_add (hk:13<=k/\k<=17):JI k ks n K L ty sp sr si gm=if (K 0 == [.int] && K 1 == [.int])=true then some [.int] else none:=by
 rcases (show k=13\/k=14\/k=15\/k=16\/k=17 by omega) with rfl|rfl|rfl|rfl|rfl <;> simp[JI]
theorem rk_read:JI 18 ks n K L ty sp sr si gm=if (Jc9 (Ke (K 0)) && K 1 == [.int])=true then some [(prt (Ke (K 0))).getD .int] else none:=by
 rcases h:K 0 with _|⟨a,_|⟨b,l⟩⟩
 ·simp[JI,h,Ke,Jc9]
 ·cases a <;> simp[JI,h,Ke,Jc9,prt]
 ·simp[JI,h,Ke,Jc9]
theorem rk_not:JI 19 ks n K L ty sp sr si gm=if (K 0 == [.bool])=true then some [.bool] else none:=by simp[JI]
theorem rk_neg:JI 20 ks n K L ty sp sr si gm=if (K 0 == [.int])=true then some [.int] else none:=by simp[JI]
theorem rk_head:JI 21 ks n K L ty sp sr si gm=if isStr (Ke (K 0))=true then some [(prt (Ke (K 0))).getD .int] else none:=by
 rcases h:K 0 with _|⟨a,_|⟨b,l⟩⟩
 ·simp[JI,h,Ke,isStr]
 ·cases a <;> simp[JI,h,Ke,isStr,prt]
 ·simp[JI,h,Ke,isStr]
theorem rk_tail:JI 22 ks n K L ty sp sr si gm=if isStr (Ke (K 0))=true then some (K 0) else none:=by
 rcases h:K 0 with _|⟨a,_|⟨b,l⟩⟩
 ·simp[JI,h,Ke,isStr]
 ·cases a <;> simp[JI,h,Ke,isStr]
 ·simp[JI,h,Ke,isStr]
theorem JgJ:JI 23 ks n K L ty sp sr si gm=if isStr (Ke (K 0))=true then some [.bool] else none:=by
 rcases h:K 0 with _|⟨a,_|⟨b,l⟩⟩
 ·simp[JI,h,Ke,isStr]
 ·cases a <;> simp[JI,h,Ke,isStr]
 ·simp[JI,h,Ke,isStr]
theorem rk_size:JI 24 ks n K L ty sp sr si gm=if Jc9 (Ke (K 0))=true then some [.int] else none:=by
 rcases h:K 0 with _|⟨a,_|⟨b,l⟩⟩
 ·simp[JI,h,Ke,Jc9]
 ·cases a <;> simp[JI,h,Ke,Jc9]
 ·simp[JI,h,Ke,Jc9]
theorem rk_nil:JI 25 ks n K L ty sp sr si gm=some [.str ty]:=rfl
theorem rk_call:JI 26 ks n K L ty sp sr si gm=if ks.length=sp.length/\∀j,j<ks.length->K j=[sp.getD j .int] then some sr else none:=rfl
theorem rk_if:JI 27 ks n K L ty sp sr si gm=if (K 0 == [.bool] && K 1 == K 2)=true then some (K 1) else none:=by simp[JI]
theorem rk_loop:JI 28 ks n K L ty sp sr si gm=if (K n == [.bool])=true then some (K (ks.length-1)) else none:=by simp[JI]
theorem JgL:JI 29 ks n K L ty sp sr si gm=if (Ke (L 1)).isSome=true/\((Gg (ks.length-1)).all λj=>L (j+1) == [(Ke (L 1)).getD .int])=true/\K 0=[.int] then some [.arr ((Ke (L 1)).getD .int)] else none:=by
 rcases h:L 1 with _|⟨a,_|⟨b,l⟩⟩
 ·simp[JI,h,Ke]
 ·simp[JI,h,Ke]
 ·simp[JI,h,Ke]
theorem rk_block:JI 40 ks n K L ty sp sr si gm=Yt ((Gg (ks.length-n)).map λj=>K (n+j)):=rfl
theorem rk_give:JI 45 ks n K L ty sp sr si gm=Yt ((Gg ks.length).map K):=rfl
theorem JgK:JI 42 ks n K L ty sp sr si gm=if ks=[] then some [] else some [ty]:=rfl
theorem rk_param:JI 64 ks n K L ty sp sr si gm=some [ty]:=rfl
theorem rk_init:JI 43 ks n K L ty sp sr si gm=if (Ke (K 0)).isSome=true then some [(Ke (K 0)).getD .int] else none:=by
 rcases h:K 0 with _|⟨a,_|⟨b,l⟩⟩ <;> simp[JI,h,Ke]
theorem rk_next:JI 44 ks n K L ty sp sr si gm=if ((Ke gm).isSome && K 0 == [(Ke gm).getD .int])=true then some [] else none:=by
 rcases gm with _|⟨a,_|⟨b,l⟩⟩ <;> simp[JI,Ke]
theorem rk_def:JI 65 ks n K L ty sp sr si gm=if (K (ks.length-1) == si)=true then some [] else none:=by simp[JI]
theorem rk_else (hk:29<k)(h:k≠40/\k≠45/\k≠42/\k≠64/\k≠43/\k≠44/\k≠47/\k≠65):JI k ks n K L ty sp sr si gm=some []:=by
 obtain⟨h1,h2,h3,h4,h5,h6,h7,h8⟩:=h;unfold JI
 repeat rw[iN7]
end
end
section
def upZ (t:Tr)(i:Nat):List Int:=(upTo t i).map λx=>if x<0 then 0 else x
def fiZ (t:Tr)(o:List Int)(i:Nat):List Int:=(Gg t.nodes.length).map λ(j:Nat)=>if j<i then fs o (j:Int) else 0
def fiS (o:List Int)(i:Nat)(ks:List Int)(s:Nat):Int:=if s=0 then i else fs o (ks.reverse.getD (s-1) 0)
theorem JcP {t:Tr}{i:Nat}:(upZ t i).length=t.nodes.length:=by simp[upZ,YG]
theorem Ja4 {t:Tr}{o:List Int}{i:Nat}:(fiZ t o i).length=t.nodes.length:=by simp[fiZ]
theorem fiZ_get {t:Tr}{o:List Int}{i j:Nat}(h:j<i)(hj:j<t.nodes.length):(fiZ t o i).getD j 0=fs o (j:Int):=by
 simp[fiZ,Gb,hj,h]
theorem fiZ_zero {t:Tr}{o:List Int}:fiZ t o 0=Hg t.nodes.length 0:=by
 refine La (by simp[fiZ]) λj h1 h2=>?_
 simp[fiZ]
section
variable {t:Tr}{o:List Int}(g:GoodT t o)
include g
theorem upZ_zero:upZ t 0=Hg t.nodes.length 0:=by
 unfold upZ;rw[upTo_zero g,List.map_replicate];rfl
theorem upZ_succ {i:Nat}(hi:i<t.nodes.length):upZ t (i+1)=Xt i (upZ t i) (nd t i).kids.reverse:=by
 refine H7 λj=>?_
 have hk:∀k∈(nd t i).kids,0<=k:=λk hk=>(g.kid hi hk).1
 rw[Jbm _ _ _ λk h=>hk k (by simpa using h),JcP];unfold upZ;rw[upTo_succ g hi,GD,Jbm _ _ _ hk,YG,GD];simp only[List.mem_reverse]
 split
 ·simp;omega
 ·rfl
theorem up_kid {i:Nat}(hi:i<t.nodes.length){k:Nat}(hk:(k:Int)∈(nd t i).kids):(upZ t t.nodes.length).getD k 0=i:=by
 have h1:=JR g hi hk;unfold upZ;rw[upTo_all g,upT,GK,Gb,GD,Gt (by omega)];simp only[Hw,GH,Function.comp,h1.1];rw[iN7]
theorem fs_kid {i:Nat}(hi:i<t.nodes.length):fs o (i:Int)=fiS o i (nd t i).kids (nd t i).kids.length:=by
 have hc:=g.ord.kids (Kg hi);change chain o o.length (fs o i) (nd t i).kids i at hc;unfold fiS;generalize (nd t i).kids=ks at hc
 cases ks with
 |nil=>exact hc
 |cons k l=>
  obtain⟨⟨_,_,h⟩,_⟩:=hc;rw[if_neg (by simp),Gc,Nat.add_sub_cancel,List.reverse_cons,Gb,GM (by simp)];simp only[List.length_reverse,Lp,Hz,GH];exact h.symm
theorem fiZ_succ {i:Nat}(hi:i<t.nodes.length):(fiZ t o i).set i (fiS o i (nd t i).kids (nd t i).kids.length)=fiZ t o (i+1):=by
 rw[<-fs_kid g hi];refine La (by simp[fiZ]) λj h1 h2=>?_
 rw[G9];simp only[fiZ,List.getElem_map,G8];by_cases h:i=j
 ·subst h;rw[if_pos rfl,iP7]
 ·rw[if_neg h];by_cases h3:j<i
  ·rw[if_pos h3,iP7]
  ·rw[if_neg h3,iN7]
end
end
section
theorem Yh {l:TL}{a:TyX}:txz (l++[a])=txz l++[[S (tyT a)]]:=by simp[txz]
theorem txz_nil:txz []=[]:=rfl
def ndA (x:Nd)(n:Int):List CV:=[.int .u8 (x.k:Int),S x.text,.int .i64 n,.rslc 1 (iz x.kids) none,.int .i64 x.pl]
theorem Jeb {l:List Int}{a:Nat}:(iz l).take a=iz (l.take a):=by simp[iz]
theorem drop_iz {l:List Int}{a:Nat}:(iz l).drop a=iz (l.drop a):=by simp[iz]
theorem J2 {t:Tr}{o:List Int}(g:GoodT t o){i j:Nat}(hi:i<t.nodes.length)(hj:j<(nd t i).kids.length):(nd t i).kids.getD j 0=(JG t i j:Int):=by
 have hx:(nd t i).kids.getD j 0∈(nd t i).kids:=by
  have:(nd t i).kids.getD j 0=(nd t i).kids[j]:=by rw[Gb,Gh hj];rfl
  rw[this];exact GG hj
 have:=g.kid hi hx;have e:JG t i j=((nd t i).kids.getD j 0).toNat:=rfl;omega
theorem JfR {t:Tr}{o:List Int}(g:GoodT t o){i:Nat}(hi:i<t.nodes.length)(hl:(nd t i).kids.length=1):(nd t i).kids=[(JG t i 0:Int)]:=by
 rw[<-J2 g hi (by omega)]
 match h:(nd t i).kids,hl with
 |[e],_=>rfl
section
variable {K:FT0}{Z:FS}
theorem Qd {X:List CObj}{ρ:List Nat}{Y:List CObj}(h:(ρ.map λid=>XM (0::1::2::3::4::ρ) ((hpF K Z X).getD id .dead))=Y):Kq (0::1::2::3::4::ρ) (hpF K Z X)=hpF K Z Y:=by rw[ren_hp,h]
theorem Jb9 {l:TL}:List.take l.length (l.map λa=>[S (tyT a)])=l.map λa=>[S (tyT a)]:=Gz (by simp)
theorem fnl_two {l m:TL}{o:CObj}:Fnl 5 (.tup [txV l,txV m]) (hpF K Z []) (.tup [Qg 6 (txz l),Qg 7 (txz m)]) (hpF K Z [o,Q7 1 (txz l),Q7 1 (txz m)]):=by
 rcases l with _|⟨x,l⟩ <;> rcases m with _|⟨y,m⟩
 ·exact .out (YW ⟨wk.nils,wk.nils,trivial⟩) rfl
 ·refine .one 2 rfl (KR (y::m)) ?_ ?_
  ·simp[frz,JY,Qg,txz,CV.closed,Jm]
  ·simp[frz,JY,Qg,txz,txV,Jb9];exact YW ⟨wk.nils,wks.refl _⟩
 ·refine .one 1 rfl (KR (x::l)) ?_ ?_
  ·simp[frz,JY,Qg,txz,CV.closed,Jm]
  ·simp[frz,JY,Qg,txz,txV,Jb9];exact YW ⟨wk.refl _,wk.nils,trivial⟩
 ·refine .more 1 rfl (KR (x::l)) ?_;have e:((txz (y::m)).map (JY (1+5) 1 (txz (x::l))))=txz (y::m):=JO (KR _);refine .one 2 (by simp only[Gd,Gj,GA,Gv];exact congrArg (λq=>some (CObj.arr 1 q)) e) (KR (y::m)) ?_ ?_
  ·simp[frz,JY,Qg,txz,CV.closed,Jm]
  ·simp[frz,JY,Qg,txz,txV,Jb9];exact wk.refl _
variable {o:List Int}(g:GoodT K.t o)(ht:K.t.Fit)
include g ht
theorem fmSign {d:Nat}(hd:d<K.t.nodes.length)(hk:(nd K.t d).k=65):FMe Ga 33 [.int .i64 (d:Int)] K Z Z (.tup [txV (JaF K.t d),txV (YA K.t d)]):=by
 have Aj:=g.many;have hg:=J3 hd;have BK:=(JeS ht hd).kidn;obtain⟨a,a1,a2,a3,a4,a5⟩:=Jhu g hd hk;change (nd K.t d).n=a at a1;change a<(nd K.t d).kids.length at a2;have Aw:(iz (nd K.t d).kids).length=(nd K.t d).kids.length:=Jg;have iG:(JaF K.t d).length=a:=by unfold JaF;simp[a1]
 have Us:(YA K.t d).length=(nd K.t d).kids.length-1-a:=by unfold YA;simp[a1]
 refine J8 (Kc c33_ok λN=>?_);simp -implicitDefEqProofs only[c33,go_sem,hpF,fRow,Jb,hg,Nd.cv,a1]
 repeat refine And.intro (by first|omega|exact⟨by omega,by omega⟩|(simp;done)) ?_
 refine JcM (K:=K) (Z:=Z) (X:=[.arr 5 [ndA (nd K.t d) a]]) 0 rfl rfl rfl ?_;simp only[go_sem,JY,frz,Gd,Gj,Qc,Gv,ndA,Gx,if_true,Gu,GI,List.drop_succ_cons];refine Yn ?_;simp only[go_sem,hpF,Ha,He,Nat.sub_zero,Jeb];have iH:∀j,j<a->∃c:Nat,(nd K.t d).kids.getD j 0=c/\c<K.t.nodes.length/\(nd K.t c).k=64/\∃e:Nat,(nd K.t c).kids=[(e:Int)]/\e<K.t.nodes.length/\60<=(nd K.t e).k/\(nd K.t e).k<=63/\(JaF K.t d).getD j .int=tyN K.t e:=λj hj=>by
  have h1:=Jz g hd (i:=j) (by omega);have CO:(nd K.t (JG K.t d j)).k=64:=by rw[h1.2.2];exact a3 j hj
  obtain⟨q1,q2,q3,q4⟩:=Jcq g (i:=JG K.t d j) (by omega) (.inr (.inl ⟨by omega,by omega⟩));have hl:=Qz g (i:=JG K.t d j) (by omega) (.inr (.inr (.inr ⟨by omega,by omega⟩)));have hs:(JaF K.t d).getD j .int=tyN K.t (JG K.t (JG K.t d j) 0):=by
   unfold JaF;rw[a1,Gi,Gb,GD,Gt hj];rfl
  have hc:=J2 g hd (j:=j) (by omega);exact⟨JG K.t d j,hc,by omega,CO,JG K.t (JG K.t d j) 0,JfR g (by omega) hl,by omega,q3,q4,hs⟩
 have iE:∀j,j<(nd K.t d).kids.length-1-a->∃c:Nat,(nd K.t d).kids.getD (a+j) 0=c/\c<K.t.nodes.length/\60<=(nd K.t c).k/\(nd K.t c).k<=63/\(YA K.t d).getD j .int=tyN K.t c:=λj hj=>by
  have h1:=Jz g hd (i:=a+j) (by omega);have h6:=a4 (a+j) (by omega) (by change a+j+1<(nd K.t d).kids.length;omega);have e:(nd K.t (JG K.t d (a+j))).k=Jt K.t.nodes ((K.t.nodes.getD d default).kids.getD (a+j) 0):=h1.2.2;have hs:(YA K.t d).getD j .int=tyN K.t (JG K.t d (a+j)):=by
   unfold YA;rw[a1,Gi,Gb,GD,Gt hj];rfl
  have hc:=J2 g hd (j:=a+j) (by omega);exact⟨_,hc,by omega,by omega,by omega,hs⟩
 refine Jv (I:=λj:Nat=>j<=a) (inv:=λj=>gp [(0,.ptr 0 0 0),(3,Qg 6 (txz ((JaF K.t d).take j))),(0,.nils),(0,.rptr (ndA (nd K.t d) a)),(16,.rslc 1 (iz ((nd K.t d).kids.take a)) none),(0,.int .i64 (a:Int)),(0,.int .i64 (j:Int))] 43) (hp:=λj=>hpF K Z [.dead,Q7 1 (txz ((JaF K.t d).take j))]) (μ:=λj=>a-j) 0 [0,1,2,3,4,5,6] (by omega) rfl ?_ ?_ ?_
 ·have Af:(iz ((nd K.t d).kids.take a)).length=a:=by rw[Jg,Gw];omega
  simp[forget,JB,ren,Jn,gp,ndA,txz,Qg,Af]
 ·exact Qd (K:=K) (Z:=Z) (X:=[.dead,.dead]) rfl
 ·intro j hj;by_cases Ab:j<a
  ·have d1:=dtT j a;obtain⟨c,c1,c2,c3,e,c4,c5,c6,c7,c8⟩:=iH j Ab;have BD:(iz ((nd K.t d).kids.take a)).getD j []=[.int .i64 (c:Int)]:=by
    rw[JH (by rw[Gw];omega),Gb,Hy Ab,<-Gb,c1]
   have Af:(iz ((nd K.t d).kids.take a)).length=a:=by rw[Jg,Gw];omega
   have EU:=J3 c2;have Uh:iz (nd K.t c).kids=[[.int .i64 (e:Int)]]:=by rw[c4];rfl
   simp -implicitDefEqProofs only[go_sem,hpF,fRow,d1,BD,Af,Jb,EU,Nd.cv,Uh,Gc,Gf]
   repeat refine And.intro (by first|omega|exact⟨by omega,by omega⟩|(simp;done)) ?_
   refine Ku (XF g e c5 c6 c7) (.inl rfl) rfl rfl rfl rfl ?_;simp -implicitDefEqProofs only[go_sem,hpF];rw[<-c8];have AO:(JaF K.t d).take (j+1)=(JaF K.t d).take j++[(JaF K.t d).getD j .int]:=takeT (by omega);have Dn:(txz ((JaF K.t d).take j)).length=j:=by rw[QO,Gw];omega
   refine⟨by rw[Dn];unfold Jy;simp[Cond.holds];omega,Jh,j+1,[0,1,2,3,4,5,8],by omega,by omega,rfl,?_,?_⟩
   ·rw[AO,Yh,KA];exact Qd (K:=K) (Z:=Z) (X:=[.dead,.dead,.arr 1 [[S (tyT ((JaF K.t d).getD j .int))]],.arr 1 (txz ((JaF K.t d).take j)++[[S (tyT ((JaF K.t d).getD j .int))]])]) (by
     have:(txz ((JaF K.t d).take j)++[[S (tyT ((JaF K.t d).getD j .int))]]).map (JB [0,1,2,3,4,5,8])=_:=Jc (by rw[<-Yh];exact KR _);simp only[Gd,Gj,hpF,GQ,Gu,Jk,Jo,this])
   ·rw[AO,Yh,Kz];simp[forget,JB,ren,Jn,ndA]
  ·have d1:=dfF j a;obtain rfl:j=a:=by omega
   rw[Gz (Hu iG)];simp -implicitDefEqProofs only[go_sem,hpF,fRow,d1,ndA,Aw];refine⟨Jh,⟨by omega,by omega,by omega⟩,?_⟩;refine Yn ?_;simp only[go_sem,Ha,He,Jeb,drop_iz];generalize hm:(nd K.t d).kids.length-1-j=m at *;have Af:(iz (((nd K.t d).kids.drop j).take m)).length=m:=by rw[Jg,Gw,GU];omega
   refine Jv (I:=λi:Nat=>i<=m) (inv:=λi=>gp [(0,.ptr 0 0 0),(3,Qg 6 (txz (JaF K.t d))),(0,Qg 7 (txz ((YA K.t d).take i))),(48,.rslc 1 (iz (((nd K.t d).kids.drop j).take m)) none),(0,.int .i64 (m:Int)),(0,.int .i64 (i:Int))] 12) (hp:=λi=>hpF K Z [.dead,Q7 1 (txz (JaF K.t d)),Q7 1 (txz ((YA K.t d).take i))]) (μ:=λi=>m-i) 0 [0,1,2,3,4,5,6,7] (by omega) rfl ?_ ?_ ?_
   ·have r6:ren [0,1,2,3,4,5,6,7] (Qg 6 (txz (JaF K.t d)))=Qg 6 (txz (JaF K.t d)):=Qx rfl;simp only[GV,txz_nil,XV];simp[forget,JB,ren,Jn,gp,Af,r6]
   ·have r6:XM [0,1,2,3,4,5,6,7] (Q7 1 (txz (JaF K.t d)))=Q7 1 (txz (JaF K.t d)):=Qk (Jc (KR _));exact Qd (K:=K) (Z:=Z) (X:=[.dead,Q7 1 (txz (JaF K.t d)),.dead]) (by simp only[Gd,Gj,hpF,GQ,Gu,Jk,r6];rfl)
   ·intro i hi;by_cases Ab:i<m
    ·have d2:=dtT i m;obtain⟨c,c1,c2,c3,c4,c5⟩:=iE i Ab;have Ar:(iz (((nd K.t d).kids.drop j).take m)).getD i []=[.int .i64 (c:Int)]:=by
      rw[JH (by rw[Gw,GU];omega),Gb,Hy Ab,H5,<-Gb,c1]
     simp -implicitDefEqProofs only[go_sem,hpF,fRow,d2,Ar,Af]
     repeat refine And.intro (by first|omega|exact⟨by omega,by omega⟩|(simp;done)) ?_
     refine Ku (XF g c c2 c3 c4) (.inl rfl) rfl rfl rfl rfl ?_;simp -implicitDefEqProofs only[go_sem,hpF];rw[<-c5];have AO:(YA K.t d).take (i+1)=(YA K.t d).take i++[(YA K.t d).getD i .int]:=takeT (by omega);have Dn:(txz ((YA K.t d).take i)).length=i:=by rw[QO,Gw];omega
     have r6:XM [0,1,2,3,4,5,6,9] (Q7 1 (txz (JaF K.t d)))=Q7 1 (txz (JaF K.t d)):=Qk (Jc (KR _));have r7:ren [0,1,2,3,4,5,6,9] (Qg 6 (txz (JaF K.t d)))=Qg 6 (txz (JaF K.t d)):=Qx rfl;refine⟨by rw[Dn];unfold Jy;simp[Cond.holds];omega,Jh,i+1,[0,1,2,3,4,5,6,9],by omega,by omega,rfl,?_,?_⟩
     ·rw[AO,Yh,KA];exact Qd (K:=K) (Z:=Z) (X:=[.dead,Q7 1 (txz (JaF K.t d)),.dead,.arr 1 [[S (tyT ((YA K.t d).getD i .int))]],.arr 1 (txz ((YA K.t d).take i)++[[S (tyT ((YA K.t d).getD i .int))]])]) (by
       have:(txz ((YA K.t d).take i)++[[S (tyT ((YA K.t d).getD i .int))]]).map (JB [0,1,2,3,4,5,6,9])=_:=Jc (by rw[<-Yh];exact KR _);simp only[Gd,Gj,hpF,GQ,Gu,Jk,Jo,this,r6])
     ·rw[AO,Yh,Kz];simp[forget,JB,ren,Jn,r7]
    ·have d2:=dfF i m;obtain rfl:i=m:=by omega
     rw[Gz (Hu Us)];simp -implicitDefEqProofs only[go_sem,hpF,fRow,d2];exact fnl_two
end
def gvn (got:List TL)(ks:List Int):Option TL:=Yt (ks.map λk=>Ju got k.toNat)
def hdT (got:List TL)(ks:List Int):TL:=ks.map λk=>(Ju got k.toNat).headD .int
theorem gvn_one {got:List TL}{k:Int}:gvn got [k]=some (Ju got k.toNat):=rfl
theorem gvn_many {got:List TL}{ks:List Int}(h:ks.length≠1):gvn got ks=if ks.all (λk=>(Ju got k.toNat).length == 1)=true then some (hdT got ks) else none:=by
 unfold gvn Yt
 split
 ·rename_i l e;have:=congrArg Lh e;simp at this;exact absurd this h
 ·simp only[List.all_map,GK];rfl
theorem hdT_snoc {got:List TL}{ks:List Int}{j:Nat}(h:j<ks.length):hdT got (ks.take (j+1))=hdT got (ks.take j)++[(Ju got (ks.getD j 0).toNat).headD .int]:=by
 unfold hdT;rw[G5 h,List.map_append,Gb,Gh h];rfl
section
variable {K:FT0}{Z:FS}
theorem fmGiven {ks:List Int}(hl:Z.got.length=K.t.nodes.length)(hk:∀k∈ks,0<=k/\k<K.t.nodes.length)(hn:ks.length<=1000):∃x:CV,x.closed=true/\(∀l,gvn Z.got ks=some l->x=txV l)/\FMe Ga 127 [.rslc 1 (iz ks) none] K Z Z (.tup [x,.bool (gvn Z.got ks).isSome]):=by
 have Af:(iz ks).length=ks.length:=Jg;have A7:(gz Z.got).length=K.t.nodes.length:=by rw[X5,hl]
 by_cases h1:ks.length=1
 ·obtain⟨k,rfl⟩:∃k,ks=[k]:=by
   match ks,h1 with
   |[k],_=>exact⟨_,rfl⟩
  obtain⟨i,rfl⟩:∃i:Nat,k=i:=⟨k.toNat,by have:=(hk k (by simp)).1;omega⟩;have hi:i<K.t.nodes.length:=by have:=(hk (i:Int) (by simp)).2;omega
  have hg:=QW (l:=Z.got) (i:=i) (by omega);refine⟨txV (Ju Z.got i),rfl,λl h=>by rw[gvn_one]at h;cases h;rfl,?_⟩;refine J8 (Kc c127_ok λN=>?_);have d1:(((0+1:Nat):Int) == 1)=true:=rfl;simp -implicitDefEqProofs only[c127,go_sem,hpF,fRow,Kn,Xw,Gc,Gf,d1];refine JQ [0,0,0,1,0,0,0,1,1,0,0] Jp (by decide +kernel) ?_;simp -implicitDefEqProofs only[go_sem,hg,A7,Gc,Gf]
  repeat refine anO ?_
  exact .done (wk.refl _)
 ·have hm:=gvn_many (got:=Z.got) h1;have d1:((ks.length:Int) == 1)=false:=by simpa using (by omega:¬(ks.length:Int)=1)
  have Au:∀j,j<ks.length->∃i:Nat,ks.getD j 0=i/\i<K.t.nodes.length:=λj hj=>by
   have hm:=hk (ks.getD j 0) (by rw[Gb,Gh hj];exact GG hj);exact⟨(ks.getD j 0).toNat,by omega,by omega⟩
  obtain⟨x,b,Be,Bd,hb,BC⟩:∃(x:CV) (b:Bool),x.closed=true/\(∀l,gvn Z.got ks=some l->x=txV l)/\b=(gvn Z.got ks).isSome/\((ks.all (λk=>(Ju Z.got k.toNat).length == 1)=true/\x=txV (hdT Z.got ks)/\b=true)\/(ks.all (λk=>(Ju Z.got k.toNat).length == 1)=false/\x=.nils/\b=false)):=by
   cases Ak:ks.all (λk=>(Ju Z.got k.toNat).length == 1) with
   |true=>
    rw[Ak,if_pos rfl]at hm;rw[hm];exact⟨txV (hdT Z.got ks),true,rfl,λl h=>(by cases h;rfl),rfl,.inl ⟨rfl,rfl,rfl⟩⟩
   |false=>
    rw[Ak,if_neg (by decide)]at hm;rw[hm];exact⟨.nils,false,rfl,λl h=>(by cases h),rfl,.inr ⟨rfl,rfl,rfl⟩⟩
  refine⟨x,Be,Bd,?_⟩;rw[<-hb];clear hb Bd hm;refine J8 (Kc c127_ok λN=>?_);simp -implicitDefEqProofs only[c127,go_sem,hpF,fRow,Af,d1];refine Yn ?_;simp only[go_sem,Ha,He];refine Jv (I:=λj:Nat=>j<=ks.length/\(ks.take j).all (λk=>(Ju Z.got k.toNat).length == 1)=true) (inv:=λj=>gp [(0,.ptr 0 0 0),(3,Qg 5 (txz (hdT Z.got (ks.take j)))),(17,.rslc 1 (iz ks) none),(0,.int .i64 (ks.length:Int)),(0,.int .i64 (j:Int))] 17) (hp:=λj=>hpF K Z [Q7 1 (txz (hdT Z.got (ks.take j)))]) (μ:=λj=>ks.length-j) 0 [0,1,2,3,4,5] ⟨by omega,rfl⟩ rfl ?_ ?_ ?_
  ·simp[forget,JB,ren,Jn,gp,hdT,txz,Qg]
  ·exact Qd (K:=K) (Z:=Z) (X:=[.dead]) rfl
  ·rintro j ⟨hj,Bl⟩;by_cases Ab:j<ks.length
   ·have d2:=dtT j ks.length;obtain⟨i,e1,e2⟩:=Au j Ab;have BD:=JH Ab;by_cases Bo:(Ju Z.got i).length=1
    case neg=>
     have hO:=fmOne (Z:=Z) e2 hl;rw[oneO_none Bo]at hO;rw[e1]at BD;rcases BC with ⟨Ak,_⟩|⟨_,rfl,rfl⟩
     ·have:=Hd.1 Ak (ks.getD j 0) (by rw[Gb,Gh Ab];exact GG Ab);rw[e1,Gi]at this;exact absurd (by simpa using this) Bo
     simp -implicitDefEqProofs only[go_sem,hpF,fRow,d2,BD,Af]
     repeat refine anO ?_
     refine Ku hO (.inl rfl) rfl rfl rfl rfl ?_;simp -implicitDefEqProofs only[go_sem,hpF,opT,GZ];exact .out (wk.refl _) rfl
    obtain⟨a,ha⟩:∃a,Ju Z.got i=[a]:=by
     match h:Ju Z.got i,Bo with
     |[a],_=>exact⟨_,rfl⟩
    have Rk:(ks.take (j+1)).all (λk=>(Ju Z.got k.toNat).length == 1)=true:=by
     rw[G5 Ab,Le,Bl,GX];have e3:ks[j]=(i:Int):=by rw[<-e1,Gb,Gh Ab];rfl
     simp[e3,Bo]
    have hO:=fmOne (Z:=Z) e2 hl;rw[ha]at hO;have AO:=hdT_snoc (got:=Z.got) Ab;rw[e1,Gi,ha]at AO;rw[e1]at BD;have Dn:(txz (hdT Z.got (ks.take j))).length=j:=by rw[QO];simp[hdT];omega
    simp -implicitDefEqProofs only[go_sem,hpF,fRow,d2,BD,Af]
    repeat refine anO ?_
    refine Ku hO (.inl rfl) rfl rfl rfl rfl ?_;simp -implicitDefEqProofs only[go_sem,hpF,Ke,opT,GY];refine⟨by rw[Dn];unfold Jy;simp[Cond.holds];omega,Jh,j+1,[0,1,2,3,4,7],⟨by omega,Rk⟩,by omega,rfl,?_,?_⟩
    ·rw[AO];simp only[Ld];rw[Yh,KA];exact Qd (K:=K) (Z:=Z) (X:=[.dead,.arr 1 [[S (tyT a)]],.arr 1 (txz (hdT Z.got (ks.take j))++[[S (tyT a)]])]) (by
      have:(txz (hdT Z.got (ks.take j))++[[S (tyT a)]]).map (JB [0,1,2,3,4,7])=_:=Jc (by rw[<-Yh];exact KR _);simp only[Gd,Gj,hpF,GQ,Gu,Jo,this])
    ·rw[AO];simp only[Ld];rw[Yh,Kz];simp[forget,JB,ren,Jn]
   ·have d2:=dfF j ks.length;obtain rfl:j=ks.length:=by omega
    rw[H8]at Bl|-;obtain⟨rfl,rfl⟩:x=txV (hdT Z.got ks)/\b=true:=by
     rcases BC with ⟨_,h1,h2⟩|⟨h1,_⟩
     ·exact⟨h1,h2⟩
     ·rw[Bl]at h1;cases h1
    simp -implicitDefEqProofs only[go_sem,hpF,fRow,d2];generalize hdT Z.got ks=l;rcases l with _|⟨x,l⟩
    ·exact .out (YW ⟨wk.nils,wk.refl _,trivial⟩) rfl
    ·refine .one 0 rfl (KR (x::l)) ?_ ?_
     ·simp[frz,JY,Qg,txz,CV.closed,Jm]
     ·simp[frz,JY,Qg,txz,txV,Jb9];exact wk.refl _
end
def Ans (K:FT0)(Z:FS)(f:Nat)(args:List CV)(r:Option TL):Prop:=∃x:CV,x.closed=true/\(∀l,r=some l->x=txV l)/\FMe Ga f args K Z Z (.tup [x,.bool r.isSome])
theorem JcJ {t:Tr}{o:List Int}(g:GoodT t o){got:List TL}{i j:Nat}(hi:i<t.nodes.length)(hj:j<(nd t i).kids.length){c:Int}(hc:(nd t i).kids.getD j 0=c):KK t got i j=Ju got c.toNat:=by
 unfold KK;rw[if_pos hj,<-hc,J2 g hi hj,Gi]
section
variable {K:FT0}{Z:FS}{o:List Int}(g:GoodT K.t o)(ht:K.t.Fit)
include g ht
theorem fmCall {i m:Nat}(hi:i<K.t.nodes.length)(hk:(nd K.t i).k=26)(Bb:K.of.length=K.t.nodes.length)(FP:K.of.getD i 0=(m:Int))(hm:m<K.t.nodes.length)(Cv:(nd K.t m).k=65)(hl:Z.got.length=K.t.nodes.length):Ans K Z 124 [.int .i64 (i:Int)] (Xa K.t m Z.got i):=by
 have Aj:=g.many;have hg:=J3 hi;have BK:=(JeS ht hi).kidn;have Af:(iz (nd K.t i).kids).length=(nd K.t i).kids.length:=Jg;have hS:=fmSign g ht (Z:=Z) hm Cv;have Oz:(iz K.of).getD i []=[.int .i64 (m:Int)]:=by rw[JH (by omega),FP]
 have Bp:(iz K.of).length=K.t.nodes.length:=by rw[Jg,Bb]
 rw[JL,hk,rk_call];generalize Ez:JaF K.t m=sp at *;generalize Ip:YA K.t m=sr at *;have PU:(txz sp).length=sp.length:=QO;have eH:sp.length<=30:=by
  rw[<-Ez];unfold JaF;simp;obtain⟨a,a1,a2,_⟩:=Jhu g hm Cv;change (nd K.t m).n=a at a1;change a<(nd K.t m).kids.length at a2;have:=(JeS ht hm).kidn;omega
 have EO:∀j,j<(nd K.t i).kids.length->∃c:Nat,(nd K.t i).kids.getD j 0=c/\c<K.t.nodes.length/\KK K.t Z.got i j=Ju Z.got c:=λj hj=>by
  have h1:=Jz g hi (i:=j) hj;exact⟨_,J2 g hi hj,by omega,by rw[JcJ g hi hj (J2 g hi hj),Gi]⟩
 obtain⟨x,b,Be,Bd,hb,BC⟩:∃(x:CV) (b:Bool),x.closed=true/\(∀l,(if (nd K.t i).kids.length=sp.length/\∀j,j<(nd K.t i).kids.length->KK K.t Z.got i j=[sp.getD j .int] then some sr else none)=some l->x=txV l)/\b=(if (nd K.t i).kids.length=sp.length/\∀j,j<(nd K.t i).kids.length->KK K.t Z.got i j=[sp.getD j .int] then some sr else none:Option TL).isSome/\(((nd K.t i).kids.length=sp.length/\(∀j,j<(nd K.t i).kids.length->KK K.t Z.got i j=[sp.getD j .int])/\x=txV sr/\b=true)\/(¬((nd K.t i).kids.length=sp.length/\∀j,j<(nd K.t i).kids.length->KK K.t Z.got i j=[sp.getD j .int])/\x=.nils/\b=false)):=by
  by_cases hc:(nd K.t i).kids.length=sp.length/\∀j,j<(nd K.t i).kids.length->KK K.t Z.got i j=[sp.getD j .int]
  ·rw[if_pos hc];exact⟨txV sr,true,rfl,λl h=>(by cases h;rfl),rfl,.inl ⟨hc.1,hc.2,rfl,rfl⟩⟩
  ·rw[if_neg hc];exact⟨.nils,false,rfl,λl h=>(by cases h),rfl,.inr ⟨hc,rfl,rfl⟩⟩
 refine⟨x,Be,Bd,?_⟩;rw[<-hb];clear hb Bd;refine J8 (Kc c124_ok λN=>?_);simp -implicitDefEqProofs only[c124,go_sem,hpF,fRow,Oz,Bp]
 repeat refine anO ?_
 refine Ku hS (.inl rfl) rfl rfl rfl rfl ?_;simp -implicitDefEqProofs only[go_sem,hpF,fRow,txV,Jb,hg,Nd.cv,Af,PU]
 repeat refine anO ?_
 by_cases Ad:(nd K.t i).kids.length=sp.length
 case neg=>
  have d1:(((nd K.t i).kids.length:Int) != (sp.length:Int))=true:=by simp;omega
  rcases BC with ⟨h,_⟩|⟨_,rfl,rfl⟩
  ·exact absurd h Ad
  simp -implicitDefEqProofs only[go_sem,d1];exact .out (wk.refl _) rfl
 have d1:(((nd K.t i).kids.length:Int) != (sp.length:Int))=false:=by simp[Ad]
 simp -implicitDefEqProofs only[go_sem,d1];refine Jv (I:=λj:Nat=>j<=sp.length/\∀q,q<j->KK K.t Z.got i q=[sp.getD q .int]) (inv:=λj=>gp [(0,.ptr 0 0 0),(6,txV sr),(0,.rslc 1 (iz (nd K.t i).kids) none),(28,txV sp),(0,.int .i64 (sp.length:Int)),(0,.int .i64 (j:Int))] 15) (hp:=λj=>hpF K Z []) (μ:=λj=>sp.length-j) 0 [0,1,2,3,4] ⟨by omega,λq h=>absurd h (by omega)⟩ rfl ?_ ?_ ?_
 ·simp[forget,JB,ren,Jn,gp,txV]
 ·exact Qd (K:=K) (Z:=Z) (X:=[]) rfl
 ·rintro j ⟨hj,Bl⟩;by_cases Ab:j<sp.length
  ·have d2:=dtT j sp.length;obtain⟨c,c1,c2,c3⟩:=EO j (by omega);have BD:=JH (l:=(nd K.t i).kids) (i:=j) (by omega);rw[c1]at BD;have DF:=Jaf Ab;have hA:=fmAre (w:=tyT (sp.getD j .int)) (ks:=[(c:Int)]) hl (by simp;omega) (by simp);rw[JaA,Gi,<-c3]at hA;simp -implicitDefEqProofs only[go_sem,hpF,fRow,d2,DF,BD,Af,PU,txV]
   repeat refine anO ?_
   refine JcM (K:=K) (Z:=Z) (X:=[.arr 1 [[.int .i64 (c:Int)]]]) 0 rfl rfl rfl ?_;simp only[go_sem,JY,frz,Gd,Gj,Qc,Gv,Gx,if_true,hpF,Gc,Gf,Gr,GI,G7,GV];refine Ku hA (.inl rfl) rfl rfl rfl rfl ?_;by_cases he:KK K.t Z.got i j=[sp.getD j .int]
   ·have e1:(KK K.t Z.got i j == [sp.getD j .int])=true:=by simpa using he
    simp -implicitDefEqProofs only[go_sem,hpF,e1];refine⟨Jh,j+1,[0,1,2,3,4],⟨by omega,λq hq=>?_⟩,by omega,rfl,?_,?_⟩
    ·by_cases BS:q=j
     ·subst BS;exact he
     ·exact Bl q (by omega)
    ·exact Qd (K:=K) (Z:=Z) (X:=[.dead]) rfl
    ·simp[forget,JB,ren,Jn]
   ·have e1:(KK K.t Z.got i j == [sp.getD j .int])=false:=by simpa using he
    rcases BC with ⟨_,h,_⟩|⟨_,rfl,rfl⟩
    ·exact absurd (h j (by omega)) he
    simp -implicitDefEqProofs only[go_sem,hpF,e1];exact .out (wk.refl _) rfl
  ·have d2:=dfF j sp.length;obtain rfl:j=sp.length:=by omega
   rcases BC with ⟨_,_,rfl,rfl⟩|⟨h,_⟩
   ·simp -implicitDefEqProofs only[go_sem,hpF,fRow,d2];exact .done (wk.refl _)
   ·exact absurd ⟨Ad,λq hq=>Bl q (by omega)⟩ h
end
end
section
section
variable {P:Program}{E:Env}{n0:Nat}{N:Fr}{Q:Exit->List CV->List CObj->Prop}{H H':List CObj}{T:List CV}{k:List KItem}{l:List IOper}{es:List (List Nat)}{bs:List Nat}
theorem vy_pv {d:Option Nat}{ge:Option (Nat×Bool)}{x:IArg}{f:Nat}{l1 l2:List CV}{xs:List IArg}{v:CV}{F:IFunc}(hg:GOk T ge) (hx:Ka T x=.fn f l1 l2) (hF:Je P f=some F) (EM:(P.funcs[f]?.map (·.name))≠some "runtime.NumGoroutine") (Ah:Pure P E f (l1++xs.map (Ka T)++l2) H v) (h:vdy P E n0 N Q k l bs (put T d v) H):vdyR P E n0 N Q none d (.callv x xs) ge 1 k l bs T H:=by
 refine⟨v,H,⟨λ_ _=>rfl,λT2 H2 ag Bd=>?_⟩,h⟩;have hH:H2=H:=YT λy=>Bd y trivial
 subst hH;have Bn:∃fn,P.funcs[f]? = some fn/\fn.body.isSome=true:=by
  unfold Je at hF
  split at hF
  ·rename_i fn Bn
   split at hF
   ·rename_i c hb;exact⟨fn,Bn,by rw[hb];rfl⟩
   ·cases hF
  ·cases hF
 obtain⟨fn,Bn,Dy⟩:=Bn;have ha:=(Jj ag).2;have e1:Ka T x=Ka T2 x:=Js (Jj ha).1;have e2:xs.map (Ka T)=xs.map (Ka T2):=Xy (Jj ha).2;exact⟨H2,λy hy=>(by cases hy),λ_ _=>rfl,λn0 N Q k l Ap=>JgV (R:=λv' H'=>v'=v/\H'=H2) (Yr ag hg) (by rw[<-e1];exact hx) Bn Dy (λe=>EM (by rw[Bn,<-e];rfl)) (by rw[<-e2];exact Ah) λv' H' ⟨h1,h2⟩=>by rw[h1,h2];exact Ap⟩
end
def allQ (t:Tr)(got:List TL)(i:Nat)(s:TyX)(j:Nat):Bool:=(Gg j).all λq=>Jcp t got i (q+1) == [s]
theorem allQ_succ {t:Tr}{got:List TL}{i j:Nat}{s:TyX}:allQ t got i s (j+1)=(allQ t got i s j && (Jcp t got i (j+1) == [s])):=by
 unfold allQ;rw[Lb,Le,Hl,Ho,Ht]
section
variable {K:FT0}{Z:FS}{o:List Int}(g:GoodT K.t o)(ht:K.t.Fit)
include g ht
theorem fmLast {E:Env}{X:List CObj}{u:Nat}(hu:u<K.t.nodes.length)(Ad:0<(nd K.t u).kids.length):Pure Ga E 153 [.int .i64 (u:Int),.ptr 5 0 0] (hpF K Z (.arr 1 [[.ptr 0 0 0]]::X)) (.int .i64 (Ji K.t u:Int)):=by
 have hg:=J3 hu;have Aw:(iz (nd K.t u).kids).length=(nd K.t u).kids.length:=Jg;have A7:=lastz g hu Ad;have BK:=(JeS ht hu).kidn;refine Kc c153_ok λN=>?_
 simp only[c153,go_sem,hpF,fRow,Jb,hg,Nd.cv,Aw,A7]
 repeat refine And.intro (by first|omega|exact⟨by omega,by omega⟩|exact Jh) ?_
 omega
omit ht in
theorem arr_two {i:Nat}(hi:i<K.t.nodes.length)(hk:(nd K.t i).k=29):2<=(nd K.t i).kids.length:=by
 have hn:=g.nds (nd K.t i) (by unfold nd;rw[Gb,Gh hi];exact GG hi);rw[ndI_R]at hn;simp only[GL]at hn;have h:=hn.2;unfold Qf at h;rw[hk]at h;simp[inI,Kv]at h;omega
theorem fmCells {i m:Nat}(hi:i<K.t.nodes.length)(hk:(nd K.t i).k=29)(hl:Z.got.length=K.t.nodes.length)(hf:∀j,X6 (Ju Z.got j)=true):Ans K Z 126 [.agg (nd K.t i).cv] (Xa K.t m Z.got i):=by
 have Aj:=g.many;have BK:=(JeS ht hi).kidn;have h2:=arr_two g hi hk;have Af:(iz (nd K.t i).kids).length=(nd K.t i).kids.length:=Jg;have EO:∀j,1<=j->j<(nd K.t i).kids.length->∃c e:Nat,(nd K.t i).kids.getD j 0=c/\c<K.t.nodes.length/\0<(nd K.t c).kids.length/\Ji K.t c=e/\e<K.t.nodes.length/\Jcp K.t Z.got i j=Ju Z.got e:=λj h1 hj=>by
  have hm:=Jz g hi (i:=j) hj;have hp:=part_kind g hi hk h1 hj;obtain⟨q1,q2,q3⟩:=part_last g (u:=JG K.t i j) (by omega) hp;exact⟨_,_,J2 g hi hj,by omega,q1,rfl,by omega,by unfold Jcp;rw[if_pos hj]⟩
 have FX:KK K.t Z.got i 0=Ju Z.got (JG K.t i 0):=by rw[JcJ g hi (by omega) (J2 g hi (by omega)),Gi]
 have jd:JG K.t i 0<K.t.nodes.length:=by have:=Jz g hi (i:=0) (by omega);omega
 obtain⟨c1,e1,p1,p2,p3,p4,p5,p6⟩:=EO 1 (by omega) (by omega);have hA:∀(w:List UInt8) (c:Nat),c<K.t.nodes.length->FMe Ga 122 [S w,.rslc 1 (iz [(c:Int)]) none] K Z Z (.bool (areB Z.got w [(c:Int)])):=λw c hc=>fmAre (w:=w) (ks:=[(c:Int)]) hl (by simp;omega) (by simp)
 have hO:=fmOne (Z:=Z) p5 hl;have jH:=JbT (hf e1);have hr:Xa K.t m Z.got i=if (Ke (Ju Z.got e1)).isSome=true/\allQ K.t Z.got i ((Ke (Ju Z.got e1)).getD .int) ((nd K.t i).kids.length-1)=true/\Ju Z.got (JG K.t i 0)=[.int] then some [.arr ((Ke (Ju Z.got e1)).getD .int)] else none:=by
  rw[JL,hk,JgL,p6,FX];rfl
 rw[hr];clear hr;generalize hs:Ke (Ju Z.got e1)=s at *;refine⟨.rslc 1 [[S (91::(opT s++[93]))]] none,rfl,λl h=>?_,?_⟩
 ·split at h
  ·rename_i hc
   cases h
   cases s with
   |none=>exact absurd hc.1 (by simp)
   |some a=>rfl
  ·cases h
 generalize hb:(if s.isSome=true/\allQ K.t Z.got i (s.getD .int) ((nd K.t i).kids.length-1)=true/\Ju Z.got (JG K.t i 0)=[.int] then some [TyX.arr (s.getD .int)] else none).isSome=b;have Cr:b=(s.isSome && allQ K.t Z.got i (s.getD .int) ((nd K.t i).kids.length-1) && (Ju Z.got (JG K.t i 0) == [TyX.int])):=by
  rw[<-hb]
  cases s.isSome <;> cases allQ K.t Z.got i (s.getD .int) ((nd K.t i).kids.length-1) <;> by_cases h:Ju Z.got (JG K.t i 0)=[TyX.int] <;> simp[h]
 clear hb;refine J8 (Kc c126_ok λN=>?_);simp only[c126,go_sem,hpF,fRow,Nd.cv];refine JcM (K:=K) (Z:=Z) (X:=[.arr 1 [[.ptr 0 0 0]],.arr 5 [(nd K.t i).cv]]) 1 rfl rfl rfl ?_;simp only[go_sem,JY,frz,Gd,Gj,Qc,Gv,GA,hpF,show ¬(0:Nat)=1+5 by decide,show ¬(5:Nat)=1+5 by decide,if_false,if_true,Nd.cv,Gu,GI];have dz:=fmLast g ht (Z:=Z) (E:=Env.none) (X:=[.dead]) p2 p3;rw[p4]at dz;have Bq:(iz ((nd K.t i).kids.drop 1)).length=(nd K.t i).kids.length-1:=by rw[Jg,GU]
 have CW:(iz ((nd K.t i).kids.drop 1)).take ((nd K.t i).kids.length-1)=iz ((nd K.t i).kids.drop 1):=Gz (Hu Bq);have F3:=JH (l:=(nd K.t i).kids) (i:=1) (by omega);rw[p1]at F3;refine JQ [1,0,0,0,0,0,1,1,0,0,0,0,0] Jp (by decide +kernel) ?_;simp only[go_sem,Af,F3];refine anO ?_;refine vy_pv (.inl rfl) rfl c153_ok nm dz ?_;simp only[go_sem];refine vy_p (.inl rfl) (hO.on (X:=[.arr 1 [[.ptr 0 0 0]],.dead]) rfl rfl) ?_;simp only[go_sem,Af,drop_iz,CW,Bq];refine anO ?_;refine JE (I:=λj:Nat=>j<=(nd K.t i).kids.length-1) (inv:=λj=>gp [(2,.ptr 5 0 0),(0,.rptr (nd K.t i).cv),(2,.fn 153 [] [.ptr 5 0 0]),(0,S (opT s)),(0,.bool (s.isSome && allQ K.t Z.got i (s.getD .int) j)),(16,.rslc 1 (iz ((nd K.t i).kids.drop 1)) none),(0,.int .i64 (((nd K.t i).kids.length-1:Nat):Int)),(0,.int .i64 (j:Int))] 27) (hp:=λj=>hpF K Z [.arr 1 [[.ptr 0 0 0]],.dead]) (μ:=λj=>(nd K.t i).kids.length-1-j) 0 (by omega) ?_ rfl ?_
 ·simp[forget,gp,Nd.cv,allQ,-List.drop_one]
 ·intro j hj;by_cases Ab:j<(nd K.t i).kids.length-1
  ·have d1:((j:Int)<(((nd K.t i).kids.length-1:Nat):Int))=True:=Kl;obtain⟨c,e,q1,q2,q3,q4,q5,q6⟩:=EO (j+1) (by omega) (by omega);have BD:(iz ((nd K.t i).kids.drop 1)).getD j []=[.int .i64 (c:Int)]:=by
    rw[JH (by rw[GU];omega),Gb,H5,<-Gb,Nat.add_comm 1 j,q1]
   have dx:=fmLast g ht (Z:=Z) (E:=Env.none) (X:=[.dead]) q2 q3;rw[q4]at dx;have Cg:allQ K.t Z.got i (s.getD .int) (j+1)=(allQ K.t Z.got i (s.getD .int) j && (Ju Z.got e == [s.getD .int])):=by rw[allQ_succ,q6]
   generalize allQ K.t Z.got i (s.getD .int) j=u at Cg|-;simp only[go_sem,hpF,fRow,d1,BD,Bq];refine anO ?_;refine JQ [0,0,1,0,0,0,1,0,1,0,0] Jp (by decide +kernel) ?_
   cases Ap:(s.isSome && u) with
   |false=>
    simp only[go_sem];refine⟨Jh,j+1,by omega,by omega,?_⟩;rw[Cg,<-Bool.and_assoc,Ap];simp[forget,Nd.cv]
   |true=>
    obtain⟨a,rfl⟩:∃a,s=some a:=by
     cases s with
     |none=>cases Ap
     |some a=>exact⟨a,rfl⟩
    have hu:u=true:=by simpa using Ap
    subst hu;have SA:=hA (tyT a) e q5;rw[JaA,Gi]at SA;simp only[go_sem];refine vy_pv (gok rfl) rfl c153_ok nm dx ?_;simp only[go_sem];refine vy_row (iz [(e:Int)]) (gok rfl) rfl rfl rfl rfl ?_;simp only[go_sem];refine vy_p (gok rfl) (SA.on (X:=[.arr 1 [[.ptr 0 0 0]],.dead]) rfl rfl) ?_;simp only[go_sem];refine⟨Jh,j+1,by omega,by omega,?_⟩;simp only[GH]at Cg|-;rw[Cg];simp[forget,Nd.cv]
  ·have d1:((j:Int)<(((nd K.t i).kids.length-1:Nat):Int))=False:=Ki;obtain rfl:j=(nd K.t i).kids.length-1:=by omega
   have SA:=hA (tyT .int) _ jd;rw[JaA,Gi]at SA;have Fv:=JH (l:=(nd K.t i).kids) (i:=0) (by omega);rw[J2 g hi (by omega)]at Fv;generalize (s.isSome && allQ K.t Z.got i (s.getD .int) ((nd K.t i).kids.length-1))=u at *;simp only[go_sem,hpF,fRow,d1];refine JQ [0,0,0,0,0,1,0,0,0,0,0,1,0,0,0] Jp (by decide +kernel) ?_;simp only[go_sem];refine Jgh (.inl rfl) (typArray (opT s) (by omega)) ?_;simp only[go_sem];refine vy_row [[S (91::(opT s++[93]))]] (.inl rfl) rfl rfl rfl rfl ?_
   cases u with
   |false=>
    rw[Hr]at Cr;subst Cr;simp only[go_sem];exact .out (wk.refl _) rfl
   |true=>
    rw[GX]at Cr;simp only[go_sem,Nd.cv,Af,Fv];refine anO ?_;refine vy_row (iz [(JG K.t i 0:Int)]) (gok rfl) rfl rfl rfl rfl ?_;simp only[go_sem];refine vy_p (gok rfl) (SA.on (X:=[.arr 1 [[.ptr 0 0 0]],.dead]) rfl rfl) ?_;simp only[go_sem];rw[<-Cr];exact .out (wk.refl _) rfl
end
end
section
theorem Ans.of {K:FT0}{Z:FS}{f:Nat}{args:List CV}{b:Bool}{l:TL}{r:Option TL}(x:CV)(hr:r=if b=true then some l else none)(hx:x.closed=true)(he:b=true->x=txV l)(h:FMe Ga f args K Z Z (.tup [x,.bool b])):Ans K Z f args r:=by
 subst hr;refine⟨x,hx,λl' h'=>?_,?_⟩
 ·split at h'
  ·rename_i hb;cases h';exact he hb
  ·cases h'
 ·rw[show (if b=true then some l else none:Option TL).isSome=b by cases b <;> rfl];exact h
theorem kid_pair {t:Tr}{o:List Int}(g:GoodT t o){i:Nat}(hi:i<t.nodes.length)(hl:(nd t i).kids.length=2):(nd t i).kids=[(JG t i 0:Int),(JG t i 1:Int)]:=by
 rw[<-J2 g hi (by omega),<-J2 g hi (by omega)]
 match h:(nd t i).kids,hl with
 |[a,b],_=>rfl
section
variable {K:FT0}{Z:FS}{o:List Int}(g:GoodT K.t o)(ht:K.t.Fit)
include g ht
omit ht in
theorem small1 {i m:Nat}(hi:i<K.t.nodes.length)(hk:(nd K.t i).k=1\/(nd K.t i).k=2):Ans K Z 92 [.int .i64 (i:Int)] (Xa K.t m Z.got i):=by
 have Aj:=g.many;have hg:=J3 hi;rcases hk with hk|hk
 case' inl=>refine Ans.of (b:=true) (l:=[.int]) (txV [.int]) (by rw[JL,hk];rfl) rfl (λ_=>rfl) ?_
 case' inr=>refine Ans.of (b:=true) (l:=[.bool]) (txV [.bool]) (by rw[JL,hk];rfl) rfl (λ_=>rfl) ?_
 all_goals
  refine J8 (vfS c92_ok λN=>?_);simp -implicitDefEqProofs only[c92,go_sem,hpF,fRow,Jb,hg,Nd.cv,hk,Gm]
  repeat refine anO ?_
  exact .one 1 rfl rfl rfl (wk.refl _)
omit ht in
theorem small2 {i m:Nat}(hi:i<K.t.nodes.length)(hk:4<=(nd K.t i).k/\(nd K.t i).k<=18)(hl:Z.got.length=K.t.nodes.length)(hf:∀j,X6 (Ju Z.got j)=true):Ans K Z 92 [.int .i64 (i:Int)] (Xa K.t m Z.got i):=by
 have Aj:=g.many;have hg:=J3 hi;have Aw:=Jaq g hi hk;have hp:=kid_pair g hi Aw;have h0:=Jz g hi (i:=0) (by omega);have h1:=Jz g hi (i:=1) (by omega);have k0:=JcJ g (got:=Z.got) hi (j:=0) (by omega) (J2 g hi (by omega));have k1:=JcJ g (got:=Z.got) hi (j:=1) (by omega) (J2 g hi (by omega));rw[Gi]at k0 k1;generalize JG K.t i 0=a at *;generalize JG K.t i 1=b at *;have Am:a<K.t.nodes.length:=by omega
 have Bt:b<K.t.nodes.length:=by omega
 have hA:=λw=>fmAre (K:=K) (Z:=Z) (w:=tyT w) (ks:=[(a:Int),(b:Int)]) hl (by simp;omega) (by simp)
 simp only[are_cons (l:=[(b:Int)]),JaA,Gi]at hA;have aV:=hA .int;have dL:=hA .bool;have hB:=λ(w:List UInt8) (c:Nat) (hc:c<K.t.nodes.length)=>fmAre (K:=K) (Z:=Z) (w:=w) (ks:=[(c:Int)]) hl (by simp;omega) (by simp)
 have O4:=Jf2 (K:=K) Bt hl (hf b);have aU:=fmArrayed (K:=K) Am hl (hf a);have DU:=prt_len (a:=Ke (Ju Z.got b));have PX:=JbT (hf b);have eQ:=prt_len (a:=Ke (Ju Z.got a));have eP:=JbT (hf a);clear hA;rcases (show (nd K.t i).k=4\/(nd K.t i).k=18\/((nd K.t i).k=5\/(nd K.t i).k=6)\/((nd K.t i).k=7\/(nd K.t i).k=8)\/((nd K.t i).k=9\/(nd K.t i).k=10\/(nd K.t i).k=11\/(nd K.t i).k=12)\/((nd K.t i).k=13\/(nd K.t i).k=14\/(nd K.t i).k=15\/(nd K.t i).k=16\/(nd K.t i).k=17) by omega) with hk|hk|hk|hk|hk|hk
 ·refine Ans.of (.rslc 1 [[S (QD++opT (prt (Ke (Ju Z.got b))))]] none) (by rw[JL,hk,rk_cons,k0,k1]) rfl (λh=>?_) ?_
  ·simp only[GL]at h;obtain⟨e,he⟩:=JeC.1 h.1;rw[he];rfl
  refine J8 (vfS c92_ok λN=>?_);simp -implicitDefEqProofs only[c92,go_sem,hpF,fRow,Jb,hg,Nd.cv,hk,hp,Gm,Kn,Xw,Gc,Gf]
  repeat refine anO ?_
  refine Ku O4 (.inl rfl) rfl rfl rfl rfl ?_;simp -implicitDefEqProofs only[go_sem];refine JV (Jd6 _ (by omega)) ?_;simp -implicitDefEqProofs only[go_sem,hpF]
  cases hs:isStr (Ke (Ju Z.got b)) with
  |false=>
   simp -implicitDefEqProofs only[go_sem,Hr];exact .one 1 rfl rfl rfl (wk.refl _)
  |true=>
   obtain⟨e,he⟩:=JeC.1 hs;have O9:=hB (tyT e) a Am;rw[JaA,Gi]at O9;simp -implicitDefEqProofs only[go_sem,he,prt,opT,GH,GX];refine anO ?_;refine JcM (K:=K) (Z:=Z) 2 rfl rfl rfl ?_;simp -implicitDefEqProofs only[go_sem,JY,frz,Gd,Gj,Qc,Gv,GA,hpF,Lm,Lj,Gx,Gr,GI,G7,GV,Gc,Gf];refine Ku O9 (gok rfl) rfl rfl rfl rfl ?_;simp -implicitDefEqProofs only[go_sem,hpF];exact .one 1 rfl rfl rfl (wk.refl _)
 ·refine Ans.of (.rslc 1 [[S (opT (prt (Ke (Ju Z.got a))))]] none) (by rw[JL,hk,rk_read,k0,k1]) rfl (λh=>?_) ?_
  ·simp only[GL]at h;obtain⟨e,he⟩:=isArr_iff.1 h.1;rw[he];rfl
  refine J8 (vfS c92_ok λN=>?_);simp -implicitDefEqProofs only[c92,go_sem,hpF,fRow,Jb,hg,Nd.cv,hk,hp,Gm,Kn,Xw,Gc,Gf]
  repeat refine anO ?_
  refine Ku aU (.inl rfl) rfl rfl rfl rfl ?_;simp -implicitDefEqProofs only[go_sem,hpF]
  cases hs:Jc9 (Ke (Ju Z.got a)) with
  |false=>
   simp -implicitDefEqProofs only[go_sem,Hr];exact .one 1 rfl rfl rfl (wk.refl _)
  |true=>
   have O9:=hB (tyT .int) b Bt;rw[JaA,Gi]at O9;simp -implicitDefEqProofs only[go_sem,GX];refine anO ?_;refine JcM (K:=K) (Z:=Z) 2 rfl rfl rfl ?_;simp -implicitDefEqProofs only[go_sem,JY,frz,Gd,Gj,Qc,Gv,GA,hpF,Lm,Lj,Gx,Gr,GI,G7,GV,Gc,Gf];refine Ku O9 (gok rfl) rfl rfl rfl rfl ?_;simp -implicitDefEqProofs only[go_sem,hpF];exact .one 1 rfl rfl rfl (wk.refl _)
 ·refine Ans.of (txV [.bool]) (by rw[JL,rk_or hk,k0,k1]) rfl (λ_=>rfl) ?_;rcases hk with hk|hk
  all_goals
   refine J8 (vfS c92_ok λN=>?_);simp -implicitDefEqProofs only[c92,go_sem,hpF,fRow,Jb,hg,Nd.cv,hk,hp,Gm]
   repeat refine anO ?_
   refine Ku dL (.inl rfl) rfl rfl rfl rfl ?_;simp -implicitDefEqProofs only[go_sem];exact .one 1 rfl rfl rfl (wk.refl _)
 ·refine Ans.of (txV [.bool]) (by rw[JL,rk_eq hk,k0,k1]) rfl (λ_=>rfl) ?_;rcases hk with hk|hk
  all_goals
   refine J8 (vfS c92_ok λN=>?_);simp -implicitDefEqProofs only[c92,go_sem,hpF,fRow,Jb,hg,Nd.cv,hk,hp,Gm]
   repeat refine anO ?_
   refine Ku aV (.inl rfl) rfl rfl rfl rfl ?_
   cases hx:(Ju Z.got a == [TyX.int] && Ju Z.got b == [TyX.int]) with
   |true=>
    simp -implicitDefEqProofs only[go_sem,hpF,Bool.true_or];exact .one 1 rfl rfl rfl (wk.refl _)
   |false=>
    simp -implicitDefEqProofs only[go_sem,hpF,Bool.false_or];refine Ku dL (gok rfl) rfl rfl rfl rfl ?_;simp -implicitDefEqProofs only[go_sem];exact .one 1 rfl rfl rfl (wk.refl _)
 ·refine Ans.of (txV [.bool]) (by rw[JL,rk_lt (by omega),k0,k1]) rfl (λ_=>rfl) ?_;rcases hk with hk|hk|hk|hk
  all_goals
   refine J8 (vfS c92_ok λN=>?_);simp -implicitDefEqProofs only[c92,go_sem,hpF,fRow,Jb,hg,Nd.cv,hk,hp,Gm]
   repeat refine anO ?_
   refine Ku aV (.inl rfl) rfl rfl rfl rfl ?_;simp -implicitDefEqProofs only[go_sem];exact .one 1 rfl rfl rfl (wk.refl _)
 ·refine Ans.of (txV [.int]) (by rw[JL,rk_add (by omega),k0,k1]) rfl (λ_=>rfl) ?_;rcases hk with hk|hk|hk|hk|hk
  all_goals
   refine J8 (vfS c92_ok λN=>?_);simp -implicitDefEqProofs only[c92,go_sem,hpF,fRow,Jb,hg,Nd.cv,hk,hp,Gm]
   repeat refine anO ?_
   refine Ku aV (.inl rfl) rfl rfl rfl rfl ?_;simp -implicitDefEqProofs only[go_sem];exact .one 1 rfl rfl rfl (wk.refl _)
end
end
section
def Ln (got:List TL):Prop:=∀j,(Ju got j).length<=30
theorem ln_set {got:List TL}{i:Nat}{l:TL}(h:Ln got)(hl:l.length<=30):Ln (got.set i l):=λj=>by
 by_cases hi:i<got.length
 ·rw[Jas hi]
  split
  ·exact hl
  ·exact h j
 ·rw[List.set_eq_of_length_le (by omega)];exact h j
theorem given_len {ls:List TL}{l:TL}(h:Yt ls=some l)(h1:ls.length<=30)(h2:∀x∈ls,x.length<=30):l.length<=30:=by
 unfold Yt at h
 split at h
 ·cases h;exact h2 _ (by simp)
 ·split at h
  ·cases h;simpa using h1
  ·cases h
theorem rule_len {k n:Nat}{ks:List Int}{K L:Nat->TL}{ty:TyX}{sp sr si gm l:TL}(h:JI k ks n K L ty sp sr si gm=some l)(hK:∀j,(K j).length<=30)(BH:ks.length<=30)(Ip:sr.length<=30):l.length<=30:=by
 have hg:∀(m:Nat) (f:Nat->Nat),m<=30->Yt ((Gg m).map λj=>K (f j))=some l->l.length<=30:=λm f hm h=>given_len h (by simpa using hm) λx hx=>by
  obtain⟨j,_,rfl⟩:=Hm.1 hx;exact hK _
 have BM:∀{c:Prop} [Decidable c] {x:TL},(if c then some x else none)=some l->x.length<=30->l.length<=30:=λh hx=>by
  split at h
  ·cases h;exact hx
  ·cases h
 have one:∀a:TyX,([a]:TL).length<=30:=λa=>by simp
 by_cases e1:k=1
 ·subst e1;cases h;exact one _
 by_cases e2:k=2
 ·subst e2;cases h;exact one _
 by_cases e4:k=4
 ·subst e4;rw[rk_cons]at h;exact BM h (one _)
 by_cases e5:k=5\/k=6
 ·rw[rk_or e5]at h;exact BM h (one _)
 by_cases e7:k=7\/k=8
 ·rw[rk_eq e7]at h;exact BM h (one _)
 by_cases e9:9<=k/\k<=12
 ·rw[rk_lt e9]at h;exact BM h (one _)
 by_cases e13:13<=k/\k<=17
 ·rw[rk_add e13]at h;exact BM h (one _)
 by_cases e18:k=18
 ·subst e18;rw[rk_read]at h;exact BM h (one _)
 by_cases e19:k=19
 ·subst e19;rw[rk_not]at h;exact BM h (one _)
 by_cases e20:k=20
 ·subst e20;rw[rk_neg]at h;exact BM h (one _)
 by_cases e21:k=21
 ·subst e21;rw[rk_head]at h;exact BM h (one _)
 by_cases e22:k=22
 ·subst e22;rw[rk_tail]at h;exact BM h (hK _)
 by_cases e23:k=23
 ·subst e23;rw[JgJ]at h;exact BM h (one _)
 by_cases e24:k=24
 ·subst e24;rw[rk_size]at h;exact BM h (one _)
 by_cases e25:k=25
 ·subst e25;cases h;exact one _
 by_cases e26:k=26
 ·subst e26;rw[rk_call]at h;exact BM h Ip
 by_cases e27:k=27
 ·subst e27;rw[rk_if]at h;exact BM h (hK _)
 by_cases e28:k=28
 ·subst e28;rw[rk_loop]at h;exact BM h (hK _)
 by_cases e29:k=29
 ·subst e29;rw[JgL]at h;exact BM h (one _)
 by_cases e40:k=40
 ·subst e40;exact hg _ _ (by omega) h
 by_cases e45:k=45
 ·subst e45;exact hg _ id (by omega) h
 by_cases e42:k=42
 ·subst e42;rw[JgK]at h
  split at h <;> cases h <;> simp
 by_cases e64:k=64
 ·subst e64;cases h;exact one _
 by_cases e43:k=43
 ·subst e43;rw[rk_init]at h;exact BM h (one _)
 by_cases e44:k=44
 ·subst e44;rw[rk_next]at h;exact BM h (by simp)
 by_cases e47:k=47
 ·subst e47;cases h;exact one _
 by_cases e65:k=65
 ·subst e65;rw[rk_def]at h;exact BM h (by simp)
 have:JI k ks n K L ty sp sr si gm=some []:=by
  unfold JI;simp only[e1,e2,e4,e5,e7,e9,e13,e18,e19,e20,e21,e22,e23,e24,e25,e26,e27,e28,e29,e40,e45,e42,e64,e43,e44,e47,e65,if_false]
 rw[this]at h;cases h;simp
variable {t:Tr}
theorem sig_len (ht:t.Fit)(d:Nat):(YA t d).length<=30:=by
 unfold YA;simp only[Lc,H6];by_cases hd:d<t.nodes.length
 ·have:=(JeS ht hd).kidn;omega
 ·have:(nd t d).kids=[]:=by unfold nd;rw[Gb,Gs (by omega)];rfl
  rw[this];simp
theorem kids_len (ht:t.Fit)(d:Nat):(nd t d).kids.length<=30:=by
 by_cases hd:d<t.nodes.length
 ·exact(JeS ht hd).kidn
 ·have:(nd t d).kids=[]:=by unfold nd;rw[Gb,Gs (by omega)];rfl
  rw[this];simp
theorem putB_ln {s:Nat}{l:TL}{got:List TL}(h:Ln got):∀m,Ln (JaW t s l got m)
 |0=>h
 |m+1=>by
  rw[JaW]
  split
  ·exact ln_set (putB_ln h m) (by simp)
  ·exact putB_ln h m
theorem Jcd {s:Nat}{S:FS}(h:Ln S.got):Ln (J5 t s S).got:=by
 unfold J5;simp only
 split
 ·exact putB_ln h _
 ·unfold FS.fail;split <;> exact h
theorem fin_ln {S:FS}{i:Nat}{r:Option TL}(h:Ln S.got)(hr:∀l,r=some l->l.length<=30):Ln (S.fin i r).got:=by
 have hF:Ln (S.fail i).got:=by unfold FS.fail;split <;> exact h
 unfold FS.fin
 cases r with
 |none=>exact hF
 |some l=>
  simp only
  split
  ·exact h
  ·split
   ·simp only
    split
    ·exact h
    ·exact ln_set h (hr l rfl)
   ·exact hF
theorem doF_ln (ht:t.Fit){o:List Int}{mean:Nat->Nat}:∀(f:Nat) (S:FS) (i:Nat),Ln S.got->Ln (doF t o mean f S i).got
 |0,S,i,h=>h
 |f+1,S,i,h=>by
  have ih:=doF_ln ht (o:=o) (mean:=mean) f;rw[doF]
  split
  ·exact h
  split
  ·have hd:∀S' r,JbF t o (doF t o mean f) (mean i) i S=(S',r)->Ln S'.got/\∀l,r=some l->l.length<=30:=by
    intro S' r e;have Ob:∀(l:List Nat) (S:FS),Ln S.got->Ln (l.foldl (doF t o mean f) S).got:=by
     intro l
     induction l with
     |nil=>intro S h;exact h
     |cons x l ih2=>intro S h;exact ih2 _ (ih S x h)
    unfold JbF at e
    split at e
    ·cases e;exact⟨h,λl hl=>by cases hl;simp⟩
    ·split at e
     ·cases e;exact⟨h,λl hl=>by cases hl;simp⟩
     ·split at e
      ·cases e
       have hF:Ln (Xd t o (doF t o mean f) (Kk t (mean i)).toNat i S).got:=by
        unfold Xd
        split
        ·unfold FS.fail;split <;> exact h
        ·simp only
         split
         ·exact Ob _ _ h
         ·exact Jcd (Ob _ _ h)
       exact⟨hF,λl hl=>by cases hl;exact hF _⟩
      ·cases e;exact⟨h,λl hl=>by cases hl;exact h _⟩
   obtain⟨h1,h2⟩:=hd _ _ rfl;exact fin_ln h1 h2
  ·split
   ·refine fin_ln ?_ λl hl=>?_
    ·unfold Jag;split
     ·exact h
     ·exact Jcd h
    ·split at hl
     ·cases hl;simp
     ·cases hl
   ·refine fin_ln h λl hl=>?_
    rw[JL]at hl;exact rule_len hl (λj=>by unfold KK;split;exact h _;simp) (kids_len ht i) (sig_len ht _)
end
end Go.Cm
end
end
