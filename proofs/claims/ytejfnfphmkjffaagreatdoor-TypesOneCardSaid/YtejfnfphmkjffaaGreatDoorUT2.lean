/-
  A part of the proof. Conditions: none.
-/
import Derived.Test.YtejfnfphmkjffaaGreatDoorUT1
set_option linter.unusedSimpArgs false
set_option linter.unusedVariables false
open Option.some renaming injEq->Gn
open Prod.mk renaming injEq->Gp
open List renaming getD_eq_getElem?_getD->Gb,getElem?_eq_getElem->Gh,length_cons->Gc,getElem?_set_self->Gl,length_nil->Gf,map_cons->Gd,getElem?_set_ne->Gq,getElem?_eq_none->Gs,map_nil->Gj,range->Gg,getElem?_range->Gt,getD_cons_zero->Gu,getElem?_eq_some_iff->Gy,set_cons_zero->Gv,take_of_length_le->Gz,length_take->Gw,set_cons_succ->GA,getElem?_map->GD,getElem?_append_right->GM,mem_or_eq_of_mem_set->GN,getElem_mem->GG,take_succ_eq_append_getElem->G5,getD_cons_succ->GQ,getElem?_append_left->G6,drop_zero->GI,mem_cons->GJ,not_mem_nil->GR,length_drop->GU,map_map->GK,take_zero->GV,take_succ_cons->G7,getElem_range->G8,getElem_set->G9,cons_append->Ha,all_eq_true->Hd,nil_append->He,length_set->Hf,replicate->Hg,getElem?_take_of_lt->Hy,getElem?_cons_zero->Hz,all_cons->Hl,drop_eq_nil_of_le->HV,mem_map->Hm,all_nil->Ho,map_congr_left->HY,length_append->HZ,getElem?_drop->H5,length_range->H6,ext_getElem?->H7,take_length->H8,mem_flatMap->H9,ext_getElem->La,range_succ->Lb,length_map->Lc,headD_cons->Ld,all_append->Le,map_set->Lf,map_id->Lg,length->Lh
open Bool renaming and_eq_true->GL,true_and->GX,eq_iff_iff->Hq,false_and->Hr,and_true->Ht
open Nat renaming le_refl->Gr,zero_add->Gx,add_sub_cancel_left->Li,le_of_eq->Hu,reduceEqDiff->Lj,strongRecOn->Ll,reduceAdd->Lm,sub_self->Lp,lt_or_ge->Lr
open Option renaming getD_some->GH,isSome_some->GY,isSome_none->GZ,map_some->Hw
open Go.Proofs.Tryz renaming prog->Ga
open Int renaming toNat_natCast->Gi,cast_ofNat_Int->Gm
noncomputable section
section
set_option maxRecDepth 100000
namespace Go.Cm
section
def still:IOp->Bool
 |.nchk _=>true
 |.sliceS _ _ _=>true
 |.indexS _ _=>true
 |_=>false
theorem still_exec {op:IOp}{T:List CV}{H H':List CObj}{c:Cond}{v:CV}(hs:still op=true)(he:exec op T H=some (c,v,H')):H'=H/\∀H2,exec op T H2=some (c,v,H2):=by
 cases op <;> simp only[still]at hs <;> first|(cases hs;done)|skip
 all_goals
  simp only[exec]at he|-
  repeat' split at he
  all_goals first|(cases he;done)|(simp only[Gn,Gp]at he;obtain⟨rfl,rfl,rfl⟩:=he;refine⟨rfl,λH2=>?_⟩;simp_all)
def low (op:IOp)(T:List CV):Option Nat:=match op with
 |.load _ _ a=>match J7 T a with
  |.ptr id _ _=>some id
  |_=>none
 |.iaddr _ a _=>match J7 T a with
  |.slc id _ _ _=>some id
  |_=>none
 |_=>none
theorem low_exec {op:IOp}{T:List CV}{H H' H2:List CObj}{c:Cond}{v:CV}{id:Nat}(hl:low op T=some id)(he:exec op T H=some (c,v,H'))(h2:H2[id]? = H[id]?):H'=H/\exec op T H2=some (c,v,H2):=by
 cases op <;> simp only[low]at hl <;> first|(cases hl;done)|skip
 case load ag n a=>
  split at hl
  ·rename_i i off ha
   cases hl
   simp only[exec,ha]at he|-;rw[h2]
   repeat' split at he
   all_goals first|(cases he;done)|(simp only[Gn,Gp]at he;obtain⟨rfl,rfl,rfl⟩:=he;refine⟨rfl,?_⟩;simp_all)
  ·cases hl
 case iaddr z a i=>
  split at hl
  ·rename_i off len cap ha
   cases hl
   simp only[exec,ha]at he|-
   cases hi:J7 T i <;> rw[hi]at he <;> simp only[reduceCtorEq]at he
   simp only;rw[h2]
   repeat' split at he
   all_goals first|(cases he;done)|(simp only[Gn,Gp]at he;obtain⟨rfl,rfl,rfl⟩:=he;refine⟨rfl,?_⟩;simp_all)
  ·cases hl
def Jbt (b:Nat):Foot×Foot:=if b=4 then(.on [1,2,3,4,5],.on []) else if 2000<=b then(.on [b-2000+1],.on [b-2000+1]) else if 1000<=b then(.on [0,b-1000+1],.on [0,b-1000+1]) else footQ b
def XV (b:Nat)(op:IOp)(T:List CV)(H:List CObj):Option (Cond×CV×List CObj):=if 1000<=b then none else if b=4 then(match low op T with|some id=>if id<5 then exec op T H else none|none=>none) else if b=0/\still op=true then exec op T H else Jf3 b op T H
section
variable (P:Program)(E:Env)(n0:Nat)(N:Fr)(Q:Exit->List CV->List CObj->Prop)
def vdy (k:List KItem):List IOper->List Nat->List CV->List CObj->Prop
 |[],_,T,H=>Kn P E n0 N Q k T H
 |_::_,[],_,_=>False
 |⟨d,op,none⟩::l,b::bs,T,H=>match XV b op T H with
  |some (c,v,H')=>c.holds/\vdy k l bs (put T d v) H'
  |none=>∃v H',HS P E ⟨d,op,none⟩ T H v H' (Jbt b)/\vdy k l bs (put T d v) H'
 |⟨d,op,some (s,want)⟩::l,b::bs,T,H=>Xq (T.getD s .un) want (match XV b op T H with
  |some (c,v,H')=>c.holds/\vdy k l bs (put T d v) H'
  |none=>∃v H',HS P E ⟨d,op,some (s,want)⟩ T H v H' (Jbt b)/\vdy k l bs (put T d v) H') (vdy k l bs (put T d (.tup [])) H)
def vdyR (r:Option (Cond×CV×List CObj))(d:Option Nat)(op:IOp)(g:Option (Nat×Bool))(b:Nat)(k:List KItem)(l:List IOper)(bs:List Nat)(T:List CV)(H:List CObj):Prop:=
 match r with
 |some (c,v,H')=>c.holds/\vdy P E n0 N Q k l bs (put T d v) H'
 |none=>∃v H',HS P E ⟨d,op,g⟩ T H v H' (Jbt b)/\vdy P E n0 N Q k l bs (put T d v) H'
end
section
variable {P:Program}{E:Env}{n0:Nat}{N:Fr}{Q:Exit->List CV->List CObj->Prop}{H H':List CObj}{T:List CV}{k:List KItem}{l:List IOper}{es:List (List Nat)}{bs:List Nat}
theorem vy_nil:vdy P E n0 N Q k [] bs T H=Kn P E n0 N Q k T H:=propext (by cases bs <;> exact Iff.rfl)
theorem vy_op {d:Option Nat}{op:IOp}{b:Nat}:vdy P E n0 N Q k (⟨d,op,none⟩::l) (b::bs) T H=vdyR P E n0 N Q (XV b op T H) d op none b k l bs T H:=propext Iff.rfl
theorem vy_gop {d:Option Nat}{op:IOp}{b s:Nat}{want:Bool}:vdy P E n0 N Q k (⟨d,op,some (s,want)⟩::l) (b::bs) T H=Xq (T.getD s .un) want (vdyR P E n0 N Q (XV b op T H) d op (some (s,want)) b k l bs T H) (vdy P E n0 N Q k l bs (put T d (.tup [])) H):=propext Iff.rfl
theorem vdyR_some {d:Option Nat}{op:IOp}{g:Option (Nat×Bool)}{b:Nat}{c:Cond}{v:CV}:vdyR P E n0 N Q (some (c,v,H')) d op g b k l bs T H=(c.holds/\vdy P E n0 N Q k l bs (put T d v) H'):=propext Iff.rfl
theorem vdy_look {T':List CV}{H':List CObj}(hT:T=T')(hH:H=H'):vdy P E n0 N Q k l bs T H=vdy P E n0 N Q k l bs T' H':=by rw[hT,hH]
theorem vdyR_look {r r':Option (Cond×CV×List CObj)}{d:Option Nat}{op:IOp}{g:Option (Nat×Bool)}{b:Nat}(h:r=r'):vdyR P E n0 N Q r d op g b k l bs T H=vdyR P E n0 N Q r' d op g b k l bs T H:=by rw[h]
attribute [congr] vdy_look vdyR_look
theorem Jc2 {b:Nat}{d:Option Nat}{g:Option (Nat×Bool)}{op:IOp}{c:Cond}{v:CV}(hg:GOk T g)(he:Jf3 b op T H=some (c,v,H'))(hc:c.holds):HS P E ⟨d,op,g⟩ T H v H' (footQ b):=by
 unfold Jf3 at he;unfold footQ
 split at he
 ·rename_i h;rw[if_pos h];unfold Jex at he;rw[if_neg (by decide)]at he
  split at he
  ·rename_i hs
   split at he
   ·rename_i c' v' h1;simp only[Gn,Gp]at he;obtain⟨rfl,rfl,rfl⟩:=he;exact Jbz λH2=>.inr ⟨hg,.inl ⟨_,Jg0 hs h1 H2,hc⟩⟩
   ·cases he
  ·cases he
 ·rename_i h;rw[if_neg h]
  split at he
  ·rename_i h1;rw[if_pos h1]
   split at he
   ·rename_i h2;obtain rfl:=looks_heap h2 he;exact hs_ro hg he hc
   ·cases he
  ·rename_i h1;rw[if_neg h1];exact hs_op hg he hc
theorem xexecY_sound {b:Nat}{d:Option Nat}{g:Option (Nat×Bool)}{op:IOp}{c:Cond}{v:CV}(hg:GOk T g)(he:XV b op T H=some (c,v,H'))(hc:c.holds):HS P E ⟨d,op,g⟩ T H v H' (Jbt b):=by
 unfold XV at he
 split at he
 ·cases he
 rename_i hb;unfold Jbt
 split at he
 ·rename_i h4;rw[if_pos h4]
  split at he
  ·rename_i id hl
   split at he
   ·rename_i h5;obtain⟨rfl,_⟩:=low_exec hl he rfl;refine⟨λ_ _=>rfl,λT2 H2 ag hx=>⟨H2,λy hy=>(by cases hy),λ_ _=>rfl,λ_ _ _ _ _ Ap=>?_⟩⟩;have hH:H2[id]? = H'[id]?:=by
     have:=hx (id+1) (by simp only[Foot.has,GJ,GR,or_false];omega);simpa [hat]using this
    exact Jej (Ym ag hg) (by rw[<-Qr (Ji ag).2];exact(low_exec hl he hH).2) hc Ap
   ·cases he
  ·cases he
 ·rename_i h4;rw[if_neg h4,iN7,if_neg hb]
  split at he
  ·rename_i h;obtain⟨rfl,h2⟩:=h;obtain⟨rfl,h3⟩:=still_exec h2 he;exact Jbz λH2=>.inr ⟨hg,.inl ⟨_,h3 H2,hc⟩⟩
  ·exact Jc2 hg he hc
theorem hs_no0 {io:IOper}{v:CV}{f:Foot×Foot}(h:HS P E io T H v H Foot.no)(hf:(∀x,f.2.has x->f.1.has x)):HS P E io T H v H f:=by
 refine⟨λ_ _=>rfl,λT2 H2 ha hx=>?_⟩;obtain⟨H3,_,h2,h3⟩:=h.run T2 H2 ha λy hy=>(by cases hy)
 exact⟨H3,λy hy=>(h2 y λhy=>(by cases hy)).trans (hx y (hf y hy)),λy _=>h2 y λhy=>(by cases hy),h3⟩
theorem footY_sub {b:Nat}:∀x,(Jbt b).2.has x->(Jbt b).1.has x:=λx=>by
 unfold Jbt
 split
 ·intro h;cases h
 ·split
  ·exact id
  ·split
   ·exact id
   ·unfold footQ
    split
    ·exact id
    ·split
     ·intro h;cases h
     ·exact id
theorem vdy_vals:∀(l:List IOper) (bs:List Nat) (T:List CV) (H:List CObj),vdy P E n0 N Q k l bs T H->l.length=bs.length->∃(v:Nat->CV) (hh:Nat->List CObj),hh 0=H/\(∀j,j<l.length->HS P E (Q3 l j) (tst l v T j) (hh j) (v j) (hh (j+1)) (Q4 (bs.map Jbt) j))/\Kn P E n0 N Q k (tst l v T l.length) (hh l.length)
 |[],bs,T,H,h,_=>⟨λ_=>.un,λ_=>H,rfl,by simp,by rw[vy_nil]at h;exact h⟩
 |io::l,[],T,H,h,hl=>by simp at hl
 |io::l,b::bs,T,H,h,hl=>by
  have ES:∃v0 H',HS P E io T H v0 H' (Jbt b)/\vdy P E n0 N Q k l bs (put T io.dst v0) H':=by
   obtain⟨d,op,g⟩:=io;have hR:∀{g:Option (Nat×Bool)},GOk T g->vdyR P E n0 N Q (XV b op T H) d op g b k l bs T H->∃v0 H',HS P E ⟨d,op,g⟩ T H v0 H' (Jbt b)/\vdy P E n0 N Q k l bs (put T d v0) H':=λhg h=>by
    unfold vdyR at h
    split at h
    ·rename_i c v H' he;exact⟨v,H',xexecY_sound hg he h.1,h.2⟩
    ·exact h
   cases g with
   |none=>
    rw[vy_op]at h;exact hR (.inl rfl) h
   |some g=>
    obtain⟨s,want⟩:=g;rw[vy_gop]at h;unfold Xq at h
    split at h
    ·rename_i t ht;by_cases hw:t=want
     ·exact hR (.inr ⟨s,want,rfl,by rw[ht,hw]⟩) (h.1 hw)
     ·have Es:t = !want:=by cases t <;> cases want <;> first|rfl|exact absurd rfl hw
      exact⟨.tup [],H,hs_no0 (Jbz λH2=>.inl ⟨s,want,rfl,.inl (by rw[ht,Es]),rfl⟩) footY_sub,h.2 Es⟩
    ·rename_i ht;exact⟨.tup [],H,hs_no0 (Jbz λH2=>.inl ⟨s,want,rfl,.inr ht,rfl⟩) footY_sub,h⟩
    ·exact h.elim
  obtain⟨v0,H',h1,h2⟩:=ES;obtain⟨v,hh,h0,h3,h4⟩:=vdy_vals l bs _ _ h2 (by simpa using hl)
  let v':Nat->CV:=λj=>match j with|0=>v0|j+1=>v j
  let Ff:Nat->List CObj:=λj=>match j with|0=>H|j+1=>hh j
  have key:∀j,tst (io::l) v' T (j+1)=tst l v (put T io.dst v0) j:=by
   intro j
   induction j with
   |zero=>rfl
   |succ j ih=>rw[tst,ih];rfl
  refine⟨v',Ff,rfl,λj hj=>?_,?_⟩
  ·cases j with
   |zero=>
    have e:Ff (0+1)=H':=h0;rw[e];exact h1
   |succ j=>rw[key];exact h3 j (by simpa using hj)
  ·rw[Gc,key];exact h4
theorem Kj (bs:List Nat)(hm:P.follows .mixedOrders=true)(AO:(l.length == bs.length && (Ja1 l.length es (clo es) && Qh l (clo es) (bs.map Jbt)))=true)(h:vdy P E n0 N Q k l bs T H):Ok P E n0 N Q (.code (.dreg l es)::k) T H:=by
 simp only[GL,beq_iff_eq]at AO;obtain⟨v,hh,h0,h1,h2⟩:=vdy_vals l bs T H h AO.1;exact Jgz AO.2.1 hm AO.2.2 h1 h0 (JA _ _ _ h2)
theorem vy_f {d:Option Nat}{g:Option (Nat×Bool)}{f:Nat}{xa:List IArg}{v:CV}(hg:GOk T g)(Ag:Fn P f (xa.map (J7 T)) v)(h:vdy P E n0 N Q k l bs (put T d v) H):vdyR P E n0 N Q none d (.call f xa) g 0 k l bs T H:=
 ⟨v,H,hs_f hg Ag,h⟩
theorem hs_pcall {d:Option Nat}{g:Option (Nat×Bool)}{f:Nat}{xa:List IArg}{v:CV}(hg:GOk T g)(Ag:Pure P E f (xa.map (J7 T)) H v):HS P E ⟨d,.call f xa,g⟩ T H v H (.all,.on []):=by
 have h:=JgJ (d:=d) hg Ag;refine⟨λ_ _=>rfl,λT2 H2 ag hx=>?_⟩;have hH:H2=H:=YL λy=>hx y trivial
 obtain⟨H2',h1,_,h3⟩:=h.run T2 H2 ag λy _=>hx y trivial
 have aC:H2'=H:=YL λy=>h1 y trivial
 subst hH aC;exact⟨_,λy hy=>(by cases hy),λ_ _=>rfl,h3⟩
theorem vy_p {d:Option Nat}{g:Option (Nat×Bool)}{f:Nat}{xa:List IArg}{v:CV}(hg:GOk T g)(Ag:Pure P E f (xa.map (J7 T)) H v)(h:vdy P E n0 N Q k l bs (put T d v) H):vdyR P E n0 N Q none d (.call f xa) g 1 k l bs T H:=
 ⟨v,H,hs_pcall hg Ag,h⟩
theorem vy_new {d:Option Nat}{g:Option (Nat×Bool)}{op:IOp}(id:Nat){c:Cond}(mk:Nat->CV)(o:CObj)(hg:GOk T g)(MZ:H.length=id)(he:∀H2,exec op T H2=some (c,mk H2.length,H2++[o]))(hc:c.holds)(Ab:id<1000)(h:vdy P E n0 N Q k l bs (put T d (mk id)) (H++[o])):vdyR P E n0 N Q none d op g (1000+id) k l bs T H:=by
 subst MZ;have hf:Jbt (1000+H.length)=(.on [0,H.length+1],.on [0,H.length+1]):=by
  unfold Jbt;rw[iN7,iN7,iP7,Li]
 refine⟨_,_,?_,h⟩;rw[hf];refine⟨λx hx=>?_,λT2 H2 ag hx=>?_⟩
 ·simp only[Foot.has,GJ,GR,or_false,not_or]at hx
  cases x with
  |zero=>exact absurd rfl hx.1
  |succ x=>
   simp only[hat,Gp,and_true];have Ah:x≠H.length:=λe=>hx.2 (by rw[e])
   rcases Lr x H.length with h|h
   ·rw[G6 h]
   ·rw[Gs (by simp;omega),Gs h]
 ·have hl:H2.length=H.length:=by
   have:=hx 0 (by simp[Foot.has]);simpa [hat]using this
  refine⟨H2++[o],λx hx=>?_,λx hx=>?_,λ_ _ _ _ _ Ap=>Jej (c:=c) (v:=mk H2.length) (H':=H2++[o]) (Ym ag hg) (by rw[<-Qr (Ji ag).2];exact he H2) hc (by rw[hl];exact Ap)⟩
  ·simp only[Foot.has,GJ,GR,or_false]at hx;rcases hx with rfl|rfl
   ·simp[hat,hl]
   ·simp only[hat,Gp,and_true];rw[<-hl,GM (Gr _),hl,GM (Gr _)]
  ·simp only[Foot.has,GJ,GR,or_false,not_or]at hx
   cases x with
   |zero=>exact absurd rfl hx.1
   |succ x=>
    simp only[hat,Gp,and_true];have Ah:x≠H2.length:=λe=>hx.2 (by rw[e,hl])
    rcases Lr x H2.length with h|h
    ·rw[G6 h]
    ·rw[Gs (by simp;omega),Gs h]
theorem vy_set {d:Option Nat}{g:Option (Nat×Bool)}{op:IOp}(j:Nat){c:Cond}{v:CV}(o:CObj)(hg:GOk T g)(he:∀H2:List CObj,H2[j]? = H[j]?->exec op T H2=some (c,v,H2.set j o))(hc:c.holds)(hj:j<H.length)(h:vdy P E n0 N Q k l bs (put T d v) (H.set j o)):vdyR P E n0 N Q none d op g (2000+j) k l bs T H:=by
 have hf:Jbt (2000+j)=(.on [j+1],.on [j+1]):=by
  unfold Jbt;rw[iN7,iP7,Li]
 have hs:∀(H:List CObj) (x:Nat),x≠j+1->hat (H.set j o) x=hat H x:=λH x hx=>by
  cases x with
  |zero=>simp[hat]
  |succ i=>simp only[hat];rw[Gq (by omega)]
 refine⟨_,_,?_,h⟩;rw[hf];refine⟨λx hx=>hs H x (by simpa [Foot.has]using hx),λT2 H2 ag hx=>?_⟩;have hH:H2[j]? = H[j]?:=by
  have:=hx (j+1) (by simp[Foot.has]);simpa [hat]using this
 have D9:j<H2.length:=by
  rw[Gh hj]at hH;exact(Gy.1 hH).1
 refine⟨H2.set j o,λx hx=>?_,λx hx=>hs H2 x (by simpa [Foot.has]using hx),λ_ _ _ _ _ Ap=>Jej (Ym ag hg) (by rw[<-Qr (Ji ag).2];exact he H2 hH) hc Ap⟩;have:x=j+1:=by simpa [Foot.has]using hx
 subst this;simp only[hat];rw[Gl D9,Gl hj]
theorem vy_row {d:Option Nat}{g:Option (Nat×Bool)}{z n:Nat}{zero:List CV}{ps:List (Nat×IArg)}(els:List (List CV))(hg:GOk T g)(Aq:Jp ((IOp.bslice z n zero ps).rd.map λs=>T.getD s .un)=true)(he:XO T z (Hg n zero) ps=some els)(hn:els.length=n)(hc:Jr els=true)(h:vdy P E n0 N Q k l bs (put T d (.rslc z els none)) H):vdyR P E n0 N Q none d (.bslice z n zero ps) g 0 k l bs T H:=by
 refine⟨_,H,Jbz λH2=>.inr ⟨hg,.inr (.inr ⟨Aq,rfl,.tt,.slc 0 0 n (some n),[.arr z els],0,z,els,?_,trivial,rfl,hc,?_⟩)⟩,h⟩
 ·simp[exec,he]
 ·subst hn;simp[frz]
end
theorem yexec0 {op:IOp}{T:List CV}{H:List CObj}:XV 0 op T H=if still op=true then exec op T H else Jex false op T H:=by
 unfold XV;rw[if_neg (by decide),if_neg (by decide)];by_cases h:still op=true
 ·rw[if_pos ⟨rfl,h⟩,if_pos h]
 ·rw[if_neg (λx=>h x.2),if_neg h];rfl
theorem yexec1 {op:IOp}{T:List CV}{H:List CObj}:XV 1 op T H=if looks op=true then exec op T H else none:=by
 unfold XV;rw[if_neg (by decide),if_neg (by decide),if_neg (λh=>by cases h.1)];rfl
theorem yexec2 {op:IOp}{T:List CV}{H:List CObj}:XV 2 op T H=exec op T H:=by
 unfold XV;rw[if_neg (by decide),if_neg (by decide),if_neg (λh=>by cases h.1)];rfl
theorem yexec4 {op:IOp}{T:List CV}{H:List CObj}:XV 4 op T H=match low op T with|some id=>if id<5 then exec op T H else none|none=>none:=by
 unfold XV;rw[if_neg (by decide),if_pos rfl]
theorem Jhe {b:Nat}{op:IOp}{T:List CV}{H:List CObj}(h:1000<=b):XV b op T H=none:=by
 unfold XV;rw[if_pos h]
attribute [go_sem] yexec0 yexec1 yexec2 yexec4 still low
attribute [go_sem] vy_nil vy_op vy_gop vdyR_some
end
section
mutual
def refs:CV->List Nat
 |.slc j _ _ _=>[j]
 |.ptr j _ _=>[j]
 |.map j=>[j]
 |.fn _ l1 l2=>Je7 l1++Je7 l2
 |.iface _ c=>refs c
 |.agg l=>Je7 l
 |.tup l=>Je7 l
 |_=>[]
def Je7:List CV->List Nat
 |[]=>[]
 |c::cs=>refs c++Je7 cs
end
def Jgs:CObj->List Nat
 |.arr _ es=>es.flatMap Je7
 |.map kvs=>kvs.flatMap λp=>refs p.1++refs p.2
 |_=>[]
mutual
theorem Jb4 {ρ:List Nat}:∀(c:CV),(∀i∈refs c,Jm i ρ 0=some i)->ren ρ c=c
 |.un,_=>rfl
 |.bool _,_=>rfl
 |.int _ _,_=>rfl
 |.str _,_=>rfl
 |.nilp,_=>rfl
 |.ptr j _ _,h=>by simp only[ren,h j (by simp[refs])]
 |.rptr _,_=>rfl
 |.nils,_=>rfl
 |.slc j _ _ _,h=>by simp only[ren,h j (by simp[refs])]
 |.rslc _ _ _,_=>rfl
 |.nilm,_=>rfl
 |.map j,h=>by simp only[ren,h j (by simp[refs])]
 |.fn _ l1 l2,h=>by simp only[ren,YR l1 λi hi=>h i (by simp[refs,hi]),YR l2 λi hi=>h i (by simp[refs,hi])]
 |.yld _,_=>rfl
 |.nilf,_=>rfl
 |.iface _ c,h=>by simp only[ren,Jb4 c λi hi=>h i (by simpa [refs]using hi)]
 |.nili,_=>rfl
 |.agg l,h=>by simp only[ren,YR l λi hi=>h i (by simpa [refs]using hi)]
 |.tup l,h=>by simp only[ren,YR l λi hi=>h i (by simpa [refs]using hi)]
theorem YR {ρ:List Nat}:∀(l:List CV),(∀i∈Je7 l,Jm i ρ 0=some i)->JB ρ l=l
 |[],_=>rfl
 |c::cs,h=>by simp only[JB,Jb4 c λi hi=>h i (by simp[Je7,hi]),YR cs λi hi=>h i (by simp[Je7,hi])]
end
theorem ren_refsO {ρ:List Nat}{o:CObj}(h:∀i∈Jgs o,Jm i ρ 0=some i):Xv ρ o=o:=by
 cases o with
 |arr z es=>
  simp only[Xv]
  congr 1
  refine(HY λe he=>?_).trans (Lg _);exact YR e λi hi=>h i (by simp only[Jgs,H9];exact⟨e,he,hi⟩)
 |map kvs=>
  simp only[Xv]
  congr 1
  refine(HY λp hp=>?_).trans (Lg _);have h1:∀i∈refs p.1++refs p.2,Jm i ρ 0=some i:=λi hi=>h i (by simp only[Jgs,H9];exact⟨p,hp,hi⟩)
  rw[Jb4 p.1 λi hi=>h1 i (by simp[hi]),Jb4 p.2 λi hi=>h1 i (by simp[hi])];rfl
 |dead=>rfl
 |ext s b=>rfl
def okId (H:List CObj)(p i:Nat):Prop:=i<H.length/\(H[i]? = some .dead->i<p)
structure NoD (p:Nat)(T:List CV)(H:List CObj):Prop where
 t:∀c∈T,∀i∈refs c,okId H p i
 h:∀o∈H,∀i∈Jgs o,okId H p i
theorem mem_put {T:List CV}{d:Option Nat}{v c:CV}(h:c∈put T d v):c=v\/c∈T:=by
 cases d with
 |none=>exact .inr h
 |some d=>exact(GN h).symm
theorem Jbh {H:List CObj}{p i j:Nat}{o:CObj}(ho:o.alive=true)(h:okId H p i):okId (H.set j o) p i:=by
 refine⟨by rw[Hf];exact h.1,λhd=>?_⟩;by_cases e:i=j
 ·subst e;rw[Gl h.1,Gn]at hd;subst hd;cases ho
 ·rw[Gq (λx=>e x.symm)]at hd;exact h.2 hd
section
variable (P:Program)(E:Env)(n0 p:Nat)(N:Fr)(Q:Exit->List CV->List CObj->Prop)
structure HSI (io:IOper)(T:List CV)(H:List CObj)(v:CV)(H':List CObj)(f:Foot×Foot):Prop where
 out:∀x,¬f.2.has x->hat H' x=hat H x
 run:∀T2 H2,NoD p T2 H2->agree io.rd T T2->(∀x,f.1.has x->hat H2 x=hat H x)->∃H2',NoD p (put T2 io.dst v) H2'/\(∀x,f.2.has x->hat H2' x=hat H' x)/\(∀x,¬f.2.has x->hat H2' x=hat H2 x)/\
  ∀(N:Fr) (Q:Exit->List CV->List CObj->Prop) (k:List KItem) (l:List IOper),Ok P E n0 N Q (.ops l::k) (put T2 io.dst v) H2'->Ok P E n0 N Q (.ops (io::l)::k) T2 H2
def Jck (b:Nat×List Nat):Foot×Foot:=match b.1 with
 |0=>(.on (b.2.map (· + 1)),.on [])
 |j+1=>(.on ((j+1)::b.2.map (· + 1)),.on [j+1])
def vdz (k:List KItem):List IOper->List (Nat×List Nat)->List CV->List CObj->Prop
 |[],_,T,H=>Kn P E n0 N Q k T H
 |_::_,[],_,_=>False
 |io::l,b::bs,T,H=>∃v H',HSI P E n0 p io T H v H' (Jck b)/\vdz k l bs (put T io.dst v) H'
end
section
variable {P:Program}{E:Env}{n0 p:Nat}{N:Fr}{Q:Exit->List CV->List CObj->Prop}{H H':List CObj}{T:List CV}{k:List KItem}{l:List IOper}{es:List (List Nat)}{fs:List (Foot×Foot)}{v:Nat->CV}{hh:Nat->List CObj}{bs:List (Nat×List Nat)}
theorem Jev (hv:∀j,j<l.length->HSI P E n0 p (Q3 l j) (tst l v T j) (hh j) (v j) (hh (j+1)) (Q4 fs j)){x a:Nat}:∀d,a+d<=l.length->(∀i,a<=i->i<a+d->¬(Q4 fs i).2.has x)->hat (hh (a+d)) x=hat (hh a) x
 |0,_,_=>rfl
 |d+1,h,hn=>by
  have h1:=(hv (a+d) (by omega)).out x (hn (a+d) (by omega) (by omega));have h2:=Jev hv d (by omega) λi hi CY=>hn i hi (by omega)
  rw[<-h2];exact h1
theorem any_orderI (ho:OrderedH l es fs)(hv:∀j,j<l.length->HSI P E n0 p (Q3 l j) (tst l v T j) (hh j) (v j) (hh (j+1)) (Q4 fs j))(AL:Ok P E n0 N Q k (tst l v T l.length) (hh l.length)){S:Nat->Bool}{is:List Nat}(h:Sched l.length es S is) :
  ∀T' H',(∀i,i<l.length->S i=true->∀e∈es.getD i [],S e=true)->At l v T S T'->AtH l fs hh S H'->NoD p T' H'->Ok P E n0 N Q (.ops (is.map (Q3 l))::k) T' H':=by
 induction h with
 |nil hn=>
  rename_i S;intro T' H' Aq hA hB _;have Aj:∀i,i<l.length->S i=true:=by
   intro i
   induction i using Ll with
   |_ i ih=>
    intro hi
    cases hS:S i with
    |true=>rfl
    |false=>
     obtain⟨e,he,M8⟩:=hn i hi hS;have Ab:=ho.base.lt i hi e he;have:=ih e Ab (by omega);rw[this]at M8;cases M8
  have hH:H'=hh l.length:=YL λx=>hB x l.length (Gr _) λi hi _=>⟨λ_=>hi,λ_=>Aj i hi⟩
  rw[hA.all ho.base Aj,hH];exact Jbg AL
 |cons hi hS hr _ ih=>
  rename_i S j is Cu;intro T' H' Aq hA hB hN;have key:∀i,i<l.length->i≠j->∀x,(Q4 fs i).2.has x->((Q4 fs j).1.has x\/(Q4 fs j).2.has x)->(S i=true↔i<j):=by
   intro i Ak Ah x h1 h2;have h3:=ho.ord i j x Ak hi Ah h1 h2
   constructor
   ·intro Ey;rcases h3 with h3|h3
    ·exact ho.base.lt j hi i h3
    ·have:=Aq i Ak Ey j h3;rw[hS]at this;cases this
   ·intro Ab;rcases h3 with h3|h3
    ·exact hr i h3
    ·have:=ho.base.lt i Ak j h3;omega
  obtain⟨H2',g0,g1,g2,g3⟩:=(hv j hi).run T' H' hN (hA.agree ho.base Aq hi hS hr) (λx hx=>hB x j (by omega) λi Ak hw=>by
   by_cases Cv:i=j
   ·subst Cv;rw[hS];simp
   ·exact key i Ak Cv x hw (.inl hx))
  refine g3 N Q k _ (ih _ _ (λi Ak Ey e he=>?_) (hA.step ho.base hi hS) ?_ g0)
  ·simp only[Bool.or_eq_true,beq_iff_eq]at Ey|-;rcases Ey with h|h
   ·exact .inl (Aq i Ak h e he)
   ·subst h;exact .inl (hr e he)
  ·intro x m hm hw;by_cases hx:(Q4 fs j).2.has x
   ·rw[g1 x hx];have SY:j<m:=(hw j hi hx).1 (by simp);have hc:=Jev hv (x:=x) (a:=j+1) (m-(j+1)) (by omega) (λi h1 h2 Dg=>by
     have Ak:i<l.length:=by omega
     have h4:=(hw i Ak Dg).2 (by omega);have Ah:i≠j:=by omega
     have h5:S i=true:=by simpa [Ah]using h4
     have:=(key i Ak Ah x Dg (.inr hx)).1 h5;omega)
    have e:j+1+(m-(j+1))=m:=by omega
    rw[e]at hc;exact hc.symm
   ·rw[g2 x hx];refine hB x m hm λi Ak Dg=>?_
    have Ah:i≠j:=λe=>hx (e▸Dg)
    have:=hw i Ak Dg;simpa [Ah]using this
theorem vdz_vals:∀(l:List IOper) (bs:List (Nat×List Nat)) (T:List CV) (H:List CObj),vdz P E n0 p N Q k l bs T H->l.length=bs.length->∃(v:Nat->CV) (hh:Nat->List CObj),hh 0=H/\(∀j,j<l.length->HSI P E n0 p (Q3 l j) (tst l v T j) (hh j) (v j) (hh (j+1)) (Q4 (bs.map Jck) j))/\Kn P E n0 N Q k (tst l v T l.length) (hh l.length)
 |[],bs,T,H,h,_=>⟨λ_=>.un,λ_=>H,rfl,by simp,by cases bs <;> exact h⟩
 |io::l,[],T,H,h,hl=>by simp at hl
 |io::l,b::bs,T,H,h,hl=>by
  obtain⟨v0,H',h1,h2⟩:=h;obtain⟨v,hh,h0,h3,h4⟩:=vdz_vals l bs _ _ h2 (by simpa using hl)
  let v':Nat->CV:=λj=>match j with|0=>v0|j+1=>v j
  let Ff:Nat->List CObj:=λj=>match j with|0=>H|j+1=>hh j
  have key:∀j,tst (io::l) v' T (j+1)=tst l v (put T io.dst v0) j:=by
   intro j
   induction j with
   |zero=>rfl
   |succ j ih=>rw[tst,ih];rfl
  refine⟨v',Ff,rfl,λj hj=>?_,?_⟩
  ·cases j with
   |zero=>
    have e:Ff (0+1)=H':=h0;rw[e];exact h1
   |succ j=>rw[key];exact h3 j (by simpa using hj)
  ·rw[Gc,key];exact h4
theorem vr_dregZ (p:Nat)(bs:List (Nat×List Nat))(hm:P.follows .mixedOrders=true)(AO:(l.length == bs.length && (Ja1 l.length es (clo es) && Qh l (clo es) (bs.map Jck)))=true)(hN:NoD p T H)(h:vdz P E n0 p N Q k l bs T H):Ok P E n0 N Q (.code (.dreg l es)::k) T H:=by
 simp only[GL,beq_iff_eq]at AO;obtain⟨v,hh,h0,h1,h2⟩:=vdz_vals l bs T H h AO.1;refine ok_draw hm λis hs=>?_
 refine any_orderI (YI AO.2.2) h1 (JA _ _ _ h2) (Jd2 AO.2.1 hs λ_ _ h=>by cases h) T H (λ_ _ h=>by cases h) ⟨rfl,λ_ _=>rfl,λ_ _ _ h=>by cases h⟩ (λx m hm hw=>?_) hN;have hc:=Jev h1 (x:=x) (a:=0) m (by omega) (λi _ h2 Dg=>by
  have:=(hw i (by omega) Dg).2 (by omega)
  cases this)
 rw[Gx]at hc;rw[hc,h0]
theorem Jc4 {io:IOper}{R:List Nat}{c:Cond}{v:CV}(hg:io.guard=none)(he:Jf3 0 io.op T H=some (c,v,H))(hc:c.holds)(hr:refs v=R)(hR:∀i∈R,okId H p i)(h:vdz P E n0 p N Q k l bs (put T io.dst v) H):vdz P E n0 p N Q k (io::l) ((0,R)::bs) T H:=by
 refine⟨v,H,⟨λ_ _=>rfl,λT2 H2 hN ha hx=>?_⟩,h⟩;have hs:=Jc2 (P:=P) (E:=E) (d:=io.dst) (g:=io.guard) (.inl hg) he hc;obtain⟨H3,_,h2,h3⟩:=hs.run T2 H2 ha λy hy=>(by cases hy)
 have hH:H3=H2:=YL λy=>h2 y λhy=>(by cases hy)
 subst hH;refine⟨H3,⟨λc hc i hi=>?_,hN.h⟩,λy hy=>(by cases hy),λ_ _=>rfl,λN Q k l Ap=>h3 n0 N Q k l Ap⟩;rcases mem_put hc with rfl|hc
 ·rw[hr]at hi;have h4:=hR i hi;have h5:=hx (i+1) (by simp only[Jck,Foot.has,Hm];exact⟨i,hi,rfl⟩);simp only[hat,Gp,and_true]at h5;have h6:i<H3.length:=by
   have:=Gh h4.1;rw[this]at h5;exact(Gy.1 h5).1
  exact⟨h6,λhd=>h4.2 (by rw[<-h5];exact hd)⟩
 ·exact hN.t c hc i hi
theorem JgK {H:List CObj}{j x:Nat}{o:CObj}(h:x≠j+1):hat (H.set j o) x=hat H x:=by
 cases x with
 |zero=>simp[hat]
 |succ i=>simp only[hat];rw[Gq (by omega)]
theorem okId_foot {R:List Nat}{H2:List CObj}{j:Nat}(hR:∀i∈R,okId H p i)(hx:∀x,(Jck (j+1,R)).1.has x->hat H2 x=hat H x):∀i∈R,okId H2 p i:=λi hi=>by
 have h4:=hR i hi;have h5:=hx (i+1) (by simp only[Jck,Foot.has,GJ,Hm];exact .inr ⟨i,hi,rfl⟩);simp only[hat,Gp,and_true]at h5;have h6:i<H2.length:=by
  have:=Gh h4.1;rw[this]at h5;exact(Gy.1 h5).1
 exact⟨h6,λhd=>h4.2 (by rw[<-h5];exact hd)⟩
theorem hat_at {R:List Nat}{H2:List CObj}{j:Nat}(hx:∀x,(Jck (j+1,R)).1.has x->hat H2 x=hat H x):H2[j]? = H[j]?:=by
 have h5:=hx (j+1) (by simp[Jck,Foot.has]);simpa [hat]using h5
theorem Jc5 (j:Nat){io:IOper}{R:List Nat}{c:Cond}(mk:Nat->CV)(o:CObj)(hg:io.guard=none)(he:∀H2,exec io.op T H2=some (c,mk H2.length,H2++[o]))(hc:c.holds)(MP:∀ρ id i,Jm id ρ 0=some i->ren ρ (mk id)=mk i)(Pd:refs (mk j)=[j])(ho:o.alive=true)(hj:H[j]? = some .dead)(jc:p<=j)(hn:n0<=p)(hr:Jgs o=R)(hR:∀i∈R,okId H p i)(h:vdz P E n0 p N Q k l bs (put T io.dst (mk j)) (H.set j o)):vdz P E n0 p N Q k (io::l) ((j+1,R)::bs) T H:=by
 have A8:=(Gy.1 hj).1;refine⟨mk j,H.set j o,⟨λx hx=>JgK λe=>hx (by simp[Jck,Foot.has,e]),λT2 H2 hN ha hx=>?_⟩,h⟩;have D9:H2[j]? = some .dead:=by rw[hat_at hx,hj]
 have EN:=(Gy.1 D9).1;have OY:=okId_foot hR hx;have Ah:∀i,okId H2 p i->i≠j:=λi hi e=>by subst e;have:=hi.2 D9;omega
 have MZ:∀i,i<H2.length->i≠j->Jm i ((Gg H2.length).set j H2.length) 0=some i:=λi hi Cv=>by
  have h1:((Gg H2.length).set j H2.length)[i]? = some i:=by rw[Gq (λe=>Cv e.symm),Gt hi]
  have key:∀(ρ:List Nat) (a b:Nat),ρ[b]? = some i->(∀m,m<b->ρ[m]?≠some i)->Jm i ρ a=some (a+b):=by
   intro ρ
   induction ρ with
   |nil=>intro a b h;simp at h
   |cons q ρ ih=>
    intro a b h hm
    cases b with
    |zero=>simp at h;simp[Jm,h]
    |succ b=>
     have hq:q≠i:=λe=>hm 0 (by omega) (by simp[e])
     rw[Jm,if_neg hq,ih (a+1) b (by simpa using h) λm Cr hh=>hm (m+1) (by omega) (by simpa using hh)]
     congr 1;omega
  rw[key _ 0 i h1 λm hm hh=>?_,Gx];by_cases e:m=j
  ·subst e;rw[Gl (by simpa using EN),Gn]at hh;omega
  ·rw[Gq (λx=>e x.symm),Gt (by omega),Gn]at hh;omega
 have fD:Jm H2.length ((Gg H2.length).set j H2.length) 0=some j:=by
  have key:∀(ρ:List Nat) (a b x:Nat),ρ[b]? = some x->(∀m,m<b->ρ[m]?≠some x)->Jm x ρ a=some (a+b):=by
   intro ρ
   induction ρ with
   |nil=>intro a b x h;simp at h
   |cons q ρ ih=>
    intro a b x h hm
    cases b with
    |zero=>simp at h;simp[Jm,h]
    |succ b=>
     have hq:q≠x:=λe=>hm 0 (by omega) (by simp[e])
     rw[Jm,if_neg hq,ih (a+1) b x (by simpa using h) λm Cr hh=>hm (m+1) (by omega) (by simpa using hh)]
     congr 1;omega
  rw[key _ 0 j H2.length (Gl (by simpa using EN)) λm hm hh=>?_,Gx];rw[Gq (by omega),Gt (by omega),Gn]at hh;omega
 refine⟨H2.set j o,⟨λc hc i hi=>?_,λo' UM i hi=>?_⟩,λx Bd=>?_,λx Bd=>JgK λe=>Bd (by simp[Jck,Foot.has,e]),λN Q k l Ap=>?_⟩
 ·rcases mem_put hc with rfl|hc
  ·rw[Pd,List.mem_singleton]at hi;subst hi;refine⟨by rw[Hf];exact EN,λhd=>?_⟩;rw[Gl EN,Gn]at hd;subst hd;cases ho
  ·exact Jbh ho (hN.t c hc i hi)
 ·rcases GN UM with h1|rfl
  ·exact Jbh ho (hN.h o' h1 i hi)
  ·rw[hr]at hi;exact Jbh ho (OY i hi)
 ·have:x=j+1:=by simpa [Jck,Foot.has]using Bd
  subst this;simp only[hat];rw[Gl EN,Gl A8]
 ·refine Jej (c:=c) (v:=mk H2.length) (H':=H2++[o]) (.inl hg) (by rw[<-Qr (Ji ha).2];exact he H2) hc ?_;refine Jfv (ρ:=(Gg H2.length).set j H2.length) ⟨?_,λi hi=>?_,λi hi=>?_⟩ ?_
  ·refine List.pairwise_iff_getElem.2 λa b ha hb Sa=>?_
   rw[Hf,H6]at ha hb;rw[G9,G9,G8,G8]
   split <;> split <;> omega
  ·rw[HZ];rcases GN hi with h1|rfl
   ·have:=List.mem_range.1 h1;omega
   ·simp
  ·rw[Gq (by omega),Gt (by omega)]
  ·have e1:JB ((Gg H2.length).set j H2.length) (put T2 io.dst (mk H2.length))=put T2 io.dst (mk j):=by
    have h0:JB ((Gg H2.length).set j H2.length) T2=T2:=by
     have:∀l:List CV,(∀c∈l,ren ((Gg H2.length).set j H2.length) c=c)->JB ((Gg H2.length).set j H2.length) l=l:=by
      intro l
      induction l with
      |nil=>intro _;rfl
      |cons c l ih=>intro hl;rw[JB,hl c (by simp),ih λc hc=>hl c (by simp[hc])]
     exact this T2 λc hc=>Jb4 c λi hi=>MZ i (hN.t c hc i hi).1 (Ah i (hN.t c hc i hi))
    cases hd:io.dst with
    |none=>exact h0
    |some d=>
     have:∀(l:List CV) (d:Nat),JB ((Gg H2.length).set j H2.length) (l.set d (mk H2.length))=(JB ((Gg H2.length).set j H2.length) l).set d (mk j):=by
      intro l
      induction l with
      |nil=>intro d;rfl
      |cons c l ih=>
       intro d
       cases d with
       |zero=>simp only[Gv,JB,MP _ _ _ fD]
       |succ d=>simp only[GA,JB,ih]
     show JB _ (T2.set d (mk H2.length))=T2.set d (mk j);rw[this,h0]
   have e2:Kl ((Gg H2.length).set j H2.length) (H2++[o])=H2.set j o:=by
    refine H7 λa=>?_
    simp only[Kl,GD];by_cases Df:a<H2.length
    ·by_cases e:a=j
     ·subst e;rw[Gl (by simpa using Df),Gl Df];simp only[Hw,Gb,GM (Gr _),Lp,Hz,GH];rw[ren_refsO λi hi=>by rw[hr]at hi;exact MZ i (OY i hi).1 (Ah i (OY i hi))]
     ·rw[Gq (λx=>e x.symm),Gt Df,Gq (λx=>e x.symm)];simp only[Hw,Gb,G6 Df,Gh Df,GH];rw[ren_refsO λi hi=>MZ i (hN.h _ (GG Df) i hi).1 (Ah i (hN.h _ (GG Df) i hi))]
    ·rw[Gs (by simp;omega),Gs (by simp;omega)];rfl
   rw[e1,e2];exact Ap
theorem vz_set (j:Nat){io:IOper}{R:List Nat}{c:Cond}{v:CV}(o:CObj)(hg:io.guard=none)(he:∀H2:List CObj,H2[j]? = H[j]?->exec io.op T H2=some (c,v,H2.set j o))(hc:c.holds)(hv:refs v=[])(ho:o.alive=true)(hr:Jgs o=R)(hR:∀i∈R,okId H p i)(A8:j<H.length)(h:vdz P E n0 p N Q k l bs (put T io.dst v) (H.set j o)):vdz P E n0 p N Q k (io::l) ((j+1,R)::bs) T H:=by
 refine⟨v,H.set j o,⟨λx hx=>JgK λe=>hx (by simp[Jck,Foot.has,e]),λT2 H2 hN ha hx=>?_⟩,h⟩;have D9:=hat_at hx;have EN:j<H2.length:=by
  rw[Gh A8]at D9;exact(Gy.1 D9).1
 have OY:=okId_foot hR hx;refine⟨H2.set j o,⟨λc hc i hi=>?_,λo' UM i hi=>?_⟩,λx Bd=>?_,λx Bd=>JgK λe=>Bd (by simp[Jck,Foot.has,e]),λN Q k l Ap=>Jej (.inl hg) (by rw[<-Qr (Ji ha).2];exact he H2 D9) hc Ap⟩
 ·rcases mem_put hc with rfl|hc
  ·rw[hv]at hi;cases hi
  ·exact Jbh ho (hN.t c hc i hi)
 ·rcases GN UM with h1|rfl
  ·exact Jbh ho (hN.h o' h1 i hi)
  ·rw[hr]at hi;exact Jbh ho (OY i hi)
 ·have:x=j+1:=by simpa [Jck,Foot.has]using Bd
  subst this;simp only[hat];rw[Gl EN,Gl A8]
end
end
end Go.Cm
end
section
set_option maxRecDepth 100000
set_option maxHeartbeats 4000000
open Go.Proofs
namespace Go.Cm
section
section
variable {P:Program}{E:Env}{H:List CObj}
inductive Fnl (n0:Nat)(v0:CV)(H0:List CObj):CV->List CObj->Prop
 |done {v:CV}:wk v v0->Fnl n0 v0 H0 v H0
 |frz {v:CV} {H:List CObj} (id z:Nat) (els:List (List CV)):H[id]? = some (.arr z els)->Jr els=true->Fnl n0 v0 H0 (Go.Cm.frz id z els v) (Ku id z els H)->Fnl n0 v0 H0 v H
 |ren {v:CV} {H:List CObj} (ρ:List Nat):JcJ ρ n0 H.length=true->Fnl n0 v0 H0 (Go.Cm.ren ρ v) (Kl ρ H)->Fnl n0 v0 H0 v H
theorem CallsC.fnl {f:Nat}{args:List CV}{v0:CV}{H0:List CObj}(h:CallsC P E f args H λv H'=>Fnl H.length v0 H0 v H'):CallsC P E f args H λv H'=>v=v0/\H'=H0:=by
 intro m w vs hs hv;refine(h m w vs hs hv).mono ?_;rintro e w' ⟨r,m',v,H',h1,h2,h3,h4,g⟩;subst h1
 induction g generalizing m' with
 |done hw=>exact⟨r,m',v0,_,rfl,h2,h3,hw _ _ _ h4,rfl,rfl⟩
 |frz id z els g1 g2 _ ih=>
  obtain⟨imm',Az,he,hf⟩:=Sim.freeze (n0:=H.length) h3 g1 g2;exact ih _ (h2.trans he) Az (hf _ _ h4)
 |ren ρ g1 _ ih=>
  have Ad:=h2.long (by rw[hs.len];exact Gr _);rw[h3.len]at Ad;obtain⟨own',Az,he,hf,_⟩:=Sim.ren (n0:=H.length) h3 (QP g1) Ad;exact ih _ (h2.trans he) Az (hf _ _ h4)
end
def txz (l:TL):List (List CV):=l.map λa=>[S (tyT a)]
def txV (l:TL):CV:=.rslc 1 (txz l) none
def gz (l:List TL):List (List CV):=l.map λx=>[txV x]
def bqz (l:List Bool):List (List CV):=l.map λb=>[.bool b]
def kz (l:List (Nat×Bool)):List (CV×CV):=l.map λp=>(.int .i64 (p.1:Int),.bool p.2)
theorem Xr {l:TL}:(txz l).length=l.length:=by simp[txz]
theorem Yl {l:List TL}:(gz l).length=l.length:=by simp[gz]
theorem bqz_len {l:List Bool}:(bqz l).length=l.length:=by simp[bqz]
theorem KO:∀(l:TL),Jr (txz l)=true
 |[]=>rfl
 |_::l=>KO l
theorem QA:∀(l:List TL),Jr (gz l)=true
 |[]=>rfl
 |_::l=>QA l
theorem QF:∀(l:List Bool),Jr (bqz l)=true
 |[]=>rfl
 |_::l=>QF l
theorem JaA {l:TL}{i:Nat}(h:i<l.length):(txz l).getD i []=[S (tyT (l.getD i .int))]:=by
 simp[txz,Gb,Gh h]
theorem XA {l:List TL}{i:Nat}(h:i<l.length):(gz l).getD i []=[txV (JG l i)]:=by
 simp[gz,JG,Gb,Gh h]
theorem bqz_get {l:List Bool}{i:Nat}(h:i<l.length):(bqz l).getD i []=[.bool (l.getD i false)]:=by
 simp[bqz,Gb,Gh h]
theorem gz_set {l:List TL}{i:Nat}{x:TL}:(gz l).set i [txV x]=gz (l.set i x):=by simp[gz,Lf]
theorem bqz_set {l:List Bool}{i:Nat}{b:Bool}:(bqz l).set i [.bool b]=bqz (l.set i b):=by simp[bqz,Lf]
theorem keyN {x a:Nat}:Yx .int (.int .i64 (x:Int)) (.int .i64 (a:Int))=some (x == a):=by
 simp only[Yx,if_true]
 congr 1
 rw[Hq,beq_iff_eq,beq_iff_eq];exact Int.ofNat_inj
theorem Jaa {k:Nat}:∀(l:List (Nat×Bool)) (i:Nat),(QK .int (.int .i64 (k:Int)) (kz l) i=some none/\KC l k=false/\∀b,kz l++[(.int .i64 (k:Int),.bool b)]=kz (Jat k b l))\/(∃j,QK .int (.int .i64 (k:Int)) (kz l) i=some (some (i+j,.bool (KC l k)))/\∀b,(kz l).set j (.int .i64 (k:Int),.bool b)=kz (Jat k b l))
 |[],i=>.inl ⟨rfl,rfl,λ_=>rfl⟩
 |(a,c)::l,i=>by
  by_cases h:a=k
  ·subst h;have e:Yx .int (.int .i64 (a:Int)) (.int .i64 (a:Int))=some true:=by rw[keyN,beq_self_eq_true]
   refine .inr ⟨0,?_,λb=>?_⟩
   ·simp only[kz,Gd,QK,e,KC,if_pos,Nat.add_zero]
   ·simp only[kz,Gd,Gv,Jat,if_pos]
  ·have e:Yx .int (.int .i64 (k:Int)) (.int .i64 (a:Int))=some false:=by rw[keyN,beq_false_of_ne (λe=>h e.symm)]
   rcases Jaa l (i+1) with ⟨h1,h2,h3⟩|⟨j,h1,h3⟩
   ·refine .inl ⟨?_,by rw[KC,if_neg h];exact h2,λb=>?_⟩
    ·simp only[kz,Gd,QK,e];exact h1
    ·rw[Jat,if_neg h];show (_::(kz l++_))=(_::kz (Jat k b l));rw[h3]
   ·refine .inr ⟨j+1,?_,λb=>?_⟩
    ·simp only[kz,Gd,QK,e,KC,if_neg h];rw[show i+(j+1)=i+1+j by omega];exact h1
    ·rw[Jat,if_neg h];show (_::(kz l).set j _)=(_::kz (Jat k b l));rw[h3]
structure FT0 where
 t:Tr
 of:List Int
 up:List Int
 fi:List Int
variable (K:FT0)(S:FS)
def fRow (b:Option Nat):List CV:=[.rslc 5 (ndz K.t.nodes) none,.rslc 1 (iz K.t.items) none,.rslc 1 (iz K.of) none,.rslc 1 (iz K.up) none,.rslc 1 (iz K.fi) none,.slc 1 0 K.t.nodes.length (some K.t.nodes.length),.slc 2 0 K.t.nodes.length (some K.t.nodes.length),.map 3,.map 4,.int .i64 ((b.getD 0:Nat):Int),.bool b.isSome]
def hpF (X:List CObj):List CObj:=.arr 11 [fRow K S.bad] :: .arr 1 (gz S.got) :: .arr 1 (bqz S.dn) :: .map (kz S.fd) :: .map (kz S.fg)::X
variable {K S}
theorem ren_kz {l:List (Nat×Bool)}{ρ:List Nat}:(kz l).map (λp=>(ren ρ p.1,ren ρ p.2))=kz l:=by
 unfold kz;rw[GK];rfl
theorem ren_gz {l:List TL}{ρ:List Nat}:(gz l).map (JB ρ)=gz l:=Ja (QA l)
theorem ren_bqz {l:List Bool}{ρ:List Nat}:(bqz l).map (JB ρ)=bqz l:=Ja (QF l)
theorem ren_hp {X:List CObj}{ρ:List Nat}:Kl (0::1::2::3::4::ρ) (hpF K S X)=hpF K S (ρ.map λid=>Xv (0::1::2::3::4::ρ) ((hpF K S X).getD id .dead)):=by
 have h1:Xv (0::1::2::3::4::ρ) (.arr 1 (gz S.got))=.arr 1 (gz S.got):=by rw[Jk,ren_gz]
 have h2:Xv (0::1::2::3::4::ρ) (.arr 1 (bqz S.dn))=.arr 1 (bqz S.dn):=by rw[Jk,ren_bqz]
 have h3:Xv (0::1::2::3::4::ρ) (.map (kz S.fd))=.map (kz S.fd):=by rw[Jgr,ren_kz]
 have h4:Xv (0::1::2::3::4::ρ) (.map (kz S.fg))=.map (kz S.fg):=by rw[Jgr,ren_kz]
 have h0:Xv (0::1::2::3::4::ρ) (.arr 11 [fRow K S.bad])=.arr 11 [fRow K S.bad]:=rfl;show [Xv _ (.arr 11 [fRow K S.bad]),Xv _ (.arr 1 (gz S.got)),Xv _ (.arr 1 (bqz S.dn)),Xv _ (.map (kz S.fd)),Xv _ (.map (kz S.fg))]++_=_;rw[h0,h1,h2,h3,h4];rfl
theorem frz_fRow {id z:Nat}{e:List (List CV)}{b:Option Nat}(h:5<=id):JX id z e (fRow K b)=fRow K b:=by
 have h1:¬1=id:=by omega
 have h2:¬2=id:=by omega
 simp only[fRow,JX,frz,if_neg h1,if_neg h2]
theorem frz_hp {X:List CObj}{id z:Nat}{e:List (List CV)}:Ku (id+5) z e (hpF K S X)=hpF K S ((X.map (Qa (id+5) z e)).set id .dead):=by
 have h3:∀l:List (Nat×Bool),(kz l).map (λp=>(frz (id+5) z e p.1,frz (id+5) z e p.2))=kz l:=λl=>by unfold kz;rw[GK];rfl
 have h0:=frz_fRow (K:=K) (id:=id+5) (z:=z) (e:=e) (b:=S.bad) (by omega);simp only[hpF,Ku,Gd,Gj,Qa,h0,h3,JC (QA _),JC (QF _),GA]
theorem back_out {σ:List Nat}{n:Nat}{H':List CObj}(hσ:σ=[0,1,2,3,4])(hH:H'.length=5):∀(X:List CObj) (k:Nat),5<=k->Jak σ n k H' X=X
 |[],k,_=>by
  subst hσ;rw[Jak,HV (by simp[hH])];rfl
 |o::X,k,hk=>by
  have h:Jm k σ 0=none:=by
   subst hσ;simp only[Jm];rw[iN7,iN7,iN7,iN7,iN7]
  rw[Jak,h,back_out hσ hH X (k+1) (by omega)]
theorem back_hp {S':FS}{X:List CObj}{n:Nat}:Jak [0,1,2,3,4] n 0 (hpF K S' []) (hpF K S X)=hpF K S' X:=by
 have h1:=JdG (τ:=tau [0,1,2,3,4] n) (z:=1) (QA S'.got);have h2:=JdG (τ:=tau [0,1,2,3,4] n) (z:=1) (QF S'.dn);have h3:∀l:List (Nat×Bool),moO (tau [0,1,2,3,4] n) (.map (kz l))=.map (kz l):=λl=>by
  show CObj.map ((kz l).map λp=>(mo _ p.1,mo _ p.2))=_;unfold kz;rw[GK];rfl
 have h0:moO (tau [0,1,2,3,4] n) (.arr 11 [fRow K S'.bad])=.arr 11 [fRow K S'.bad]:=rfl;show moO _ (.arr 11 [fRow K S'.bad])::moO _ (.arr 1 (gz S'.got))::moO _ (.arr 1 (bqz S'.dn))::moO _ (.map (kz S'.fd))::moO _ (.map (kz S'.fg))::Jak [0,1,2,3,4] n 5 (hpF K S' []) X=_;rw[h0,h1,h2,h3,h3,back_out rfl rfl X 5 (Gr _)];rfl
def FMe (P:Program)(f:Nat)(args:List CV)(K:FT0)(S S':FS)(res:CV):Prop:=CallsC P Env.none f (.ptr 0 0 0::args) (hpF K S []) λv H'=>v=res/\H'=hpF K S' []
theorem FMe.on {P:Program}{E:Env}{f:Nat}{args:List CV}{S':FS}{res:CV}{X:List CObj}(h:FMe P f args K S S' res)(ha:Jp args=true)(hr:res.closed=true):CallsC P E f (.ptr 0 0 0::args) (hpF K S X) λv H'=>v=res/\H'=hpF K S' X:=by
 refine(CallsC.loc [0,1,2,3,4] h ?_ ?_ ?_).mono ?_
 ·show ren _ (.ptr 0 0 0)::JB _ args=_;rw[Xb args ha];rfl
 ·rw[ren_hp];rfl
 ·rfl
 ·rintro v H' ⟨v0,H0,⟨rfl,rfl⟩,rfl,rfl⟩;exact⟨Jeo _ hr,back_hp⟩
theorem Fnl.out {v v0:CV}{X:List CObj}(hw:wk v v0)(hc:v.closed=true):Fnl 5 v0 (hpF K S []) v (hpF K S X):=by
 refine .ren [0,1,2,3,4] (by simp[JcJ,hpF,Lb]) ?_;rw[ren_hp,YT v hc];exact .done hw
theorem Fnl.one {v v0:CV}{X:List CObj}(id:Nat){z:Nat}{els:List (List CV)}(hX:X[id]? = some (.arr z els))(hc:Jr els=true)(Aq:(Go.Cm.frz (id+5) z els v).closed=true)(hw:wk (Go.Cm.frz (id+5) z els v) v0):Fnl 5 v0 (hpF K S []) v (hpF K S X):=
 .frz (id+5) z els hX hc (by rw[frz_hp];exact Fnl.out hw Aq)
theorem Fnl.more {v v0:CV}{X:List CObj}(id:Nat){z:Nat}{els:List (List CV)}(hX:X[id]? = some (.arr z els))(hc:Jr els=true)(h:Fnl 5 v0 (hpF K S []) (Go.Cm.frz (id+5) z els v) (hpF K S ((X.map (Qa (id+5) z els)).set id .dead))):Fnl 5 v0 (hpF K S []) v (hpF K S X):=
 .frz (id+5) z els hX hc (by rw[frz_hp];exact h)
theorem J5 {P:Program}{f:Nat}{args:List CV}{S':FS}{res:CV}(h:CallsC P Env.none f (.ptr 0 0 0::args) (hpF K S []) λv H'=>Fnl 5 res (hpF K S' []) v H'):FMe P f args K S S' res:=CallsC.fnl h
end
def opT:Option TyX->List UInt8
 |none=>[]
 |some a=>tyT a
def Qm:TL->Option TyX
 |[a]=>some a
 |_=>none
theorem Jeg {l:TL}{a:TyX}:Qm l=some a↔l=[a]:=by
 unfold Qm
 split
 ·simp
 ·rename_i h
  constructor
  ·intro h;cases h
  ·intro e;exact absurd e (h a)
theorem oneO_none {l:TL}(h:l.length≠1):Qm l=none:=by
 rcases l with _|⟨a,_|⟨b,l⟩⟩
 ·rfl
 ·exact absurd rfl h
 ·rfl
def prt:Option TyX->Option TyX
 |some (.arr b)=>some b
 |some (.str b)=>some b
 |_=>none
def isStr:Option TyX->Bool
 |some (.str _)=>true
 |_=>false
def JcX:Option TyX->Bool
 |some (.arr _)=>true
 |_=>false
theorem Jes {a:Option TyX}:isStr a=true↔∃b,a=some (.str b):=by
 rcases a with _|a|a|a|a <;> simp[isStr]
theorem isArr_iff {a:Option TyX}:JcX a=true↔∃b,a=some (.arr b):=by
 rcases a with _|a|a|a|a <;> simp[JcX]
theorem Jgd:∀a:TyX,(tyT a).length<=7*tyP a
 |.int=>by simp[tyT,tyP]
 |.bool=>by simp[tyT,tyP]
 |.arr a=>by have:=Jgd a;simp[tyT,tyP];omega
 |.str a=>by have:=Jgd a;simp[tyT,tyP,XJ];omega
theorem tyF_len {t:Tr}:∀f i,tyP (tyF t f i)<=f+1
 |0,_=>by simp[tyF,tyP]
 |f+1,i=>by
  have h:=tyF_len (t:=t) f (JL t i 0);rw[tyF]
  split
  ·simp[tyP]
  ·split
   ·simp[tyP]
   ·split <;> simp[tyP] <;> omega
theorem JdW {t:Tr}{i:Nat}(h:i<1400):(tyT (tyN t i)).length<=10000:=by
 have h1:=Jgd (tyN t i);have h2:=tyF_len (t:=t) (i+1) i;unfold tyN at h1|-;omega
theorem JgU {l:TL}(h:Yd l=true){a:TyX}(ha:a∈l):(tyT a).length<=140:=by
 unfold Yd at h;have:=Hd.1 h a ha;rw[decide_eq_true_eq]at this;have:=Jgd a;omega
theorem Jeh {l:TL}(h:Yd l=true):(opT (Qm l)).length<=140:=by
 cases ho:Qm l with
 |none=>simp[opT]
 |some a=>
  have:=Jeg.1 ho;subst this;exact JgU h (by simp)
theorem prt_len {a:Option TyX}:(opT (prt a)).length<=(opT a).length:=by
 rcases a with _|a|a|a|a <;> simp[prt,opT,tyT] <;> omega
def areB (got:List TL)(w:List UInt8)(ks:List Int):Bool:=ks.all λk=>match Qm (JG got k.toNat) with
 |none=>false
 |some a=>tyT a == w
theorem Jal {got:List TL}{a:TyX}{k:Int}:areB got (tyT a) [k]=(JG got k.toNat == [a]):=by
 simp only[areB,Hl,Ho,Ht]
 cases ho:Qm (JG got k.toNat) with
 |none=>
  symm
  rw[beq_eq_false_iff_ne];intro e;rw[e]at ho;cases ho
 |some b=>
  rw[Jeg.1 ho,Hq,beq_iff_eq,beq_iff_eq];exact⟨λh=>by rw[Jge h],λh=>by cases h;rfl⟩
theorem are_cons {got:List TL}{w:List UInt8}{k:Int}{l:List Int}:areB got w (k::l)=(areB got w [k] && areB got w l):=by
 simp[areB]
theorem are_none {got:List TL}{k:Int}:areB got [] [k]=false:=by
 simp only[areB,Hl,Ho,Ht]
 cases ho:Qm (JG got k.toNat) with
 |none=>rfl
 |some b=>
  rw[beq_eq_false_iff_ne];exact tyT_ne
theorem takeT {l:TL}{i:Nat}(h:i<l.length):l.take (i+1)=l.take i++[l.getD i .int]:=by
 rw[G5 h,Gb,Gh h];rfl
theorem equalTx (a b:TL)(ha:a.length<=100000):Fn Ga 125 [txV a,txV b] (.bool (a == b)):=by
 have Am:(txz a).length=a.length:=Xr;have BF:(txz b).length=b.length:=Xr;refine Jc c125_ok rfl rfl λN=>?_
 by_cases hl:a.length=b.length
 ·have e1:((a.length:Int) != (b.length:Int))=false:=by simp[hl]
  simp -implicitDefEqProofs only[c125,go_sem,txV,Am,BF,e1];refine JI (I:=λi:Nat=>i<=a.length/\a.take i=b.take i) (inv:=λi=>gp [(0,.rslc 1 (txz a) none),(0,.rslc 1 (txz b) none),(10,.int .i64 (a.length:Int)),(0,.int .i64 (i:Int))] 12) (hp:=λ_=>[]) (μ:=λi=>a.length-i) 0 ⟨by omega,by simp⟩ ?_ rfl ?_
  ·simp[forget,gp]
  ·rintro i ⟨hi,Aa⟩;by_cases Ab:i<a.length
   ·have d1:((i:Int)<(a.length:Int))=True:=Jq;have F8:=JaA Ab;have Ud:=JaA (l:=b) (i:=i) (by omega);have dU:=takeT Ab;have dS:=takeT (l:=b) (i:=i) (by omega);simp -implicitDefEqProofs only[go_sem,d1];refine JV Js (by decide) ?_;simp -implicitDefEqProofs only[go_sem,Am,BF,F8,Ud,tyT_eq];refine⟨by omega,by omega,?_⟩;by_cases he:a.getD i .int=b.getD i .int
    ·have e2:(a.getD i .int == b.getD i .int)=true:=by rw[he];simp
     simp -implicitDefEqProofs only[go_sem,e2];refine⟨Jh,i+1,⟨by omega,by rw[dU,dS,Aa,he]⟩,by omega,?_⟩;simp[forget]
    ·have e2:(a.getD i .int == b.getD i .int)=false:=by simpa using he
     have Ah:(a == b)=false:=by
      rw[beq_eq_false_iff_ne];rintro rfl;exact he rfl
     simp -implicitDefEqProofs only[go_sem,e2,Ah]
   ·have d1:((i:Int)<(a.length:Int))=False:=Jo;have he:(a == b)=true:=by
     rw[beq_iff_eq];rw[Gz (by omega),Gz (by omega)]at Aa;exact Aa
    simp -implicitDefEqProofs only[go_sem,d1,he]
 ·have e1:((a.length:Int) != (b.length:Int))=true:=by simp;omega
  have he:(a == b)=false:=by
   rw[beq_eq_false_iff_ne];rintro rfl;exact hl rfl
  simp -implicitDefEqProofs only[c125,go_sem,txV,Am,BF,e1,he]
theorem cloneTx {l:TL}(hl:l.length<=100000):Fn Ga 41 [txV l] (txV l):=by
 cases l with
 |nil=>
  refine JaS ?_ rfl rfl;refine J8 c41_ok λN=>?_
  simp -implicitDefEqProofs only[c41,go_sem,txV,txz,Gj];refine ok_eqnil rfl λb=>?_
  cases b with
  |true=>
   simp -implicitDefEqProofs only[go_sem];exact .inl wk.nils
  |false=>
   simp -implicitDefEqProofs only[go_sem];exact .inr ⟨0,1,[],rfl,rfl,by simp[frz];exact wk.refl _⟩
 |cons x xs=>
  refine(JdL (J8 c41_ok λN=>?_) rfl (KO (x::xs))).fn rfl (KO _);have Ad:(txz xs).length=xs.length:=Xr;simp only[Gc]at hl;simp -implicitDefEqProofs only[c41,go_sem,txV,txz,Gd,Jy];refine⟨by simp;omega,1,by rw[Yi],rfl⟩
theorem indexTx {f:Nat}{F:IFunc}(l:TL)(q:TyX->Bool)(hF:Jf Ga f=some F)(hq:∀p∈l,Fn Ga f [S (tyT p)] (.bool (q p)))(Ad:l.length<=100000):Fn Ga 131 [txV l,.fn f [] []] (.int .i64 (XI q l 0)):=by
 have Ak:(txz l).length=l.length:=Xr;refine Jc c131_ok rfl rfl λN=>?_
 simp -implicitDefEqProofs only[c131,go_sem,txV,Ak];refine JI (I:=λi:Nat=>i<=l.length/\XI q l 0=XI q (l.drop i) i) (inv:=λi=>gp [(0,.rslc 1 (txz l) none),(0,.fn f [] []),(5,.int .i64 l.length),(0,.int .i64 i)] 10) (hp:=λ_=>[]) (μ:=λi=>l.length-i) 0 ⟨by omega,rfl⟩ ?_ rfl ?_
 ·simp[forget,gp]
 ·rintro i ⟨hi,Aa⟩;by_cases Ab:i<l.length
  ·have d1:((i:Int)<(l.length:Int))=True:=Jq;have Av:=JaA Ab;have Ci:l[i]? = some (l.getD i .int):=by rw[Gb,Gh Ab];rfl
   have hm:l.getD i .int∈l:=List.mem_of_getElem? Ci;rw[Q6 Ci]at Aa;simp -implicitDefEqProofs only[go_sem,Ak,d1,Av];refine anO ?_;refine vr_fv (.inl rfl) rfl hF nm (hq _ hm) ?_
   cases hb:q (l.getD i .int) with
   |true=>
    rw[hb,if_pos rfl]at Aa;simp -implicitDefEqProofs only[go_sem,Aa]
   |false=>
    rw[hb]at Aa;simp -implicitDefEqProofs only[go_sem];refine⟨Jh,i+1,⟨by omega,by simpa using Aa⟩,by omega,?_⟩;simp[forget]
  ·have d1:((i:Int)<(l.length:Int))=False:=Jo;rw[HV (by omega)]at Aa;simp -implicitDefEqProofs only[go_sem,d1,Aa,XI]
theorem containsTx {f:Nat}{F:IFunc}(l:TL)(q:TyX->Bool)(hF:Jf Ga f=some F)(hq:∀p∈l,Fn Ga f [S (tyT p)] (.bool (q p)))(Ad:l.length<=100000):Fn Ga 95 [txV l,.fn f [] []] (.bool (l.any q)):=by
 refine Jc c95_ok rfl rfl λN=>?_
 simp -implicitDefEqProofs only[c95,go_sem];refine J6 (indexTx l q hF hq Ad) ?_;simp -implicitDefEqProofs only[go_sem,Jaf]
theorem cutPrefix0 (l p:List UInt8):Fn Ga 97 [S l,S p] (if l.take p.length=p then .tup [S (l.drop p.length),.bool true] else .tup [S l,.bool false]):=by
 refine Jc c97_ok rfl (by split <;> rfl) λN=>?_
 simp +contextual only[c97,go_sem];refine J6 (JfL _ _) ?_;simp +contextual only[go_sem];refine⟨λh=>?_,λh=>?_⟩
 ·simp at h;rw[if_neg h]
 ·simp at h;have hl:=congrArg Lh h;simp at hl;rw[if_pos h,H8];exact⟨by omega,rfl⟩
theorem cutPrefix (l p:List UInt8):Fn Ga 65 [S l,S p] (if l.take p.length=p then .tup [S (l.drop p.length),.bool true] else .tup [S l,.bool false]):=by
 refine Jc c65_ok rfl (by split <;> rfl) λN=>?_
 simp +contextual only[c65,go_sem];refine J6 (cutPrefix0 _ _) ?_;by_cases h:l.take p.length=p
 ·simp +contextual only[go_sem,if_pos h]
 ·simp +contextual only[go_sem,if_neg h]
def wStr:List UInt8:=[115,116,114,101,97,109]
def wArr:List UInt8:=[91,93]
def innX:Option TyX->CV
 |some (.arr b)=>.tup [S wArr,S (tyT b),.bool true]
 |some (.str b)=>.tup [S wStr,S (tyT b),.bool true]
 |_=>.tup [S [],S [],.bool false]
theorem innX_closed:∀a,(innX a).closed=true
 |none=>rfl
 |some .int=>rfl
 |some .bool=>rfl
 |some (.arr _)=>rfl
 |some (.str _)=>rfl
theorem opT_str {a:Option TyX}:(opT a).take 7=XJ↔∃b,a=some (.str b):=by
 constructor
 ·intro h;rcases a with _|a|a|a|a
  ·simp[opT,XJ]at h
  ·simp[opT,tyT,XJ]at h
  ·simp[opT,tyT,XJ]at h
  ·simp[opT,tyT,XJ]at h
  ·exact⟨a,rfl⟩
 ·rintro⟨b,rfl⟩;simp[opT,tyT,XJ]
theorem arr_facts {b:TyX}:∃l,tyT (.arr b)=l/\l.length=(tyT b).length+2/\l.getD 0 0=91/\l.getD (l.length-1) 0=93/\(l.take (l.length-1)).drop 1=tyT b:=by
 refine⟨_,rfl,by simp[tyT],rfl,?_,?_⟩
 ·simp[tyT]
 ·simp[tyT]
section
theorem tyP_len:∀a:TyX,tyP a<=(tyT a).length+1
 |.int=>by simp[tyT,tyP]
 |.bool=>by simp[tyT,tyP]
 |.arr a=>by have:=tyP_len a;simp[tyT,tyP];omega
 |.str a=>by have:=tyP_len a;simp[tyT,tyP,XJ];omega
theorem Jdx (a:Option TyX)(hl:(opT a).length<=100000):Fn Ga 43 [S (opT a)] (innX a):=by
 refine Jc c43_ok rfl (innX_closed a) λN=>?_
 simp -implicitDefEqProofs only[c43,go_sem];refine J6 (cutPrefix (opT a) XJ) ?_;by_cases h:∃b,a=some (.str b)
 ·obtain⟨b,rfl⟩:=h;have h7:(opT (some (.str b))).take XJ.length=XJ:=opT_str.2 ⟨b,rfl⟩;have hd:(opT (some (.str b))).drop XJ.length=tyT b:=by simp[opT,tyT,XJ]
  rw[if_pos h7,hd];simp -implicitDefEqProofs only[go_sem,innX];rfl
 ·have h7:¬(opT a).take XJ.length=XJ:=λe=>h (opT_str.1 e)
  rw[if_neg h7];rcases a with _|a|a|b|b
  ·simp -implicitDefEqProofs only[go_sem,opT,innX,Gf]
  ·simp -implicitDefEqProofs only[go_sem,opT,tyT,innX,Gc,Gf,show ((1:Int)<((0+1+1+1:Nat):Int))=True from Jq,Gu,show ((((105:UInt8).toNat:Nat):Int) == 91)=false from rfl];decide
  ·simp -implicitDefEqProofs only[go_sem,opT,tyT,innX,Gc,Gf,show ((1:Int)<((0+1+1+1+1:Nat):Int))=True from Jq,Gu,show ((((98:UInt8).toNat:Nat):Int) == 91)=false from rfl];decide
  ·obtain⟨l,e,h1,h2,h3,h4⟩:=arr_facts (b:=b);simp only[opT,e]at hl|-;have d1:((1:Int)<(l.length:Int))=True:=Jq;simp -implicitDefEqProofs only[go_sem,d1,h2,h3,innX,show ((((91:UInt8).toNat:Nat):Int) == 91)=true from rfl,show ((((93:UInt8).toNat:Nat):Int) == 93)=true from rfl];refine⟨by omega,Jh,⟨by omega,by omega⟩,?_⟩;refine JV Js (by decide) ?_;simp -implicitDefEqProofs only[go_sem,h4];exact⟨Jh,by omega,rfl⟩
  ·exact absurd ⟨b,rfl⟩ h
theorem Jgc (a:TyX)(hl:(tyT a).length<=100000):Fn Ga 42 [S (tyT a)] (.int .i64 (tyP a:Int)):=by
 have hp:tyP a<=100001:=by have:=tyP_len a;omega
 refine Jc c42_ok rfl rfl λN=>?_
 simp -implicitDefEqProofs only[c42,go_sem];refine JI (I:=λs:Nat×TyX=>s.1+tyP s.2=tyP a+1/\(tyT s.2).length<=100000) (inv:=λs=>gp [(0,S (tyT s.2)),(2,.int .i64 (s.1:Int))] 21) (hp:=λ_=>[]) (μ:=λs=>tyP s.2) (1,a) ⟨by simp only;omega,hl⟩ ?_ rfl ?_
 ·simp[forget,gp]
 ·rintro⟨m,r⟩ ⟨h1,h2⟩
  dsimp only at h1 h2
  simp -implicitDefEqProofs only[go_sem];refine J6 (Jdx (some r) h2) ?_;rcases r with _|_|b|b
  ·simp only[tyP]at h1;obtain rfl:m=tyP a:=by omega
   simp -implicitDefEqProofs only[go_sem,innX,tyT]
  ·simp only[tyP]at h1;obtain rfl:m=tyP a:=by omega
   simp -implicitDefEqProofs only[go_sem,innX,tyT,show (([98,111,111,108]:List UInt8) == [105,110,116])=false from by decide,beq_self_eq_true]
  all_goals
   simp only[tyP]at h1;have h3:(tyT b).length<=100000:=by simp only[tyT,XJ,Gc,HZ,Gf]at h2;omega
   simp -implicitDefEqProofs only[go_sem,innX];refine⟨Jh,(m+1,b),⟨by simp only;omega,h3⟩,by simp only[tyP];omega,?_⟩;simp[forget]
theorem typGreat1 (a:TyX)(hl:(tyT a).length<=100000):Fn Ga 96 [S (tyT a)] (.bool (decide (20<tyP a))):=by
 refine Jc c96_ok rfl rfl λN=>?_
 simp -implicitDefEqProofs only[c96,go_sem];refine J6 (Jgc a hl) ?_;simp -implicitDefEqProofs only[go_sem]
 congr 1
 exact decide_eq_decide.2 (by omega)
theorem typGreat (l:TL)(hn:l.length<=100000)(hl:∀a∈l,(tyT a).length<=100000):Fn Ga 63 [txV l] (.bool (!Yd l)):=by
 have he:l.any (λa=>decide (20<tyP a)) = !Yd l:=by
  unfold Yd;rw[Hq,List.any_eq_true,Bool.not_eq_true',<-Bool.not_eq_true,Hd];simp only[decide_eq_true_eq]
  constructor
  ·rintro⟨x,h1,h2⟩ h;have:=h x h1;omega
  ·intro h;refine Classical.byContradiction λhn=>h λx hx=>?_
   refine Classical.byContradiction λh2=>hn ⟨x,hx,by omega⟩
 refine Jc c63_ok rfl rfl λN=>?_
 simp -implicitDefEqProofs only[c63,go_sem,txV];refine J6 (containsTx l _ c96_ok (λp hp=>typGreat1 p (hl p hp)) hn) ?_;simp -implicitDefEqProofs only[go_sem,he]
theorem JdV (l:List UInt8)(hl:l.length<=100000):Fn Ga 75 [S l] (S (XJ++l)):=by
 refine Jc c75_ok rfl rfl λN=>?_
 simp -implicitDefEqProofs only[c75,go_sem];exact⟨by omega,rfl⟩
theorem typArray (l:List UInt8)(hl:l.length<=100000):Fn Ga 74 [S l] (S (91::(l++[93]))):=by
 refine Jc c74_ok rfl rfl λN=>?_
 simp -implicitDefEqProofs only[c74,go_sem];exact⟨by omega,by omega⟩
section
variable {P:Program}{E:Env}{n0:Nat}{N:Fr}{Q:Exit->List CV->List CObj->Prop}{H:List CObj}{T:List CV}{k:List KItem}{K:FT0}{Z Z':FS}
theorem Kt {d:Option Nat}{ge:Option (Nat×Bool)}{f:Nat}{ags:List IArg}{l:List IOper}{args:List CV}{res:CV}{X:List CObj}(hM:FMe P f args K Z Z' res)(hg:GOk T ge)(ha:ags.map (J7 T)=.ptr 0 0 0::args)(hH:H=hpF K Z X)(hc:Jp args=true)(hr:res.closed=true)(h:Kn P E n0 N Q (.ops l::k) (put T d res) (hpF K Z' X)):Ok P E n0 N Q (.ops (⟨d,.call f ags,ge⟩::l)::k) T H:=by
 subst hH;refine Ke hg (by rw[ha];exact hM.on hc hr) ?_;rintro v H' ⟨rfl,rfl⟩;exact h
theorem Jcz {X:List CObj}{z:Nat}{els:List (List CV)}(id:Nat)(hH:H=hpF K Z X)(hX:X[id]? = some (.arr z els))(hc:Jr els=true)(h:Kn P E n0 N Q k (JX (id+5) z els T) (hpF K Z ((X.map (Qa (id+5) z els)).set id .dead))):Ok P E n0 N Q k T H:=by
 subst hH;refine Jd (id:=id+5) (z:=z) (els:=els) hX hc ?_;rw[frz_hp];exact h
end
section
variable {K:FT0}{Z:FS}
theorem Fnl.same {v:CV}:Fnl 5 v (hpF K Z []) v (hpF K Z []):=.done (wk.refl _)
theorem fmOne {i:Nat}(hi:i<K.t.nodes.length)(hl:Z.got.length=K.t.nodes.length):FMe Ga 130 [.int .i64 (i:Int)] K Z Z (.tup [S (opT (Qm (JG Z.got i))),.bool (Qm (JG Z.got i)).isSome]):=by
 have hg:=XA (l:=Z.got) (i:=i) (by omega);have A9:(gz Z.got).length=K.t.nodes.length:=by rw[Yl,hl]
 refine J5 (J8 c130_ok λN=>?_);generalize JG Z.got i=l at *;rcases l with _|⟨a,_|⟨b,l⟩⟩
 ·simp -implicitDefEqProofs only[c130,go_sem,hpF,fRow,hg,A9,txV,txz,Gj,Gf];exact⟨⟨by omega,by omega⟩,by omega,.done (wk.refl _)⟩
 ·have d1:(((1:Nat):Int) != 1)=false:=rfl;simp -implicitDefEqProofs only[c130,go_sem,hpF,fRow,hg,A9,txV,txz,Gj,Gd,Gc,Gf,d1];exact⟨⟨by omega,by omega⟩,by omega,by omega,.done (wk.refl _)⟩
 ·have d1:(((l.length+1+1:Nat):Int) != 1)=true:=by simp;omega
  simp -implicitDefEqProofs only[c130,go_sem,hpF,fRow,hg,A9,txV,txz,Gd,Gc,Gf,Lc,d1];exact⟨⟨by omega,by omega⟩,by omega,.done (wk.refl _)⟩
theorem fmBare {i:Nat}(hi:i<K.t.nodes.length):FMe Ga 129 [.int .i64 (i:Int)] K Z Z (.bool (nd K.t i).kids.isEmpty):=by
 have hg:=JY hi;have Ay:(iz (nd K.t i).kids).length=(nd K.t i).kids.length:=Jg;refine J5 (J8 c129_ok λN=>?_);simp -implicitDefEqProofs only[c129,go_sem,hpF,fRow,Jb,hg,Nd.cv,Ay];refine anO ?_;rw[show ((((nd K.t i).kids.length:Nat):Int) == 0)=(nd K.t i).kids.isEmpty by cases (nd K.t i).kids <;> simp;omega];exact .done (wk.refl _)
end
section
variable {K:FT0}{o:List Int}(g:GoodT K.t o)(ht:K.t.Fit){Z:FS}
include g ht
theorem fmExpr {s:Nat}(hs:s<K.t.nodes.length)(hk:(nd K.t s).k=41):FMe Ga 155 [.int .i64 (s:Int)] K Z Z (.int .i64 (Jl K.t s:Int)):=by
 have hg:=JY hs;obtain⟨b1,_,_,b4⟩:=KV g hs hk;have hn:=(JdN ht hs).n;obtain⟨a,hN,Ad,_,_⟩:=Y4 g hs hk;change (nd K.t s).n=a at hN;change (nd K.t s).kids.length=a+1 at Ad;have Ay:(iz (nd K.t s).kids).length=a+1:=by rw[Jg];exact Ad
 have A9:=lastz g hs (by omega);rw[show (nd K.t s).kids.length-1=a by omega]at A9;refine J5 (J8 c155_ok λN=>?_);simp -implicitDefEqProofs only[c155,go_sem,hpF,fRow];refine Kj [0,0,0,0,1,0,0,0,0,0,0,0,0,1,0,0,0,0,0,0,0] Js (by decide +kernel) ?_;simp -implicitDefEqProofs only[go_sem,Jb,hg,Nd.cv,Ay,hN,A9]
 repeat refine anO ?_
 exact .done (wk.refl _)
omit ht in
theorem XC:∀i,i<K.t.nodes.length->60<=(nd K.t i).k->(nd K.t i).k<=63->FMe Ga 58 [.int .i64 (i:Int)] K Z Z (S (tyT (tyN K.t i))):=by
 intro i
 induction i using Ll with
 |_ i ih=>
  intro hi h1 h2;have Ai:=g.many;have hg:=JY hi;rw[tyN_eq g hi h1 h2];refine J5 (J8 c58_ok λN=>?_);by_cases Sv:(nd K.t i).k=60
  ·rw[if_pos Sv];simp -implicitDefEqProofs only[c58,go_sem,hpF,fRow,Jb,hg,Nd.cv,Sv,Gm,beq_self_eq_true]
   repeat refine anO ?_
   exact .out (wk.refl _) rfl
  ·by_cases Un:(nd K.t i).k=61
   ·rw[if_neg Sv,if_pos Un];simp -implicitDefEqProofs only[c58,go_sem,hpF,fRow,Jb,hg,Nd.cv,Un,Gm,beq_self_eq_true,show ((61:Int) == 60)=false from rfl]
    repeat refine anO ?_
    exact .out (wk.refl _) rfl
   ·obtain⟨q1,q2,q3,q4⟩:=Jcf g hi (.inr (.inl (by omega)));have hl:=Jbi g hi (.inr (.inr (.inr (by omega))));obtain⟨a,ha⟩:∃a,(nd K.t i).kids=[a]:=by
     match h:(nd K.t i).kids,hl with
     |[a],_=>exact⟨_,rfl⟩
    have hr:=g.kid hi (k:=a) (by change a∈(nd K.t i).kids;rw[ha];simp);obtain⟨a,rfl⟩:∃a':Nat,a=a':=⟨a.toNat,by omega⟩;have Dv:JL K.t i 0=a:=by unfold JL;rw[ha];rfl
    rw[Dv]at q2 q3 q4|-;have hW:=ih a q2 (by omega) q3 q4;have Cz:=JdW (t:=K.t) (i:=a) (by omega);have Ua:iz (nd K.t i).kids=[[.int .i64 (a:Int)]]:=by rw[ha];rfl
    rcases (show (nd K.t i).k=62\/(nd K.t i).k=63 by omega) with hk|hk
    ·rw[if_neg Sv,if_neg Un,if_pos hk];simp -implicitDefEqProofs only[c58,go_sem,hpF,fRow,Jb,hg,Nd.cv,hk,Ua,Gm,beq_self_eq_true,show ((62:Int) == 60)=false from rfl,show ((62:Int) == 61)=false from rfl,Gc,Gf]
     repeat refine anO ?_
     refine Kt hW (.inl rfl) rfl rfl rfl rfl ?_;simp -implicitDefEqProofs only[go_sem];refine J6 (typArray _ (by omega)) ?_;simp -implicitDefEqProofs only[go_sem];exact .out (wk.refl _) rfl
    ·rw[if_neg Sv,if_neg Un,iN7];simp -implicitDefEqProofs only[c58,go_sem,hpF,fRow,Jb,hg,Nd.cv,hk,Ua,Gm,show ((63:Int) == 60)=false from rfl,show ((63:Int) == 61)=false from rfl,show ((63:Int) == 62)=false from rfl,Gc,Gf]
     repeat refine anO ?_
     refine Kt hW (.inl rfl) rfl rfl rfl rfl ?_;simp -implicitDefEqProofs only[go_sem];refine J6 (JdV _ (by omega)) ?_;simp -implicitDefEqProofs only[go_sem];exact .out (wk.refl _) rfl
end
section
variable {K:FT0}{Z:FS}
def areQ (got:List TL)(w:List UInt8)(k:Int):Bool:=match Qm (JG got k.toNat) with
 |none=>false
 |some a=>tyT a == w
theorem areB_eq {got:List TL}{w:List UInt8}{ks:List Int}:areB got w ks = !ks.any λk=>!areQ got w k:=by
 rw[List.not_any_eq_all_not];simp only[Bool.not_not];rfl
theorem fmAre1 {E:Env}{w:List UInt8}{X:List CObj}{i:Nat}(hi:i<K.t.nodes.length)(hl:Z.got.length=K.t.nodes.length):Pure Ga E 151 [.int .i64 (i:Int),.ptr 5 0 0,.ptr 6 0 0] (hpF K Z (.arr 1 [[.ptr 0 0 0]] :: .arr 1 [[S w]]::X)) (.bool (!areQ Z.got w (i:Int))):=by
 have hO:=fmOne hi hl;refine J8 c151_ok λN=>?_
 unfold areQ;rw[Gi];simp -implicitDefEqProofs only[c151,go_sem,hpF];refine Kt hO (.inl rfl) rfl rfl rfl rfl ?_
 cases Qm (JG Z.got i) with
 |none=>
  simp -implicitDefEqProofs only[go_sem,opT,GZ,hpF]
 |some a=>
  simp -implicitDefEqProofs only[go_sem,opT,GY,hpF]
theorem fmAre {w:List UInt8}{ks:List Int}(hl:Z.got.length=K.t.nodes.length)(hk:∀k∈ks,0<=k/\k<K.t.nodes.length)(hn:ks.length<=1000):FMe Ga 122 [S w,.rslc 1 (iz ks) none] K Z Z (.bool (areB Z.got w ks)):=by
 have hC:∀X,Pure Ga Env.none 152 [.rslc 1 (iz ks) none,.fn 151 [] [.ptr 5 0 0,.ptr 6 0 0]] (hpF K Z (.arr 1 [[.ptr 0 0 0]] :: .arr 1 [[S w]]::X)) (.bool (ks.any λk=>!areQ Z.got w k)):=λX=>
  containsFP ks _ c151_ok (λp hp=>by
   obtain⟨i,rfl⟩:∃i:Nat,p=i:=⟨p.toNat,by have:=(hk p hp).1;omega⟩;exact fmAre1 (by have:=(hk _ hp).2;omega) hl) (by omega)
 refine J5 (J8 c122_ok λN=>?_);rw[areB_eq];simp -implicitDefEqProofs only[c122,go_sem,hpF];refine vr_pc (.inl rfl) (hC []) ?_;simp -implicitDefEqProofs only[go_sem];exact .out (wk.refl _) rfl
theorem JfQ {i:Nat}(hi:i<K.t.nodes.length)(hl:Z.got.length=K.t.nodes.length)(hf:Yd (JG Z.got i)=true):FMe Ga 121 [.int .i64 (i:Int)] K Z Z (.tup [S (opT (prt (Qm (JG Z.got i)))),.bool (isStr (Qm (JG Z.got i)))]):=by
 have hO:=fmOne hi hl;have hI:=Jdx (Qm (JG Z.got i)) (by have:=Jeh hf;omega);refine J5 (J8 c121_ok λN=>?_);simp -implicitDefEqProofs only[c121,go_sem,hpF];refine Kt hO (.inl rfl) rfl rfl rfl rfl ?_;simp -implicitDefEqProofs only[go_sem];refine J6 hI ?_;rcases Qm (JG Z.got i) with _|_|_|b|b
 all_goals
  simp -implicitDefEqProofs only[go_sem,innX,prt,opT,isStr,GZ,GY,wStr,wArr,beq_self_eq_true,show (([]:List UInt8) == [115,116,114,101,97,109])=false from rfl,show (([91,93]:List UInt8) == [115,116,114,101,97,109])=false from rfl];exact .out (wk.refl _) rfl
theorem fmArrayed {i:Nat}(hi:i<K.t.nodes.length)(hl:Z.got.length=K.t.nodes.length)(hf:Yd (JG Z.got i)=true):FMe Ga 123 [.int .i64 (i:Int)] K Z Z (.tup [S (opT (prt (Qm (JG Z.got i)))),.bool (JcX (Qm (JG Z.got i)))]):=by
 have hO:=fmOne hi hl;have hI:=Jdx (Qm (JG Z.got i)) (by have:=Jeh hf;omega);refine J5 (J8 c123_ok λN=>?_);simp -implicitDefEqProofs only[c123,go_sem,hpF];refine Kt hO (.inl rfl) rfl rfl rfl rfl ?_;simp -implicitDefEqProofs only[go_sem];refine J6 hI ?_;rcases Qm (JG Z.got i) with _|_|_|b|b
 all_goals
  simp -implicitDefEqProofs only[go_sem,innX,prt,opT,JcX,GZ,GY,wStr,wArr,beq_self_eq_true,show (([]:List UInt8) == [91,93])=false from rfl,show (([115,116,114,101,97,109]:List UInt8) == [91,93])=false from rfl];exact .out (wk.refl _) rfl
end
end
section
section
variable {k:Nat}{ks:List Int}{n:Nat}{K L:Nat->TL}{ty:TyX}{sp sr si gm:TL}
theorem rk_cons:J2 4 ks n K L ty sp sr si gm=if (isStr (Qm (K 1)) && K 0 == [(prt (Qm (K 1))).getD .int])=true then some [.str ((prt (Qm (K 1))).getD .int)] else none:=by
 rcases h:K 1 with _|⟨a,_|⟨b,l⟩⟩
 ·simp[J2,h,Qm,isStr]
 ·cases a <;> simp[J2,h,Qm,isStr,prt]
 ·simp[J2,h,Qm,isStr]
theorem rk_or (hk:k=5\/k=6):J2 k ks n K L ty sp sr si gm=if (K 0 == [.bool] && K 1 == [.bool])=true then some [.bool] else none:=by
 rcases hk with rfl|rfl <;> simp[J2]
theorem rk_eq (hk:k=7\/k=8):J2 k ks n K L ty sp sr si gm=if (K 0 == [.int] && K 1 == [.int] || K 0 == [.bool] && K 1 == [.bool])=true then some [.bool] else none:=by
 rcases hk with rfl|rfl <;> simp[J2]
theorem rk_lt (hk:9<=k/\k<=12):J2 k ks n K L ty sp sr si gm=if (K 0 == [.int] && K 1 == [.int])=true then some [.bool] else none:=by
 rcases (show k=9\/k=10\/k=11\/k=12 by omega) with rfl|rfl|rfl|rfl <;> simp[J2]
theorem rk_add (hk:13<=k/\k<=17):J2 k ks n K L ty sp sr si gm=if (K 0 == [.int] && K 1 == [.int])=true then some [.int] else none:=by
 rcases (show k=13\/k=14\/k=15\/k=16\/k=17 by omega) with rfl|rfl|rfl|rfl|rfl <;> simp[J2]
theorem rk_read:J2 18 ks n K L ty sp sr si gm=if (JcX (Qm (K 0)) && K 1 == [.int])=true then some [(prt (Qm (K 0))).getD .int] else none:=by
 rcases h:K 0 with _|⟨a,_|⟨b,l⟩⟩
 ·simp[J2,h,Qm,JcX]
 ·cases a <;> simp[J2,h,Qm,JcX,prt]
 ·simp[J2,h,Qm,JcX]
theorem rk_not:J2 19 ks n K L ty sp sr si gm=if (K 0 == [.bool])=true then some [.bool] else none:=by simp[J2]
theorem rk_neg:J2 20 ks n K L ty sp sr si gm=if (K 0 == [.int])=true then some [.int] else none:=by simp[J2]
theorem rk_head:J2 21 ks n K L ty sp sr si gm=if isStr (Qm (K 0))=true then some [(prt (Qm (K 0))).getD .int] else none:=by
 rcases h:K 0 with _|⟨a,_|⟨b,l⟩⟩
 ·simp[J2,h,Qm,isStr]
 ·cases a <;> simp[J2,h,Qm,isStr,prt]
 ·simp[J2,h,Qm,isStr]
theorem rk_tail:J2 22 ks n K L ty sp sr si gm=if isStr (Qm (K 0))=true then some (K 0) else none:=by
 rcases h:K 0 with _|⟨a,_|⟨b,l⟩⟩
 ·simp[J2,h,Qm,isStr]
 ·cases a <;> simp[J2,h,Qm,isStr]
 ·simp[J2,h,Qm,isStr]
theorem Jgm:J2 23 ks n K L ty sp sr si gm=if isStr (Qm (K 0))=true then some [.bool] else none:=by
 rcases h:K 0 with _|⟨a,_|⟨b,l⟩⟩
 ·simp[J2,h,Qm,isStr]
 ·cases a <;> simp[J2,h,Qm,isStr]
 ·simp[J2,h,Qm,isStr]
theorem rk_size:J2 24 ks n K L ty sp sr si gm=if JcX (Qm (K 0))=true then some [.int] else none:=by
 rcases h:K 0 with _|⟨a,_|⟨b,l⟩⟩
 ·simp[J2,h,Qm,JcX]
 ·cases a <;> simp[J2,h,Qm,JcX]
 ·simp[J2,h,Qm,JcX]
theorem rk_nil:J2 25 ks n K L ty sp sr si gm=some [.str ty]:=rfl
theorem rk_call:J2 26 ks n K L ty sp sr si gm=if ks.length=sp.length/\∀j,j<ks.length->K j=[sp.getD j .int] then some sr else none:=rfl
theorem rk_if:J2 27 ks n K L ty sp sr si gm=if (K 0 == [.bool] && K 1 == K 2)=true then some (K 1) else none:=by simp[J2]
theorem rk_loop:J2 28 ks n K L ty sp sr si gm=if (K n == [.bool])=true then some (K (ks.length-1)) else none:=by simp[J2]
theorem Jgo:J2 29 ks n K L ty sp sr si gm=if (Qm (L 1)).isSome=true/\((Gg (ks.length-1)).all λj=>L (j+1) == [(Qm (L 1)).getD .int])=true/\K 0=[.int] then some [.arr ((Qm (L 1)).getD .int)] else none:=by
 rcases h:L 1 with _|⟨a,_|⟨b,l⟩⟩
 ·simp[J2,h,Qm]
 ·simp[J2,h,Qm]
 ·simp[J2,h,Qm]
theorem rk_block:J2 40 ks n K L ty sp sr si gm=Yn ((Gg (ks.length-n)).map λj=>K (n+j)):=rfl
theorem rk_give:J2 45 ks n K L ty sp sr si gm=Yn ((Gg ks.length).map K):=rfl
theorem Jgn:J2 42 ks n K L ty sp sr si gm=if ks=[] then some [] else some [ty]:=rfl
theorem rk_param:J2 64 ks n K L ty sp sr si gm=some [ty]:=rfl
theorem rk_init:J2 43 ks n K L ty sp sr si gm=if (Qm (K 0)).isSome=true then some [(Qm (K 0)).getD .int] else none:=by
 rcases h:K 0 with _|⟨a,_|⟨b,l⟩⟩ <;> simp[J2,h,Qm]
theorem rk_next:J2 44 ks n K L ty sp sr si gm=if ((Qm gm).isSome && K 0 == [(Qm gm).getD .int])=true then some [] else none:=by
 rcases gm with _|⟨a,_|⟨b,l⟩⟩ <;> simp[J2,Qm]
theorem rk_def:J2 65 ks n K L ty sp sr si gm=if (K (ks.length-1) == si)=true then some [] else none:=by simp[J2]
theorem rk_else (hk:29<k)(h:k≠40/\k≠45/\k≠42/\k≠64/\k≠43/\k≠44/\k≠47/\k≠65):J2 k ks n K L ty sp sr si gm=some []:=by
 obtain⟨h1,h2,h3,h4,h5,h6,h7,h8⟩:=h;unfold J2
 repeat rw[iN7]
end
end
section
def upZ (t:Tr)(i:Nat):List Int:=(upTo t i).map λx=>if x<0 then 0 else x
def fiZ (t:Tr)(o:List Int)(i:Nat):List Int:=(Gg t.nodes.length).map λ(j:Nat)=>if j<i then fs o (j:Int) else 0
def fiS (o:List Int)(i:Nat)(ks:List Int)(s:Nat):Int:=if s=0 then i else fs o (ks.reverse.getD (s-1) 0)
theorem JcC {t:Tr}{i:Nat}:(upZ t i).length=t.nodes.length:=by simp[upZ,Yz]
theorem JaT {t:Tr}{o:List Int}{i:Nat}:(fiZ t o i).length=t.nodes.length:=by simp[fiZ]
theorem fiZ_get {t:Tr}{o:List Int}{i j:Nat}(h:j<i)(hj:j<t.nodes.length):(fiZ t o i).getD j 0=fs o (j:Int):=by
 simp[fiZ,Gb,hj,h]
theorem fiZ_zero {t:Tr}{o:List Int}:fiZ t o 0=Hg t.nodes.length 0:=by
 refine La (by simp[fiZ]) λj h1 h2=>?_
 simp[fiZ]
section
variable {t:Tr}{o:List Int}(g:GoodT t o)
include g
theorem upZ_zero:upZ t 0=Hg t.nodes.length 0:=by
 unfold upZ;rw[upTo_zero g,List.map_replicate];rfl
theorem upZ_succ {i:Nat}(hi:i<t.nodes.length):upZ t (i+1)=Xj i (upZ t i) (nd t i).kids.reverse:=by
 refine H7 λj=>?_
 have hk:∀k∈(nd t i).kids,0<=k:=λk hk=>(g.kid hi hk).1
 rw[Jbc _ _ _ λk h=>hk k (by simpa using h),JcC];unfold upZ;rw[upTo_succ g hi,GD,Jbc _ _ _ hk,Yz,GD];simp only[List.mem_reverse]
 split
 ·simp;omega
 ·rfl
theorem up_kid {i:Nat}(hi:i<t.nodes.length){k:Nat}(hk:(k:Int)∈(nd t i).kids):(upZ t t.nodes.length).getD k 0=i:=by
 have h1:=JQ g hi hk;unfold upZ;rw[upTo_all g,upT,GK,Gb,GD,Gt (by omega)];simp only[Hw,GH,Function.comp,h1.1];rw[iN7]
theorem fs_kid {i:Nat}(hi:i<t.nodes.length):fs o (i:Int)=fiS o i (nd t i).kids (nd t i).kids.length:=by
 have hc:=g.ord.kids (Ka hi);change chain o o.length (fs o i) (nd t i).kids i at hc;unfold fiS;generalize (nd t i).kids=ks at hc
 cases ks with
 |nil=>exact hc
 |cons k l=>
  obtain⟨⟨_,_,h⟩,_⟩:=hc;rw[if_neg (by simp),Gc,Nat.add_sub_cancel,List.reverse_cons,Gb,GM (by simp)];simp only[List.length_reverse,Lp,Hz,GH];exact h.symm
theorem fiZ_succ {i:Nat}(hi:i<t.nodes.length):(fiZ t o i).set i (fiS o i (nd t i).kids (nd t i).kids.length)=fiZ t o (i+1):=by
 rw[<-fs_kid g hi];refine La (by simp[fiZ]) λj h1 h2=>?_
 rw[G9];simp only[fiZ,List.getElem_map,G8];by_cases h:i=j
 ·subst h;rw[if_pos rfl,iP7]
 ·rw[if_neg h];by_cases h3:j<i
  ·rw[if_pos h3,iP7]
  ·rw[if_neg h3,iN7]
end
end
section
theorem Yb {l:TL}{a:TyX}:txz (l++[a])=txz l++[[S (tyT a)]]:=by simp[txz]
theorem txz_nil:txz []=[]:=rfl
def ndA (x:Nd)(n:Int):List CV:=[.int .u8 (x.k:Int),S x.text,.int .i64 n,.rslc 1 (iz x.kids) none,.int .i64 x.pl]
theorem JdY {l:List Int}{a:Nat}:(iz l).take a=iz (l.take a):=by simp[iz]
theorem drop_iz {l:List Int}{a:Nat}:(iz l).drop a=iz (l.drop a):=by simp[iz]
theorem Kk {t:Tr}{o:List Int}(g:GoodT t o){i j:Nat}(hi:i<t.nodes.length)(hj:j<(nd t i).kids.length):(nd t i).kids.getD j 0=(JL t i j:Int):=by
 have hx:(nd t i).kids.getD j 0∈(nd t i).kids:=by
  have:(nd t i).kids.getD j 0=(nd t i).kids[j]:=by rw[Gb,Gh hj];rfl
  rw[this];exact GG hj
 have:=g.kid hi hx;have e:JL t i j=((nd t i).kids.getD j 0).toNat:=rfl;omega
theorem JfE {t:Tr}{o:List Int}(g:GoodT t o){i:Nat}(hi:i<t.nodes.length)(hl:(nd t i).kids.length=1):(nd t i).kids=[(JL t i 0:Int)]:=by
 rw[<-Kk g hi (by omega)]
 match h:(nd t i).kids,hl with
 |[e],_=>rfl
section
variable {K:FT0}{Z:FS}
theorem Qb {X:List CObj}{ρ:List Nat}{Y:List CObj}(h:(ρ.map λid=>Xv (0::1::2::3::4::ρ) ((hpF K Z X).getD id .dead))=Y):Kl (0::1::2::3::4::ρ) (hpF K Z X)=hpF K Z Y:=by rw[ren_hp,h]
theorem JbY {l:TL}:List.take l.length (l.map λa=>[S (tyT a)])=l.map λa=>[S (tyT a)]:=Gz (by simp)
theorem fnl_two {l m:TL}{o:CObj}:Fnl 5 (.tup [txV l,txV m]) (hpF K Z []) (.tup [K6 6 (txz l),K6 7 (txz m)]) (hpF K Z [o,QO 1 (txz l),QO 1 (txz m)]):=by
 rcases l with _|⟨x,l⟩ <;> rcases m with _|⟨y,m⟩
 ·exact .out (YO ⟨wk.nils,wk.nils,trivial⟩) rfl
 ·refine .one 2 rfl (KO (y::m)) ?_ ?_
  ·simp[frz,JX,K6,txz,CV.closed,Jp]
  ·simp[frz,JX,K6,txz,txV,JbY];exact YO ⟨wk.nils,wks.refl _⟩
 ·refine .one 1 rfl (KO (x::l)) ?_ ?_
  ·simp[frz,JX,K6,txz,CV.closed,Jp]
  ·simp[frz,JX,K6,txz,txV,JbY];exact YO ⟨wk.refl _,wk.nils,trivial⟩
 ·refine .more 1 rfl (KO (x::l)) ?_;have e:((txz (y::m)).map (JX (1+5) 1 (txz (x::l))))=txz (y::m):=JC (KO _);refine .one 2 (by simp only[Gd,Gj,GA,Gv];exact congrArg (λq=>some (CObj.arr 1 q)) e) (KO (y::m)) ?_ ?_
  ·simp[frz,JX,K6,txz,CV.closed,Jp]
  ·simp[frz,JX,K6,txz,txV,JbY];exact wk.refl _
variable {o:List Int}(g:GoodT K.t o)(ht:K.t.Fit)
include g ht
theorem fmSign {d:Nat}(hd:d<K.t.nodes.length)(hk:(nd K.t d).k=65):FMe Ga 33 [.int .i64 (d:Int)] K Z Z (.tup [txV (Jar K.t d),txV (Y1 K.t d)]):=by
 have Ai:=g.many;have hg:=JY hd;have BJ:=(JdN ht hd).kidn;obtain⟨a,a1,a2,a3,a4,a5⟩:=Jg5 g hd hk;change (nd K.t d).n=a at a1;change a<(nd K.t d).kids.length at a2;have Ay:(iz (nd K.t d).kids).length=(nd K.t d).kids.length:=Jg;have iB:(Jar K.t d).length=a:=by unfold Jar;simp[a1]
 have Ui:(Y1 K.t d).length=(nd K.t d).kids.length-1-a:=by unfold Y1;simp[a1]
 refine J5 (J8 c33_ok λN=>?_);simp -implicitDefEqProofs only[c33,go_sem,hpF,fRow,Jb,hg,Nd.cv,a1]
 repeat refine And.intro (by first|omega|exact⟨by omega,by omega⟩|(simp;done)) ?_
 refine Jcz (K:=K) (Z:=Z) (X:=[.arr 5 [ndA (nd K.t d) a]]) 0 rfl rfl rfl ?_;simp only[go_sem,JX,frz,Gd,Gj,Qa,Gv,ndA,Gx,if_true,Gu,GI,List.drop_succ_cons];refine XW ?_;simp only[go_sem,hpF,Ha,He,Nat.sub_zero,JdY];have iC:∀j,j<a->∃c:Nat,(nd K.t d).kids.getD j 0=c/\c<K.t.nodes.length/\(nd K.t c).k=64/\∃e:Nat,(nd K.t c).kids=[(e:Int)]/\e<K.t.nodes.length/\60<=(nd K.t e).k/\(nd K.t e).k<=63/\(Jar K.t d).getD j .int=tyN K.t e:=λj hj=>by
  have h1:=JF g hd (i:=j) (by omega);have Dq:(nd K.t (JL K.t d j)).k=64:=by rw[h1.2.2];exact a3 j hj
  obtain⟨q1,q2,q3,q4⟩:=Jcf g (i:=JL K.t d j) (by omega) (.inr (.inl ⟨by omega,by omega⟩));have hl:=Jbi g (i:=JL K.t d j) (by omega) (.inr (.inr (.inr ⟨by omega,by omega⟩)));have hs:(Jar K.t d).getD j .int=tyN K.t (JL K.t (JL K.t d j) 0):=by
   unfold Jar;rw[a1,Gi,Gb,GD,Gt hj];rfl
  have hc:=Kk g hd (j:=j) (by omega);exact⟨JL K.t d j,hc,by omega,Dq,JL K.t (JL K.t d j) 0,JfE g (by omega) hl,by omega,q3,q4,hs⟩
 have iw:∀j,j<(nd K.t d).kids.length-1-a->∃c:Nat,(nd K.t d).kids.getD (a+j) 0=c/\c<K.t.nodes.length/\60<=(nd K.t c).k/\(nd K.t c).k<=63/\(Y1 K.t d).getD j .int=tyN K.t c:=λj hj=>by
  have h1:=JF g hd (i:=a+j) (by omega);have h6:=a4 (a+j) (by omega) (by change a+j+1<(nd K.t d).kids.length;omega);have e:(nd K.t (JL K.t d (a+j))).k=Jv K.t.nodes ((K.t.nodes.getD d default).kids.getD (a+j) 0):=h1.2.2;have hs:(Y1 K.t d).getD j .int=tyN K.t (JL K.t d (a+j)):=by
   unfold Y1;rw[a1,Gi,Gb,GD,Gt hj];rfl
  have hc:=Kk g hd (j:=a+j) (by omega);exact⟨_,hc,by omega,by omega,by omega,hs⟩
 refine Jw (I:=λj:Nat=>j<=a) (inv:=λj=>gp [(0,.ptr 0 0 0),(3,K6 6 (txz ((Jar K.t d).take j))),(0,.nils),(0,.rptr (ndA (nd K.t d) a)),(16,.rslc 1 (iz ((nd K.t d).kids.take a)) none),(0,.int .i64 (a:Int)),(0,.int .i64 (j:Int))] 43) (hp:=λj=>hpF K Z [.dead,QO 1 (txz ((Jar K.t d).take j))]) (μ:=λj=>a-j) 0 [0,1,2,3,4,5,6] (by omega) rfl ?_ ?_ ?_
 ·have Ak:(iz ((nd K.t d).kids.take a)).length=a:=by rw[Jg,Gw];omega
  simp[forget,JB,ren,Jm,gp,ndA,txz,K6,Ak]
 ·exact Qb (K:=K) (Z:=Z) (X:=[.dead,.dead]) rfl
 ·intro j hj;by_cases Ab:j<a
  ·have d1:((j:Int)<(a:Int))=True:=Jq;obtain⟨c,c1,c2,c3,e,c4,c5,c6,c7,c8⟩:=iC j Ab;have Bv:(iz ((nd K.t d).kids.take a)).getD j []=[.int .i64 (c:Int)]:=by
    rw[JN (by rw[Gw];omega),Gb,Hy Ab,<-Gb,c1]
   have Ak:(iz ((nd K.t d).kids.take a)).length=a:=by rw[Jg,Gw];omega
   have DT:=JY c2;have Ua:iz (nd K.t c).kids=[[.int .i64 (e:Int)]]:=by rw[c4];rfl
   simp -implicitDefEqProofs only[go_sem,hpF,fRow,d1,Bv,Ak,Jb,DT,Nd.cv,Ua,Gc,Gf]
   repeat refine And.intro (by first|omega|exact⟨by omega,by omega⟩|(simp;done)) ?_
   refine Kt (XC g e c5 c6 c7) (.inl rfl) rfl rfl rfl rfl ?_;simp -implicitDefEqProofs only[go_sem,hpF];rw[<-c8];have AC:(Jar K.t d).take (j+1)=(Jar K.t d).take j++[(Jar K.t d).getD j .int]:=takeT (by omega);have Dz:(txz ((Jar K.t d).take j)).length=j:=by rw[Xr,Gw];omega
   refine⟨by rw[Dz];unfold Jy;simp[Cond.holds];omega,Jh,j+1,[0,1,2,3,4,5,8],by omega,by omega,rfl,?_,?_⟩
   ·rw[AC,Yb,Kq];exact Qb (K:=K) (Z:=Z) (X:=[.dead,.dead,.arr 1 [[S (tyT ((Jar K.t d).getD j .int))]],.arr 1 (txz ((Jar K.t d).take j)++[[S (tyT ((Jar K.t d).getD j .int))]])]) (by
     have:(txz ((Jar K.t d).take j)++[[S (tyT ((Jar K.t d).getD j .int))]]).map (JB [0,1,2,3,4,5,8])=_:=Ja (by rw[<-Yb];exact KO _);simp only[Gd,Gj,hpF,GQ,Gu,Jj,Jk,this])
   ·rw[AC,Yb,Ko];simp[forget,JB,ren,Jm,ndA]
  ·have d1:((j:Int)<(a:Int))=False:=Jo;obtain rfl:j=a:=by omega
   rw[Gz (Hu iB)];simp -implicitDefEqProofs only[go_sem,hpF,fRow,d1,ndA,Ay];refine⟨Jh,⟨by omega,by omega,by omega⟩,?_⟩;refine XW ?_;simp only[go_sem,Ha,He,JdY,drop_iz];generalize hm:(nd K.t d).kids.length-1-j=m at *;have Ak:(iz (((nd K.t d).kids.drop j).take m)).length=m:=by rw[Jg,Gw,GU];omega
   refine Jw (I:=λi:Nat=>i<=m) (inv:=λi=>gp [(0,.ptr 0 0 0),(3,K6 6 (txz (Jar K.t d))),(0,K6 7 (txz ((Y1 K.t d).take i))),(48,.rslc 1 (iz (((nd K.t d).kids.drop j).take m)) none),(0,.int .i64 (m:Int)),(0,.int .i64 (i:Int))] 12) (hp:=λi=>hpF K Z [.dead,QO 1 (txz (Jar K.t d)),QO 1 (txz ((Y1 K.t d).take i))]) (μ:=λi=>m-i) 0 [0,1,2,3,4,5,6,7] (by omega) rfl ?_ ?_ ?_
   ·have r6:ren [0,1,2,3,4,5,6,7] (K6 6 (txz (Jar K.t d)))=K6 6 (txz (Jar K.t d)):=Qt rfl;simp only[GV,txz_nil,Q8];simp[forget,JB,ren,Jm,gp,Ak,r6]
   ·have r6:Xv [0,1,2,3,4,5,6,7] (QO 1 (txz (Jar K.t d)))=QO 1 (txz (Jar K.t d)):=Qg (Ja (KO _));exact Qb (K:=K) (Z:=Z) (X:=[.dead,QO 1 (txz (Jar K.t d)),.dead]) (by simp only[Gd,Gj,hpF,GQ,Gu,Jj,r6];rfl)
   ·intro i hi;by_cases Ab:i<m
    ·have d2:((i:Int)<(m:Int))=True:=Jq;obtain⟨c,c1,c2,c3,c4,c5⟩:=iw i Ab;have Av:(iz (((nd K.t d).kids.drop j).take m)).getD i []=[.int .i64 (c:Int)]:=by
      rw[JN (by rw[Gw,GU];omega),Gb,Hy Ab,H5,<-Gb,c1]
     simp -implicitDefEqProofs only[go_sem,hpF,fRow,d2,Av,Ak]
     repeat refine And.intro (by first|omega|exact⟨by omega,by omega⟩|(simp;done)) ?_
     refine Kt (XC g c c2 c3 c4) (.inl rfl) rfl rfl rfl rfl ?_;simp -implicitDefEqProofs only[go_sem,hpF];rw[<-c5];have AC:(Y1 K.t d).take (i+1)=(Y1 K.t d).take i++[(Y1 K.t d).getD i .int]:=takeT (by omega);have Dz:(txz ((Y1 K.t d).take i)).length=i:=by rw[Xr,Gw];omega
     have r6:Xv [0,1,2,3,4,5,6,9] (QO 1 (txz (Jar K.t d)))=QO 1 (txz (Jar K.t d)):=Qg (Ja (KO _));have r7:ren [0,1,2,3,4,5,6,9] (K6 6 (txz (Jar K.t d)))=K6 6 (txz (Jar K.t d)):=Qt rfl;refine⟨by rw[Dz];unfold Jy;simp[Cond.holds];omega,Jh,i+1,[0,1,2,3,4,5,6,9],by omega,by omega,rfl,?_,?_⟩
     ·rw[AC,Yb,Kq];exact Qb (K:=K) (Z:=Z) (X:=[.dead,QO 1 (txz (Jar K.t d)),.dead,.arr 1 [[S (tyT ((Y1 K.t d).getD i .int))]],.arr 1 (txz ((Y1 K.t d).take i)++[[S (tyT ((Y1 K.t d).getD i .int))]])]) (by
       have:(txz ((Y1 K.t d).take i)++[[S (tyT ((Y1 K.t d).getD i .int))]]).map (JB [0,1,2,3,4,5,6,9])=_:=Ja (by rw[<-Yb];exact KO _);simp only[Gd,Gj,hpF,GQ,Gu,Jj,Jk,this,r6])
     ·rw[AC,Yb,Ko];simp[forget,JB,ren,Jm,r7]
    ·have d2:((i:Int)<(m:Int))=False:=Jo;obtain rfl:i=m:=by omega
     rw[Gz (Hu Ui)];simp -implicitDefEqProofs only[go_sem,hpF,fRow,d2];exact fnl_two
end
def gvn (got:List TL)(ks:List Int):Option TL:=Yn (ks.map λk=>JG got k.toNat)
def hdT (got:List TL)(ks:List Int):TL:=ks.map λk=>(JG got k.toNat).headD .int
theorem gvn_one {got:List TL}{k:Int}:gvn got [k]=some (JG got k.toNat):=rfl
theorem gvn_many {got:List TL}{ks:List Int}(h:ks.length≠1):gvn got ks=if ks.all (λk=>(JG got k.toNat).length == 1)=true then some (hdT got ks) else none:=by
 unfold gvn Yn
 split
 ·rename_i l e;have:=congrArg Lh e;simp at this;exact absurd this h
 ·simp only[List.all_map,GK];rfl
theorem hdT_snoc {got:List TL}{ks:List Int}{j:Nat}(h:j<ks.length):hdT got (ks.take (j+1))=hdT got (ks.take j)++[(JG got (ks.getD j 0).toNat).headD .int]:=by
 unfold hdT;rw[G5 h,List.map_append,Gb,Gh h];rfl
section
variable {K:FT0}{Z:FS}
theorem fmGiven {ks:List Int}(hl:Z.got.length=K.t.nodes.length)(hk:∀k∈ks,0<=k/\k<K.t.nodes.length)(hn:ks.length<=1000):∃x:CV,x.closed=true/\(∀l,gvn Z.got ks=some l->x=txV l)/\FMe Ga 127 [.rslc 1 (iz ks) none] K Z Z (.tup [x,.bool (gvn Z.got ks).isSome]):=by
 have Ak:(iz ks).length=ks.length:=Jg;have A9:(gz Z.got).length=K.t.nodes.length:=by rw[Yl,hl]
 by_cases h1:ks.length=1
 ·obtain⟨k,rfl⟩:∃k,ks=[k]:=by
   match ks,h1 with
   |[k],_=>exact⟨_,rfl⟩
  obtain⟨i,rfl⟩:∃i:Nat,k=i:=⟨k.toNat,by have:=(hk k (by simp)).1;omega⟩;have hi:i<K.t.nodes.length:=by have:=(hk (i:Int) (by simp)).2;omega
  have hg:=XA (l:=Z.got) (i:=i) (by omega);refine⟨txV (JG Z.got i),rfl,λl h=>by rw[gvn_one]at h;cases h;rfl,?_⟩;refine J5 (J8 c127_ok λN=>?_);have d1:(((0+1:Nat):Int) == 1)=true:=rfl;simp -implicitDefEqProofs only[c127,go_sem,hpF,fRow,Ki,Xm,Gc,Gf,d1];refine Kj [0,0,0,1,0,0,0,1,1,0,0] Js (by decide +kernel) ?_;simp -implicitDefEqProofs only[go_sem,hg,A9,Gc,Gf]
  repeat refine anO ?_
  exact .done (wk.refl _)
 ·have hm:=gvn_many (got:=Z.got) h1;have d1:((ks.length:Int) == 1)=false:=by simpa using (by omega:¬(ks.length:Int)=1)
  have Au:∀j,j<ks.length->∃i:Nat,ks.getD j 0=i/\i<K.t.nodes.length:=λj hj=>by
   have hm:=hk (ks.getD j 0) (by rw[Gb,Gh hj];exact GG hj);exact⟨(ks.getD j 0).toNat,by omega,by omega⟩
  obtain⟨x,b,Bc,Bd,hb,Bu⟩:∃(x:CV) (b:Bool),x.closed=true/\(∀l,gvn Z.got ks=some l->x=txV l)/\b=(gvn Z.got ks).isSome/\((ks.all (λk=>(JG Z.got k.toNat).length == 1)=true/\x=txV (hdT Z.got ks)/\b=true)\/(ks.all (λk=>(JG Z.got k.toNat).length == 1)=false/\x=.nils/\b=false)):=by
   cases Aj:ks.all (λk=>(JG Z.got k.toNat).length == 1) with
   |true=>
    rw[Aj,if_pos rfl]at hm;rw[hm];exact⟨txV (hdT Z.got ks),true,rfl,λl h=>(by cases h;rfl),rfl,.inl ⟨rfl,rfl,rfl⟩⟩
   |false=>
    rw[Aj,if_neg (by decide)]at hm;rw[hm];exact⟨.nils,false,rfl,λl h=>(by cases h),rfl,.inr ⟨rfl,rfl,rfl⟩⟩
  refine⟨x,Bc,Bd,?_⟩;rw[<-hb];clear hb Bd hm;refine J5 (J8 c127_ok λN=>?_);simp -implicitDefEqProofs only[c127,go_sem,hpF,fRow,Ak,d1];refine XW ?_;simp only[go_sem,Ha,He];refine Jw (I:=λj:Nat=>j<=ks.length/\(ks.take j).all (λk=>(JG Z.got k.toNat).length == 1)=true) (inv:=λj=>gp [(0,.ptr 0 0 0),(3,K6 5 (txz (hdT Z.got (ks.take j)))),(17,.rslc 1 (iz ks) none),(0,.int .i64 (ks.length:Int)),(0,.int .i64 (j:Int))] 17) (hp:=λj=>hpF K Z [QO 1 (txz (hdT Z.got (ks.take j)))]) (μ:=λj=>ks.length-j) 0 [0,1,2,3,4,5] ⟨by omega,rfl⟩ rfl ?_ ?_ ?_
  ·simp[forget,JB,ren,Jm,gp,hdT,txz,K6]
  ·exact Qb (K:=K) (Z:=Z) (X:=[.dead]) rfl
  ·rintro j ⟨hj,BC⟩;by_cases Ab:j<ks.length
   ·have d2:((j:Int)<(ks.length:Int))=True:=Jq;obtain⟨i,e1,e2⟩:=Au j Ab;have Bv:=JN Ab;by_cases Bh:(JG Z.got i).length=1
    case neg=>
     have hO:=fmOne (Z:=Z) e2 hl;rw[oneO_none Bh]at hO;rw[e1]at Bv;rcases Bu with ⟨Aj,_⟩|⟨_,rfl,rfl⟩
     ·have:=Hd.1 Aj (ks.getD j 0) (by rw[Gb,Gh Ab];exact GG Ab);rw[e1,Gi]at this;exact absurd (by simpa using this) Bh
     simp -implicitDefEqProofs only[go_sem,hpF,fRow,d2,Bv,Ak]
     repeat refine anO ?_
     refine Kt hO (.inl rfl) rfl rfl rfl rfl ?_;simp -implicitDefEqProofs only[go_sem,hpF,opT,GZ];exact .out (wk.refl _) rfl
    obtain⟨a,ha⟩:∃a,JG Z.got i=[a]:=by
     match h:JG Z.got i,Bh with
     |[a],_=>exact⟨_,rfl⟩
    have Rc:(ks.take (j+1)).all (λk=>(JG Z.got k.toNat).length == 1)=true:=by
     rw[G5 Ab,Le,BC,GX];have e3:ks[j]=(i:Int):=by rw[<-e1,Gb,Gh Ab];rfl
     simp[e3,Bh]
    have hO:=fmOne (Z:=Z) e2 hl;rw[ha]at hO;have AC:=hdT_snoc (got:=Z.got) Ab;rw[e1,Gi,ha]at AC;rw[e1]at Bv;have Dz:(txz (hdT Z.got (ks.take j))).length=j:=by rw[Xr];simp[hdT];omega
    simp -implicitDefEqProofs only[go_sem,hpF,fRow,d2,Bv,Ak]
    repeat refine anO ?_
    refine Kt hO (.inl rfl) rfl rfl rfl rfl ?_;simp -implicitDefEqProofs only[go_sem,hpF,Qm,opT,GY];refine⟨by rw[Dz];unfold Jy;simp[Cond.holds];omega,Jh,j+1,[0,1,2,3,4,7],⟨by omega,Rc⟩,by omega,rfl,?_,?_⟩
    ·rw[AC];simp only[Ld];rw[Yb,Kq];exact Qb (K:=K) (Z:=Z) (X:=[.dead,.arr 1 [[S (tyT a)]],.arr 1 (txz (hdT Z.got (ks.take j))++[[S (tyT a)]])]) (by
      have:(txz (hdT Z.got (ks.take j))++[[S (tyT a)]]).map (JB [0,1,2,3,4,7])=_:=Ja (by rw[<-Yb];exact KO _);simp only[Gd,Gj,hpF,GQ,Gu,Jk,this])
    ·rw[AC];simp only[Ld];rw[Yb,Ko];simp[forget,JB,ren,Jm]
   ·have d2:((j:Int)<(ks.length:Int))=False:=Jo;obtain rfl:j=ks.length:=by omega
    rw[H8]at BC|-;obtain⟨rfl,rfl⟩:x=txV (hdT Z.got ks)/\b=true:=by
     rcases Bu with ⟨_,h1,h2⟩|⟨h1,_⟩
     ·exact⟨h1,h2⟩
     ·rw[BC]at h1;cases h1
    simp -implicitDefEqProofs only[go_sem,hpF,fRow,d2];generalize hdT Z.got ks=l;rcases l with _|⟨x,l⟩
    ·exact .out (YO ⟨wk.nils,wk.refl _,trivial⟩) rfl
    ·refine .one 0 rfl (KO (x::l)) ?_ ?_
     ·simp[frz,JX,K6,txz,CV.closed,Jp]
     ·simp[frz,JX,K6,txz,txV,JbY];exact wk.refl _
end
def Ans (K:FT0)(Z:FS)(f:Nat)(args:List CV)(r:Option TL):Prop:=∃x:CV,x.closed=true/\(∀l,r=some l->x=txV l)/\FMe Ga f args K Z Z (.tup [x,.bool r.isSome])
theorem Jdn {t:Tr}{o:List Int}(g:GoodT t o){got:List TL}{i j:Nat}(hi:i<t.nodes.length)(hj:j<(nd t i).kids.length){c:Int}(hc:(nd t i).kids.getD j 0=c):KK t got i j=JG got c.toNat:=by
 unfold KK;rw[if_pos hj,<-hc,Kk g hi hj,Gi]
section
variable {K:FT0}{Z:FS}{o:List Int}(g:GoodT K.t o)(ht:K.t.Fit)
include g ht
theorem fmCall {i m:Nat}(hi:i<K.t.nodes.length)(hk:(nd K.t i).k=26)(Be:K.of.length=K.t.nodes.length)(F6:K.of.getD i 0=(m:Int))(hm:m<K.t.nodes.length)(DI:(nd K.t m).k=65)(hl:Z.got.length=K.t.nodes.length):Ans K Z 124 [.int .i64 (i:Int)] (Xp K.t m Z.got i):=by
 have Ai:=g.many;have hg:=JY hi;have BJ:=(JdN ht hi).kidn;have Ak:(iz (nd K.t i).kids).length=(nd K.t i).kids.length:=Jg;have hS:=fmSign g ht (Z:=Z) hm DI;have Ot:(iz K.of).getD i []=[.int .i64 (m:Int)]:=by rw[JN (by omega),F6]
 have BU:(iz K.of).length=K.t.nodes.length:=by rw[Jg,Be]
 rw[JS,hk,rk_call];generalize Fz:Jar K.t m=sp at *;generalize MJ:Y1 K.t m=sr at *;have PP:(txz sp).length=sp.length:=Xr;have dY:sp.length<=30:=by
  rw[<-Fz];unfold Jar;simp;obtain⟨a,a1,a2,_⟩:=Jg5 g hm DI;change (nd K.t m).n=a at a1;change a<(nd K.t m).kids.length at a2;have:=(JdN ht hm).kidn;omega
 have EK:∀j,j<(nd K.t i).kids.length->∃c:Nat,(nd K.t i).kids.getD j 0=c/\c<K.t.nodes.length/\KK K.t Z.got i j=JG Z.got c:=λj hj=>by
  have h1:=JF g hi (i:=j) hj;exact⟨_,Kk g hi hj,by omega,by rw[Jdn g hi hj (Kk g hi hj),Gi]⟩
 obtain⟨x,b,Bc,Bd,hb,Bu⟩:∃(x:CV) (b:Bool),x.closed=true/\(∀l,(if (nd K.t i).kids.length=sp.length/\∀j,j<(nd K.t i).kids.length->KK K.t Z.got i j=[sp.getD j .int] then some sr else none)=some l->x=txV l)/\b=(if (nd K.t i).kids.length=sp.length/\∀j,j<(nd K.t i).kids.length->KK K.t Z.got i j=[sp.getD j .int] then some sr else none:Option TL).isSome/\(((nd K.t i).kids.length=sp.length/\(∀j,j<(nd K.t i).kids.length->KK K.t Z.got i j=[sp.getD j .int])/\x=txV sr/\b=true)\/(¬((nd K.t i).kids.length=sp.length/\∀j,j<(nd K.t i).kids.length->KK K.t Z.got i j=[sp.getD j .int])/\x=.nils/\b=false)):=by
  by_cases hc:(nd K.t i).kids.length=sp.length/\∀j,j<(nd K.t i).kids.length->KK K.t Z.got i j=[sp.getD j .int]
  ·rw[if_pos hc];exact⟨txV sr,true,rfl,λl h=>(by cases h;rfl),rfl,.inl ⟨hc.1,hc.2,rfl,rfl⟩⟩
  ·rw[if_neg hc];exact⟨.nils,false,rfl,λl h=>(by cases h),rfl,.inr ⟨hc,rfl,rfl⟩⟩
 refine⟨x,Bc,Bd,?_⟩;rw[<-hb];clear hb Bd;refine J5 (J8 c124_ok λN=>?_);simp -implicitDefEqProofs only[c124,go_sem,hpF,fRow,Ot,BU]
 repeat refine anO ?_
 refine Kt hS (.inl rfl) rfl rfl rfl rfl ?_;simp -implicitDefEqProofs only[go_sem,hpF,fRow,txV,Jb,hg,Nd.cv,Ak,PP]
 repeat refine anO ?_
 by_cases Ad:(nd K.t i).kids.length=sp.length
 case neg=>
  have d1:(((nd K.t i).kids.length:Int) != (sp.length:Int))=true:=by simp;omega
  rcases Bu with ⟨h,_⟩|⟨_,rfl,rfl⟩
  ·exact absurd h Ad
  simp -implicitDefEqProofs only[go_sem,d1];exact .out (wk.refl _) rfl
 have d1:(((nd K.t i).kids.length:Int) != (sp.length:Int))=false:=by simp[Ad]
 simp -implicitDefEqProofs only[go_sem,d1];refine Jw (I:=λj:Nat=>j<=sp.length/\∀q,q<j->KK K.t Z.got i q=[sp.getD q .int]) (inv:=λj=>gp [(0,.ptr 0 0 0),(6,txV sr),(0,.rslc 1 (iz (nd K.t i).kids) none),(28,txV sp),(0,.int .i64 (sp.length:Int)),(0,.int .i64 (j:Int))] 15) (hp:=λj=>hpF K Z []) (μ:=λj=>sp.length-j) 0 [0,1,2,3,4] ⟨by omega,λq h=>absurd h (by omega)⟩ rfl ?_ ?_ ?_
 ·simp[forget,JB,ren,Jm,gp,txV]
 ·exact Qb (K:=K) (Z:=Z) (X:=[]) rfl
 ·rintro j ⟨hj,BC⟩;by_cases Ab:j<sp.length
  ·have d2:((j:Int)<(sp.length:Int))=True:=Jq;obtain⟨c,c1,c2,c3⟩:=EK j (by omega);have Bv:=JN (l:=(nd K.t i).kids) (i:=j) (by omega);rw[c1]at Bv;have Dw:=JaA Ab;have hA:=fmAre (w:=tyT (sp.getD j .int)) (ks:=[(c:Int)]) hl (by simp;omega) (by simp);rw[Jal,Gi,<-c3]at hA;simp -implicitDefEqProofs only[go_sem,hpF,fRow,d2,Dw,Bv,Ak,PP,txV]
   repeat refine anO ?_
   refine Jcz (K:=K) (Z:=Z) (X:=[.arr 1 [[.int .i64 (c:Int)]]]) 0 rfl rfl rfl ?_;simp only[go_sem,JX,frz,Gd,Gj,Qa,Gv,Gx,if_true,hpF,Gc,Gf,Gr,GI,G7,GV];refine Kt hA (.inl rfl) rfl rfl rfl rfl ?_;by_cases he:KK K.t Z.got i j=[sp.getD j .int]
   ·have e1:(KK K.t Z.got i j == [sp.getD j .int])=true:=by simpa using he
    simp -implicitDefEqProofs only[go_sem,hpF,e1];refine⟨Jh,j+1,[0,1,2,3,4],⟨by omega,λq hq=>?_⟩,by omega,rfl,?_,?_⟩
    ·by_cases BM:q=j
     ·subst BM;exact he
     ·exact BC q (by omega)
    ·exact Qb (K:=K) (Z:=Z) (X:=[.dead]) rfl
    ·simp[forget,JB,ren,Jm]
   ·have e1:(KK K.t Z.got i j == [sp.getD j .int])=false:=by simpa using he
    rcases Bu with ⟨_,h,_⟩|⟨_,rfl,rfl⟩
    ·exact absurd (h j (by omega)) he
    simp -implicitDefEqProofs only[go_sem,hpF,e1];exact .out (wk.refl _) rfl
  ·have d2:((j:Int)<(sp.length:Int))=False:=Jo;obtain rfl:j=sp.length:=by omega
   rcases Bu with ⟨_,_,rfl,rfl⟩|⟨h,_⟩
   ·simp -implicitDefEqProofs only[go_sem,hpF,fRow,d2];exact .done (wk.refl _)
   ·exact absurd ⟨Ad,λq hq=>BC q (by omega)⟩ h
end
end
section
section
variable {P:Program}{E:Env}{n0:Nat}{N:Fr}{Q:Exit->List CV->List CObj->Prop}{H H':List CObj}{T:List CV}{k:List KItem}{l:List IOper}{es:List (List Nat)}{bs:List Nat}
theorem vy_pv {d:Option Nat}{ge:Option (Nat×Bool)}{x:IArg}{f:Nat}{l1 l2:List CV}{xs:List IArg}{v:CV}{F:IFunc}(hg:GOk T ge) (hx:J7 T x=.fn f l1 l2) (hF:Jf P f=some F) (EI:(P.funcs[f]?.map (·.name))≠some "runtime.NumGoroutine") (Ag:Pure P E f (l1++xs.map (J7 T)++l2) H v) (h:vdy P E n0 N Q k l bs (put T d v) H):vdyR P E n0 N Q none d (.callv x xs) ge 1 k l bs T H:=by
 refine⟨v,H,⟨λ_ _=>rfl,λT2 H2 ag Bd=>?_⟩,h⟩;have hH:H2=H:=YL λy=>Bd y trivial
 subst hH;have Bg:∃fn,P.funcs[f]? = some fn/\fn.body.isSome=true:=by
  unfold Jf at hF
  split at hF
  ·rename_i fn Bg
   split at hF
   ·rename_i c hb;exact⟨fn,Bg,by rw[hb];rfl⟩
   ·cases hF
  ·cases hF
 obtain⟨fn,Bg,DL⟩:=Bg;have ha:=(Ji ag).2;have e1:J7 T x=J7 T2 x:=Ju (Ji ha).1;have e2:xs.map (J7 T)=xs.map (J7 T2):=Xo (Ji ha).2;exact⟨H2,λy hy=>(by cases hy),λ_ _=>rfl,λn0 N Q k l Ap=>JgA (R:=λv' H'=>v'=v/\H'=H2) (Ym ag hg) (by rw[<-e1];exact hx) Bg DL (λe=>EI (by rw[Bg,<-e];rfl)) (by rw[<-e2];exact Ag) λv' H' ⟨h1,h2⟩=>by rw[h1,h2];exact Ap⟩
end
def allQ (t:Tr)(got:List TL)(i:Nat)(s:TyX)(j:Nat):Bool:=(Gg j).all λq=>Jce t got i (q+1) == [s]
theorem allQ_succ {t:Tr}{got:List TL}{i j:Nat}{s:TyX}:allQ t got i s (j+1)=(allQ t got i s j && (Jce t got i (j+1) == [s])):=by
 unfold allQ;rw[Lb,Le,Hl,Ho,Ht]
section
variable {K:FT0}{Z:FS}{o:List Int}(g:GoodT K.t o)(ht:K.t.Fit)
include g ht
theorem fmLast {E:Env}{X:List CObj}{u:Nat}(hu:u<K.t.nodes.length)(Ad:0<(nd K.t u).kids.length):Pure Ga E 153 [.int .i64 (u:Int),.ptr 5 0 0] (hpF K Z (.arr 1 [[.ptr 0 0 0]]::X)) (.int .i64 (Jl K.t u:Int)):=by
 have hg:=JY hu;have Ay:(iz (nd K.t u).kids).length=(nd K.t u).kids.length:=Jg;have A9:=lastz g hu Ad;have BJ:=(JdN ht hu).kidn;refine J8 c153_ok λN=>?_
 simp -implicitDefEqProofs only[c153,go_sem,hpF,fRow,Jb,hg,Nd.cv,Ay,A9]
 repeat refine And.intro (by first|omega|exact⟨by omega,by omega⟩|exact Jh) ?_
 omega
omit ht in
theorem arr_two {i:Nat}(hi:i<K.t.nodes.length)(hk:(nd K.t i).k=29):2<=(nd K.t i).kids.length:=by
 have hn:=g.nds (nd K.t i) (by unfold nd;rw[Gb,Gh hi];exact GG hi);rw[ndI_R]at hn;simp only[GL]at hn;have h:=hn.2;unfold Qc at h;rw[hk]at h;simp[inI,Ky]at h;omega
theorem fmCells {i m:Nat}(hi:i<K.t.nodes.length)(hk:(nd K.t i).k=29)(hl:Z.got.length=K.t.nodes.length)(hf:∀j,Yd (JG Z.got j)=true):Ans K Z 126 [.agg (nd K.t i).cv] (Xp K.t m Z.got i):=by
 have Ai:=g.many;have BJ:=(JdN ht hi).kidn;have h2:=arr_two g hi hk;have Ak:(iz (nd K.t i).kids).length=(nd K.t i).kids.length:=Jg;have EK:∀j,1<=j->j<(nd K.t i).kids.length->∃c e:Nat,(nd K.t i).kids.getD j 0=c/\c<K.t.nodes.length/\0<(nd K.t c).kids.length/\Jl K.t c=e/\e<K.t.nodes.length/\Jce K.t Z.got i j=JG Z.got e:=λj h1 hj=>by
  have hm:=JF g hi (i:=j) hj;have hp:=part_kind g hi hk h1 hj;obtain⟨q1,q2,q3⟩:=part_last g (u:=JL K.t i j) (by omega) hp;exact⟨_,_,Kk g hi hj,by omega,q1,rfl,by omega,by unfold Jce;rw[if_pos hj]⟩
 have FL:KK K.t Z.got i 0=JG Z.got (JL K.t i 0):=by rw[Jdn g hi (by omega) (Kk g hi (by omega)),Gi]
 have iU:JL K.t i 0<K.t.nodes.length:=by have:=JF g hi (i:=0) (by omega);omega
 obtain⟨c1,e1,p1,p2,p3,p4,p5,p6⟩:=EK 1 (by omega) (by omega);have hA:∀(w:List UInt8) (c:Nat),c<K.t.nodes.length->FMe Ga 122 [S w,.rslc 1 (iz [(c:Int)]) none] K Z Z (.bool (areB Z.got w [(c:Int)])):=λw c hc=>fmAre (w:=w) (ks:=[(c:Int)]) hl (by simp;omega) (by simp)
 have hO:=fmOne (Z:=Z) p5 hl;have jq:=Jeh (hf e1);have hr:Xp K.t m Z.got i=if (Qm (JG Z.got e1)).isSome=true/\allQ K.t Z.got i ((Qm (JG Z.got e1)).getD .int) ((nd K.t i).kids.length-1)=true/\JG Z.got (JL K.t i 0)=[.int] then some [.arr ((Qm (JG Z.got e1)).getD .int)] else none:=by
  rw[JS,hk,Jgo,p6,FL];rfl
 rw[hr];clear hr;generalize hs:Qm (JG Z.got e1)=s at *;refine⟨.rslc 1 [[S (91::(opT s++[93]))]] none,rfl,λl h=>?_,?_⟩
 ·split at h
  ·rename_i hc
   cases h
   cases s with
   |none=>exact absurd hc.1 (by simp)
   |some a=>rfl
  ·cases h
 generalize hb:(if s.isSome=true/\allQ K.t Z.got i (s.getD .int) ((nd K.t i).kids.length-1)=true/\JG Z.got (JL K.t i 0)=[.int] then some [TyX.arr (s.getD .int)] else none).isSome=b;have Cg:b=(s.isSome && allQ K.t Z.got i (s.getD .int) ((nd K.t i).kids.length-1) && (JG Z.got (JL K.t i 0) == [TyX.int])):=by
  rw[<-hb]
  cases s.isSome <;> cases allQ K.t Z.got i (s.getD .int) ((nd K.t i).kids.length-1) <;> by_cases h:JG Z.got (JL K.t i 0)=[TyX.int] <;> simp[h]
 clear hb;refine J5 (J8 c126_ok λN=>?_);simp -implicitDefEqProofs only[c126,go_sem,hpF,fRow,Nd.cv];refine Jcz (K:=K) (Z:=Z) (X:=[.arr 1 [[.ptr 0 0 0]],.arr 5 [(nd K.t i).cv]]) 1 rfl rfl rfl ?_;simp only[go_sem,JX,frz,Gd,Gj,Qa,Gv,GA,hpF,show ¬(0:Nat)=1+5 by decide,show ¬(5:Nat)=1+5 by decide,if_false,if_true,Nd.cv,Gu,GI];have cB:=fmLast g ht (Z:=Z) (E:=Env.none) (X:=[.dead]) p2 p3;rw[p4]at cB;have Bi:(iz ((nd K.t i).kids.drop 1)).length=(nd K.t i).kids.length-1:=by rw[Jg,GU]
 have CE:(iz ((nd K.t i).kids.drop 1)).take ((nd K.t i).kids.length-1)=iz ((nd K.t i).kids.drop 1):=Gz (Hu Bi);have FQ:=JN (l:=(nd K.t i).kids) (i:=1) (by omega);rw[p1]at FQ;refine Kj [1,0,0,0,0,0,1,1,0,0,0,0,0] Js (by decide +kernel) ?_;simp -implicitDefEqProofs only[go_sem,Ak,FQ];refine anO ?_;refine vy_pv (.inl rfl) rfl c153_ok nm cB ?_;simp -implicitDefEqProofs only[go_sem];refine vy_p (.inl rfl) (hO.on (X:=[.arr 1 [[.ptr 0 0 0]],.dead]) rfl rfl) ?_;simp -implicitDefEqProofs only[go_sem,Ak,drop_iz,CE,Bi];refine anO ?_;refine JI (I:=λj:Nat=>j<=(nd K.t i).kids.length-1) (inv:=λj=>gp [(2,.ptr 5 0 0),(0,.rptr (nd K.t i).cv),(2,.fn 153 [] [.ptr 5 0 0]),(0,S (opT s)),(0,.bool (s.isSome && allQ K.t Z.got i (s.getD .int) j)),(16,.rslc 1 (iz ((nd K.t i).kids.drop 1)) none),(0,.int .i64 (((nd K.t i).kids.length-1:Nat):Int)),(0,.int .i64 (j:Int))] 27) (hp:=λj=>hpF K Z [.arr 1 [[.ptr 0 0 0]],.dead]) (μ:=λj=>(nd K.t i).kids.length-1-j) 0 (by omega) ?_ rfl ?_
 ·simp[forget,gp,Nd.cv,allQ,-List.drop_one]
 ·intro j hj;by_cases Ab:j<(nd K.t i).kids.length-1
  ·have d1:((j:Int)<(((nd K.t i).kids.length-1:Nat):Int))=True:=Jq;obtain⟨c,e,q1,q2,q3,q4,q5,q6⟩:=EK (j+1) (by omega) (by omega);have Bv:(iz ((nd K.t i).kids.drop 1)).getD j []=[.int .i64 (c:Int)]:=by
    rw[JN (by rw[GU];omega),Gb,H5,<-Gb,Nat.add_comm 1 j,q1]
   have cz:=fmLast g ht (Z:=Z) (E:=Env.none) (X:=[.dead]) q2 q3;rw[q4]at cz;have Cb:allQ K.t Z.got i (s.getD .int) (j+1)=(allQ K.t Z.got i (s.getD .int) j && (JG Z.got e == [s.getD .int])):=by rw[allQ_succ,q6]
   generalize allQ K.t Z.got i (s.getD .int) j=u at Cb|-;simp -implicitDefEqProofs only[go_sem,hpF,fRow,d1,Bv,Bi];refine anO ?_;refine Kj [0,0,1,0,0,0,1,0,1,0,0] Js (by decide +kernel) ?_
   cases Ap:(s.isSome && u) with
   |false=>
    simp -implicitDefEqProofs only[go_sem];refine⟨Jh,j+1,by omega,by omega,?_⟩;rw[Cb,<-Bool.and_assoc,Ap];simp[forget,Nd.cv]
   |true=>
    obtain⟨a,rfl⟩:∃a,s=some a:=by
     cases s with
     |none=>cases Ap
     |some a=>exact⟨a,rfl⟩
    have hu:u=true:=by simpa using Ap
    subst hu;have Su:=hA (tyT a) e q5;rw[Jal,Gi]at Su;simp -implicitDefEqProofs only[go_sem];refine vy_pv (gok rfl) rfl c153_ok nm cz ?_;simp -implicitDefEqProofs only[go_sem];refine vy_row (iz [(e:Int)]) (gok rfl) rfl rfl rfl rfl ?_;simp -implicitDefEqProofs only[go_sem];refine vy_p (gok rfl) (Su.on (X:=[.arr 1 [[.ptr 0 0 0]],.dead]) rfl rfl) ?_;simp -implicitDefEqProofs only[go_sem];refine⟨Jh,j+1,by omega,by omega,?_⟩;simp only[GH]at Cb|-;rw[Cb];simp[forget,Nd.cv]
  ·have d1:((j:Int)<(((nd K.t i).kids.length-1:Nat):Int))=False:=Jo;obtain rfl:j=(nd K.t i).kids.length-1:=by omega
   have Su:=hA (tyT .int) _ iU;rw[Jal,Gi]at Su;have Fg:=JN (l:=(nd K.t i).kids) (i:=0) (by omega);rw[Kk g hi (by omega)]at Fg;generalize (s.isSome && allQ K.t Z.got i (s.getD .int) ((nd K.t i).kids.length-1))=u at *;simp -implicitDefEqProofs only[go_sem,hpF,fRow,d1];refine Kj [0,0,0,0,0,1,0,0,0,0,0,1,0,0,0] Js (by decide +kernel) ?_;simp -implicitDefEqProofs only[go_sem];refine vy_f (.inl rfl) (typArray (opT s) (by omega)) ?_;simp -implicitDefEqProofs only[go_sem];refine vy_row [[S (91::(opT s++[93]))]] (.inl rfl) rfl rfl rfl rfl ?_
   cases u with
   |false=>
    rw[Hr]at Cg;subst Cg;simp -implicitDefEqProofs only[go_sem];exact .out (wk.refl _) rfl
   |true=>
    rw[GX]at Cg;simp -implicitDefEqProofs only[go_sem,Nd.cv,Ak,Fg];refine anO ?_;refine vy_row (iz [(JL K.t i 0:Int)]) (gok rfl) rfl rfl rfl rfl ?_;simp -implicitDefEqProofs only[go_sem];refine vy_p (gok rfl) (Su.on (X:=[.arr 1 [[.ptr 0 0 0]],.dead]) rfl rfl) ?_;simp -implicitDefEqProofs only[go_sem];rw[<-Cg];exact .out (wk.refl _) rfl
end
end
section
theorem Ans.of {K:FT0}{Z:FS}{f:Nat}{args:List CV}{b:Bool}{l:TL}{r:Option TL}(x:CV)(hr:r=if b=true then some l else none)(hx:x.closed=true)(he:b=true->x=txV l)(h:FMe Ga f args K Z Z (.tup [x,.bool b])):Ans K Z f args r:=by
 subst hr;refine⟨x,hx,λl' h'=>?_,?_⟩
 ·split at h'
  ·rename_i hb;cases h';exact he hb
  ·cases h'
 ·rw[show (if b=true then some l else none:Option TL).isSome=b by cases b <;> rfl];exact h
theorem kid_pair {t:Tr}{o:List Int}(g:GoodT t o){i:Nat}(hi:i<t.nodes.length)(hl:(nd t i).kids.length=2):(nd t i).kids=[(JL t i 0:Int),(JL t i 1:Int)]:=by
 rw[<-Kk g hi (by omega),<-Kk g hi (by omega)]
 match h:(nd t i).kids,hl with
 |[a,b],_=>rfl
section
variable {K:FT0}{Z:FS}{o:List Int}(g:GoodT K.t o)(ht:K.t.Fit)
include g ht
omit ht in
theorem small1 {i m:Nat}(hi:i<K.t.nodes.length)(hk:(nd K.t i).k=1\/(nd K.t i).k=2):Ans K Z 92 [.int .i64 (i:Int)] (Xp K.t m Z.got i):=by
 have Ai:=g.many;have hg:=JY hi;rcases hk with hk|hk
 case' inl=>refine Ans.of (b:=true) (l:=[.int]) (txV [.int]) (by rw[JS,hk];rfl) rfl (λ_=>rfl) ?_
 case' inr=>refine Ans.of (b:=true) (l:=[.bool]) (txV [.bool]) (by rw[JS,hk];rfl) rfl (λ_=>rfl) ?_
 all_goals
  refine J5 (vfS c92_ok λN=>?_);simp -implicitDefEqProofs only[c92,go_sem,hpF,fRow,Jb,hg,Nd.cv,hk,Gm]
  repeat refine anO ?_
  exact .one 1 rfl rfl rfl (wk.refl _)
omit ht in
theorem small2 {i m:Nat}(hi:i<K.t.nodes.length)(hk:4<=(nd K.t i).k/\(nd K.t i).k<=18)(hl:Z.got.length=K.t.nodes.length)(hf:∀j,Yd (JG Z.got j)=true):Ans K Z 92 [.int .i64 (i:Int)] (Xp K.t m Z.got i):=by
 have Ai:=g.many;have hg:=JY hi;have Ay:=kids_two g hi hk;have hp:=kid_pair g hi Ay;have h0:=JF g hi (i:=0) (by omega);have h1:=JF g hi (i:=1) (by omega);have k0:=Jdn g (got:=Z.got) hi (j:=0) (by omega) (Kk g hi (by omega));have k1:=Jdn g (got:=Z.got) hi (j:=1) (by omega) (Kk g hi (by omega));rw[Gi]at k0 k1;generalize JL K.t i 0=a at *;generalize JL K.t i 1=b at *;have Am:a<K.t.nodes.length:=by omega
 have BF:b<K.t.nodes.length:=by omega
 have hA:=λw=>fmAre (K:=K) (Z:=Z) (w:=tyT w) (ks:=[(a:Int),(b:Int)]) hl (by simp;omega) (by simp)
 simp only[are_cons (l:=[(b:Int)]),Jal,Gi]at hA;have aL:=hA .int;have dC:=hA .bool;have hB:=λ(w:List UInt8) (c:Nat) (hc:c<K.t.nodes.length)=>fmAre (K:=K) (Z:=Z) (w:=w) (ks:=[(c:Int)]) hl (by simp;omega) (by simp)
 have Sb:=JfQ (K:=K) BF hl (hf b);have aK:=fmArrayed (K:=K) Am hl (hf a);have DN:=prt_len (a:=Qm (JG Z.got b));have PR:=Jeh (hf b);have ed:=prt_len (a:=Qm (JG Z.got a));have d9:=Jeh (hf a);clear hA;rcases (show (nd K.t i).k=4\/(nd K.t i).k=18\/((nd K.t i).k=5\/(nd K.t i).k=6)\/((nd K.t i).k=7\/(nd K.t i).k=8)\/((nd K.t i).k=9\/(nd K.t i).k=10\/(nd K.t i).k=11\/(nd K.t i).k=12)\/((nd K.t i).k=13\/(nd K.t i).k=14\/(nd K.t i).k=15\/(nd K.t i).k=16\/(nd K.t i).k=17) by omega) with hk|hk|hk|hk|hk|hk
 ·refine Ans.of (.rslc 1 [[S (XJ++opT (prt (Qm (JG Z.got b))))]] none) (by rw[JS,hk,rk_cons,k0,k1]) rfl (λh=>?_) ?_
  ·simp only[GL]at h;obtain⟨e,he⟩:=Jes.1 h.1;rw[he];rfl
  refine J5 (vfS c92_ok λN=>?_);simp -implicitDefEqProofs only[c92,go_sem,hpF,fRow,Jb,hg,Nd.cv,hk,hp,Gm,Ki,Xm,Gc,Gf]
  repeat refine anO ?_
  refine Kt Sb (.inl rfl) rfl rfl rfl rfl ?_;simp -implicitDefEqProofs only[go_sem];refine J6 (JdV _ (by omega)) ?_;simp -implicitDefEqProofs only[go_sem,hpF]
  cases hs:isStr (Qm (JG Z.got b)) with
  |false=>
   simp -implicitDefEqProofs only[go_sem,Hr];exact .one 1 rfl rfl rfl (wk.refl _)
  |true=>
   obtain⟨e,he⟩:=Jes.1 hs;have O3:=hB (tyT e) a Am;rw[Jal,Gi]at O3;simp -implicitDefEqProofs only[go_sem,he,prt,opT,GH,GX];refine anO ?_;refine Jcz (K:=K) (Z:=Z) 2 rfl rfl rfl ?_;simp -implicitDefEqProofs only[go_sem,JX,frz,Gd,Gj,Qa,Gv,GA,hpF,Lm,Lj,Gx,Gr,GI,G7,GV,Gc,Gf];refine Kt O3 (gok rfl) rfl rfl rfl rfl ?_;simp -implicitDefEqProofs only[go_sem,hpF];exact .one 1 rfl rfl rfl (wk.refl _)
 ·refine Ans.of (.rslc 1 [[S (opT (prt (Qm (JG Z.got a))))]] none) (by rw[JS,hk,rk_read,k0,k1]) rfl (λh=>?_) ?_
  ·simp only[GL]at h;obtain⟨e,he⟩:=isArr_iff.1 h.1;rw[he];rfl
  refine J5 (vfS c92_ok λN=>?_);simp -implicitDefEqProofs only[c92,go_sem,hpF,fRow,Jb,hg,Nd.cv,hk,hp,Gm,Ki,Xm,Gc,Gf]
  repeat refine anO ?_
  refine Kt aK (.inl rfl) rfl rfl rfl rfl ?_;simp -implicitDefEqProofs only[go_sem,hpF]
  cases hs:JcX (Qm (JG Z.got a)) with
  |false=>
   simp -implicitDefEqProofs only[go_sem,Hr];exact .one 1 rfl rfl rfl (wk.refl _)
  |true=>
   have O3:=hB (tyT .int) b BF;rw[Jal,Gi]at O3;simp -implicitDefEqProofs only[go_sem,GX];refine anO ?_;refine Jcz (K:=K) (Z:=Z) 2 rfl rfl rfl ?_;simp -implicitDefEqProofs only[go_sem,JX,frz,Gd,Gj,Qa,Gv,GA,hpF,Lm,Lj,Gx,Gr,GI,G7,GV,Gc,Gf];refine Kt O3 (gok rfl) rfl rfl rfl rfl ?_;simp -implicitDefEqProofs only[go_sem,hpF];exact .one 1 rfl rfl rfl (wk.refl _)
 ·refine Ans.of (txV [.bool]) (by rw[JS,rk_or hk,k0,k1]) rfl (λ_=>rfl) ?_;rcases hk with hk|hk
  all_goals
   refine J5 (vfS c92_ok λN=>?_);simp -implicitDefEqProofs only[c92,go_sem,hpF,fRow,Jb,hg,Nd.cv,hk,hp,Gm]
   repeat refine anO ?_
   refine Kt dC (.inl rfl) rfl rfl rfl rfl ?_;simp -implicitDefEqProofs only[go_sem];exact .one 1 rfl rfl rfl (wk.refl _)
 ·refine Ans.of (txV [.bool]) (by rw[JS,rk_eq hk,k0,k1]) rfl (λ_=>rfl) ?_;rcases hk with hk|hk
  all_goals
   refine J5 (vfS c92_ok λN=>?_);simp -implicitDefEqProofs only[c92,go_sem,hpF,fRow,Jb,hg,Nd.cv,hk,hp,Gm]
   repeat refine anO ?_
   refine Kt aL (.inl rfl) rfl rfl rfl rfl ?_
   cases hx:(JG Z.got a == [TyX.int] && JG Z.got b == [TyX.int]) with
   |true=>
    simp -implicitDefEqProofs only[go_sem,hpF,Bool.true_or];exact .one 1 rfl rfl rfl (wk.refl _)
   |false=>
    simp -implicitDefEqProofs only[go_sem,hpF,Bool.false_or];refine Kt dC (gok rfl) rfl rfl rfl rfl ?_;simp -implicitDefEqProofs only[go_sem];exact .one 1 rfl rfl rfl (wk.refl _)
 ·refine Ans.of (txV [.bool]) (by rw[JS,rk_lt (by omega),k0,k1]) rfl (λ_=>rfl) ?_;rcases hk with hk|hk|hk|hk
  all_goals
   refine J5 (vfS c92_ok λN=>?_);simp -implicitDefEqProofs only[c92,go_sem,hpF,fRow,Jb,hg,Nd.cv,hk,hp,Gm]
   repeat refine anO ?_
   refine Kt aL (.inl rfl) rfl rfl rfl rfl ?_;simp -implicitDefEqProofs only[go_sem];exact .one 1 rfl rfl rfl (wk.refl _)
 ·refine Ans.of (txV [.int]) (by rw[JS,rk_add (by omega),k0,k1]) rfl (λ_=>rfl) ?_;rcases hk with hk|hk|hk|hk|hk
  all_goals
   refine J5 (vfS c92_ok λN=>?_);simp -implicitDefEqProofs only[c92,go_sem,hpF,fRow,Jb,hg,Nd.cv,hk,hp,Gm]
   repeat refine anO ?_
   refine Kt aL (.inl rfl) rfl rfl rfl rfl ?_;simp -implicitDefEqProofs only[go_sem];exact .one 1 rfl rfl rfl (wk.refl _)
end
end
section
def Ln (got:List TL):Prop:=∀j,(JG got j).length<=30
theorem ln_set {got:List TL}{i:Nat}{l:TL}(h:Ln got)(hl:l.length<=30):Ln (got.set i l):=λj=>by
 by_cases hi:i<got.length
 ·rw[Jac hi]
  split
  ·exact hl
  ·exact h j
 ·rw[List.set_eq_of_length_le (by omega)];exact h j
theorem given_len {ls:List TL}{l:TL}(h:Yn ls=some l)(h1:ls.length<=30)(h2:∀x∈ls,x.length<=30):l.length<=30:=by
 unfold Yn at h
 split at h
 ·cases h;exact h2 _ (by simp)
 ·split at h
  ·cases h;simpa using h1
  ·cases h
theorem rule_len {k n:Nat}{ks:List Int}{K L:Nat->TL}{ty:TyX}{sp sr si gm l:TL}(h:J2 k ks n K L ty sp sr si gm=some l)(hK:∀j,(K j).length<=30)(BQ:ks.length<=30)(MJ:sr.length<=30):l.length<=30:=by
 have hg:∀(m:Nat) (f:Nat->Nat),m<=30->Yn ((Gg m).map λj=>K (f j))=some l->l.length<=30:=λm f hm h=>given_len h (by simpa using hm) λx hx=>by
  obtain⟨j,_,rfl⟩:=Hm.1 hx;exact hK _
 have Bo:∀{c:Prop} [Decidable c] {x:TL},(if c then some x else none)=some l->x.length<=30->l.length<=30:=λh hx=>by
  split at h
  ·cases h;exact hx
  ·cases h
 have one:∀a:TyX,([a]:TL).length<=30:=λa=>by simp
 by_cases e1:k=1
 ·subst e1;cases h;exact one _
 by_cases e2:k=2
 ·subst e2;cases h;exact one _
 by_cases e4:k=4
 ·subst e4;rw[rk_cons]at h;exact Bo h (one _)
 by_cases e5:k=5\/k=6
 ·rw[rk_or e5]at h;exact Bo h (one _)
 by_cases e7:k=7\/k=8
 ·rw[rk_eq e7]at h;exact Bo h (one _)
 by_cases e9:9<=k/\k<=12
 ·rw[rk_lt e9]at h;exact Bo h (one _)
 by_cases e13:13<=k/\k<=17
 ·rw[rk_add e13]at h;exact Bo h (one _)
 by_cases e18:k=18
 ·subst e18;rw[rk_read]at h;exact Bo h (one _)
 by_cases e19:k=19
 ·subst e19;rw[rk_not]at h;exact Bo h (one _)
 by_cases e20:k=20
 ·subst e20;rw[rk_neg]at h;exact Bo h (one _)
 by_cases e21:k=21
 ·subst e21;rw[rk_head]at h;exact Bo h (one _)
 by_cases e22:k=22
 ·subst e22;rw[rk_tail]at h;exact Bo h (hK _)
 by_cases e23:k=23
 ·subst e23;rw[Jgm]at h;exact Bo h (one _)
 by_cases e24:k=24
 ·subst e24;rw[rk_size]at h;exact Bo h (one _)
 by_cases e25:k=25
 ·subst e25;cases h;exact one _
 by_cases e26:k=26
 ·subst e26;rw[rk_call]at h;exact Bo h MJ
 by_cases e27:k=27
 ·subst e27;rw[rk_if]at h;exact Bo h (hK _)
 by_cases e28:k=28
 ·subst e28;rw[rk_loop]at h;exact Bo h (hK _)
 by_cases e29:k=29
 ·subst e29;rw[Jgo]at h;exact Bo h (one _)
 by_cases e40:k=40
 ·subst e40;exact hg _ _ (by omega) h
 by_cases e45:k=45
 ·subst e45;exact hg _ id (by omega) h
 by_cases e42:k=42
 ·subst e42;rw[Jgn]at h
  split at h <;> cases h <;> simp
 by_cases e64:k=64
 ·subst e64;cases h;exact one _
 by_cases e43:k=43
 ·subst e43;rw[rk_init]at h;exact Bo h (one _)
 by_cases e44:k=44
 ·subst e44;rw[rk_next]at h;exact Bo h (by simp)
 by_cases e47:k=47
 ·subst e47;cases h;exact one _
 by_cases e65:k=65
 ·subst e65;rw[rk_def]at h;exact Bo h (by simp)
 have:J2 k ks n K L ty sp sr si gm=some []:=by
  unfold J2;simp only[e1,e2,e4,e5,e7,e9,e13,e18,e19,e20,e21,e22,e23,e24,e25,e26,e27,e28,e29,e40,e45,e42,e64,e43,e44,e47,e65,if_false]
 rw[this]at h;cases h;simp
variable {t:Tr}
theorem sig_len (ht:t.Fit)(d:Nat):(Y1 t d).length<=30:=by
 unfold Y1;simp only[Lc,H6];by_cases hd:d<t.nodes.length
 ·have:=(JdN ht hd).kidn;omega
 ·have:(nd t d).kids=[]:=by unfold nd;rw[Gb,Gs (by omega)];rfl
  rw[this];simp
theorem kids_len (ht:t.Fit)(d:Nat):(nd t d).kids.length<=30:=by
 by_cases hd:d<t.nodes.length
 ·exact(JdN ht hd).kidn
 ·have:(nd t d).kids=[]:=by unfold nd;rw[Gb,Gs (by omega)];rfl
  rw[this];simp
theorem putB_ln {s:Nat}{l:TL}{got:List TL}(h:Ln got):∀m,Ln (Jbp t s l got m)
 |0=>h
 |m+1=>by
  rw[Jbp]
  split
  ·exact ln_set (putB_ln h m) (by simp)
  ·exact putB_ln h m
theorem Jb2 {s:Nat}{S:FS}(h:Ln S.got):Ln (Kc t s S).got:=by
 unfold Kc;simp only
 split
 ·exact putB_ln h _
 ·unfold FS.fail;split <;> exact h
theorem fin_ln {S:FS}{i:Nat}{r:Option TL}(h:Ln S.got)(hr:∀l,r=some l->l.length<=30):Ln (S.fin i r).got:=by
 have hF:Ln (S.fail i).got:=by unfold FS.fail;split <;> exact h
 unfold FS.fin
 cases r with
 |none=>exact hF
 |some l=>
  simp only
  split
  ·exact h
  ·split
   ·simp only
    split
    ·exact h
    ·exact ln_set h (hr l rfl)
   ·exact hF
theorem doF_ln (ht:t.Fit){o:List Int}{mean:Nat->Nat}:∀(f:Nat) (S:FS) (i:Nat),Ln S.got->Ln (doF t o mean f S i).got
 |0,S,i,h=>h
 |f+1,S,i,h=>by
  have ih:=doF_ln ht (o:=o) (mean:=mean) f;rw[doF]
  split
  ·exact h
  split
  ·have hd:∀S' r,JbP t o (doF t o mean f) (mean i) i S=(S',r)->Ln S'.got/\∀l,r=some l->l.length<=30:=by
    intro S' r e;have M5:∀(l:List Nat) (S:FS),Ln S.got->Ln (l.foldl (doF t o mean f) S).got:=by
     intro l
     induction l with
     |nil=>intro S h;exact h
     |cons x l ih2=>intro S h;exact ih2 _ (ih S x h)
    unfold JbP at e
    split at e
    ·cases e;exact⟨h,λl hl=>by cases hl;simp⟩
    ·split at e
     ·cases e;exact⟨h,λl hl=>by cases hl;simp⟩
     ·split at e
      ·cases e
       have hF:Ln (XB t o (doF t o mean f) (Kh t (mean i)).toNat i S).got:=by
        unfold XB
        split
        ·unfold FS.fail;split <;> exact h
        ·simp only
         split
         ·exact M5 _ _ h
         ·exact Jb2 (M5 _ _ h)
       exact⟨hF,λl hl=>by cases hl;exact hF _⟩
      ·cases e;exact⟨h,λl hl=>by cases hl;exact h _⟩
   obtain⟨h1,h2⟩:=hd _ _ rfl;exact fin_ln h1 h2
  ·split
   ·refine fin_ln ?_ λl hl=>?_
    ·unfold Jau;split
     ·exact h
     ·exact Jb2 h
    ·split at hl
     ·cases hl;simp
     ·cases hl
   ·refine fin_ln h λl hl=>?_
    rw[JS]at hl;exact rule_len hl (λj=>by unfold KK;split;exact h _;simp) (kids_len ht i) (sig_len ht _)
end
end Go.Cm
end
end
