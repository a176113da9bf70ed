/-
  A part of the proof. Conditions: none.
-/
import Derived.Test.YtdnnimemociklaaGreatDoorWT1
set_option linter.unusedSimpArgs false
set_option linter.unusedVariables false
open Option.some renaming injEq->Gn
open Prod.mk renaming injEq->Gp
open List renaming getD_eq_getElem?_getD->Gb,getElem?_eq_getElem->Gh,length_cons->Gc,getElem?_set_self->Gl,length_nil->Gf,map_cons->Gd,getElem?_set_ne->Gq,getElem?_eq_none->Gs,map_nil->Gj,range->Gg,getElem?_range->Gt,getD_cons_zero->Gu,getElem?_eq_some_iff->Gy,set_cons_zero->Gv,take_of_length_le->Gz,length_take->Gw,set_cons_succ->GA,getElem?_map->GD,getElem?_append_right->GM,mem_or_eq_of_mem_set->GN,getElem_mem->GG,take_succ_eq_append_getElem->G5,getD_cons_succ->GQ,getElem?_append_left->G6,drop_zero->GI,mem_cons->GJ,not_mem_nil->GR,length_drop->GU,map_map->GK,take_zero->GV,take_succ_cons->G7,getElem_range->G8,getElem_set->G9,cons_append->Ha,all_eq_true->Hd,nil_append->He,length_set->Hf,replicate->Hg,getElem?_take_of_lt->Hy,getElem?_cons_zero->Hz,all_cons->Hl,drop_eq_nil_of_le->HV,mem_map->Hm,all_nil->Ho,map_congr_left->HY,length_append->HZ,getElem?_drop->H5,length_range->H6,ext_getElem?->H7,take_length->H8,mem_flatMap->H9,ext_getElem->La,range_succ->Lb,length_map->Lc,headD_cons->Ld,all_append->Le,map_set->Lf,map_id->Lg,length->Lh
open Bool renaming and_eq_true->GL,true_and->GX,eq_iff_iff->Hq,false_and->Hr,and_true->Ht
open Nat renaming le_refl->Gr,zero_add->Gx,add_sub_cancel_left->Li,le_of_eq->Hu,reduceEqDiff->Lj,strongRecOn->Ll,reduceAdd->Lm,sub_self->Lp,lt_or_ge->Lr
open Option renaming getD_some->GH,isSome_some->GY,isSome_none->GZ,map_some->Hw
open Go.Proofs.Tryz renaming prog->Ga
open Int renaming toNat_natCast->Gi,cast_ofNat_Int->Gm
noncomputable section
section
set_option maxRecDepth 100000
namespace Go.Cm
variable {op:IOp}{T:Ls}{H H':Lt}{v:CV}{P:Program}{b f n0 p x:Nat}{Q:Exit->Ls->Lt->Prop}{es:List Lx}{d:Option Nat}{g:Option (Nat×Bool)}{io:IOper}{xa:LK}{o:CObj}{R:Lx}
def still:IOp->Bool
 |.nchk _=>true
 |.sliceS _ _ _=>true
 |.indexS _ _=>true
 |_=>false
theorem still_exec{c:Cond}(hs:still op=true)(he:exec op T H=some (c,v,H')):H'=H/\∀H2,exec op T H2=some (c,v,H2):=by
 cases op <;> simp only[still]at hs <;> first|(cases hs;done)|skip
 all_goals
  simp only[exec]at he|-
  repeat' split at he
  all_goals first|(cases he;done)|(simp only[Gn,Gp]at he;obtain⟨rfl,rfl,rfl⟩:=he;refine⟨rfl,λH2=>?_⟩;simp_all)
def low (op:IOp)(T:Ls):Option Nat:=match op with
 |.load _ _ a=>match Ke T a with
  |.ptr id _ _=>some id
  |_=>none
 |.iaddr _ a _=>match Ke T a with
  |.slc id _ _ _=>some id
  |_=>none
 |_=>none
theorem low_exec{H2:Lt}{c:Cond}{id:Nat}(hl:low op T=some id)(he:exec op T H=some (c,v,H'))(h2:H2[id]? = H[id]?):H'=H/\exec op T H2=some (c,v,H2):=by
 cases op <;> simp only[low]at hl <;> first|(cases hl;done)|skip
 case load ag n a=>
  split at hl
  ·rename_i i off ha
   cases hl
   simp only[exec,ha]at he|-;rw[h2]
   repeat' split at he
   all_goals first|(cases he;done)|(simp only[Gn,Gp]at he;obtain⟨rfl,rfl,rfl⟩:=he;refine⟨rfl,?_⟩;simp_all)
  ·cases hl
 case iaddr z a i=>
  split at hl
  ·rename_i off len cap ha
   cases hl
   simp only[exec,ha]at he|-
   cases hi:Ke T i <;> rw[hi]at he <;> simp only[reduceCtorEq]at he
   simp only;rw[h2]
   repeat' split at he
   all_goals first|(cases he;done)|(simp only[Gn,Gp]at he;obtain⟨rfl,rfl,rfl⟩:=he;refine⟨rfl,?_⟩;simp_all)
  ·cases hl
def Jci (b:Nat):Foot×Foot:=if b=4 then(.on [1,2,3,4,5],.on []) else if 2000<=b then(.on [b-2000+1],.on [b-2000+1]) else if 1000<=b then(.on [0,b-1000+1],.on [0,b-1000+1]) else Jen b
def Yj (b:Nat)(op:IOp)(T:Ls)(H:Lt):Option (Cond×CV×Lt):=if 1000<=b then none else if b=4 then(match low op T with|some id=>if id<5 then exec op T H else none|none=>none) else if b=0/\still op=true then exec op T H else JeN b op T H
section
variable (P:Program)(E:Env)(n0:Nat)(N:Fr)(Q:Exit->Ls->Lt->Prop)
def vdy (k:LJ):LB->Lx->Ls->Lt->Prop
 |[],_,T,H=>KA P E n0 N Q k T H
 |_::_,[],_,_=>False
 |⟨d,op,none⟩::l,b::bs,T,H=>match Yj b op T H with
  |some (c,v,H')=>c.holds/\vdy k l bs (put T d v) H'
  |none=>∃v H',HS P E ⟨d,op,none⟩ T H v H' (Jci b)/\vdy k l bs (put T d v) H'
 |⟨d,op,some (s,want)⟩::l,b::bs,T,H=>XQ (T.getD s .un) want (match Yj b op T H with
  |some (c,v,H')=>c.holds/\vdy k l bs (put T d v) H'
  |none=>∃v H',HS P E ⟨d,op,some (s,want)⟩ T H v H' (Jci b)/\vdy k l bs (put T d v) H') (vdy k l bs (put T d (.tup [])) H)
def vdyR (r:Option (Cond×CV×Lt))(d:Option Nat)(op:IOp)(g:Option (Nat×Bool))(b:Nat)(k:LJ)(l:LB)(bs:Lx)(T:Ls)(H:Lt):Prop:=
 match r with
 |some (c,v,H')=>c.holds/\vdy P E n0 N Q k l bs (put T d v) H'
 |none=>∃v H',HS P E ⟨d,op,g⟩ T H v H' (Jci b)/\vdy P E n0 N Q k l bs (put T d v) H'
end
section
variable{E:Env}{N:Fr}{k:LJ}{l:LB}{bs:Lx}
theorem vy_nil:vdy P E n0 N Q k [] bs T H=KA P E n0 N Q k T H:=propext (by cases bs <;> exact Iff.rfl)
theorem vy_op:vdy P E n0 N Q k (⟨d,op,none⟩::l) (b::bs) T H=vdyR P E n0 N Q (Yj b op T H) d op none b k l bs T H:=propext Iff.rfl
theorem vy_gop{s:Nat}{want:Bool}:vdy P E n0 N Q k (⟨d,op,some (s,want)⟩::l) (b::bs) T H=XQ (T.getD s .un) want (vdyR P E n0 N Q (Yj b op T H) d op (some (s,want)) b k l bs T H) (vdy P E n0 N Q k l bs (put T d (.tup [])) H):=propext Iff.rfl
theorem vdyR_some{c:Cond}:vdyR P E n0 N Q (some (c,v,H')) d op g b k l bs T H=(c.holds/\vdy P E n0 N Q k l bs (put T d v) H'):=propext Iff.rfl
theorem vdy_look {T':Ls}{H':Lt}(hT:T=T')(hH:H=H'):vdy P E n0 N Q k l bs T H=vdy P E n0 N Q k l bs T' H':=by rw[hT,hH]
theorem vdyR_look {r r':Option (Cond×CV×Lt)}(h:r=r'):vdyR P E n0 N Q r d op g b k l bs T H=vdyR P E n0 N Q r' d op g b k l bs T H:=by rw[h]
attribute [congr] vdy_look vdyR_look
theorem JdS{c:Cond}(hg:GOk T g)(he:JeN b op T H=some (c,v,H'))(hc:c.holds):HS P E ⟨d,op,g⟩ T H v H' (Jen b):=by
 unfold JeN at he;unfold Jen
 split at he
 ·rename_i h;rw[if_pos h];unfold JfD at he;rw[if_neg vk]at he
  split at he
  ·rename_i hs
   split at he
   ·rename_i c' v' h1;simp only[Gn,Gp]at he;obtain⟨rfl,rfl,rfl⟩:=he;exact Jco λH2=>.inr ⟨hg,.inl ⟨_,Jit hs h1 H2,hc⟩⟩
   ·cases he
  ·cases he
 ·rename_i h;rw[if_neg h]
  split at he
  ·rename_i h1;rw[if_pos h1]
   split at he
   ·rename_i h2;obtain rfl:=JgT h2 he;exact hs_ro hg he hc
   ·cases he
  ·rename_i h1;rw[if_neg h1];exact hs_op hg he hc
theorem xexecY_sound{c:Cond}(hg:GOk T g)(he:Yj b op T H=some (c,v,H'))(hc:c.holds):HS P E ⟨d,op,g⟩ T H v H' (Jci b):=by
 unfold Yj at he
 split at he
 ·cases he
 rename_i hb;unfold Jci
 split at he
 ·rename_i h4;rw[if_pos h4]
  split at he
  ·rename_i id hl
   split at he
   ·rename_i h5;obtain⟨rfl,_⟩:=low_exec hl he rfl;refine⟨λ_ _=>rfl,λT2 H2 ag hx=>⟨H2,λy hy=>(by cases hy),λ_ _=>rfl,λ_ _ _ _ _ Aq=>?_⟩⟩;have hH:H2[id]? = H'[id]?:=by have:=hx (id+1) (by simp only[Foot.has,GJ,GR,or_false];omega);simpa [hat]using this
    exact Jfm (YU ag hg) (by rw[<-QM (Jl ag).2];exact(low_exec hl he hH).2) hc Aq
   ·cases he
  ·cases he
 ·rename_i h4;rw[if_neg h4,iN7,if_neg hb]
  split at he
  ·rename_i h;obtain⟨rfl,h2⟩:=h;obtain⟨rfl,h3⟩:=still_exec h2 he;exact Jco λH2=>.inr ⟨hg,.inl ⟨_,h3 H2,hc⟩⟩
  ·exact JdS hg he hc
theorem hs_no0{f:Foot×Foot}(h:HS P E io T H v H Foot.no)(hf:(∀x,f.2.has x->f.1.has x)):HS P E io T H v H f:=by
 refine⟨λ_ _=>rfl,λT2 H2 ha hx=>?_⟩;obtain⟨H3,_,h2,h3⟩:=h.run T2 H2 ha λy hy=>(by cases hy)
 exact⟨H3,λy hy=>(h2 y λhy=>(by cases hy)).trans (hx y (hf y hy)),λy _=>h2 y λhy=>(by cases hy),h3⟩
theorem footY_sub:∀x,(Jci b).2.has x->(Jci b).1.has x:=λx=>by
 unfold Jci
 split
 ·intro h;cases h
 ·split
  ·exact id
  ·split
   ·exact id
   ·unfold Jen
    split
    ·exact id
    ·split
     ·intro h;cases h
     ·exact id
theorem vdy_vals:∀(l:LB) (bs:Lx) (T:Ls) (H:Lt),vdy P E n0 N Q k l bs T H->l.length=bs.length->∃(v:Nat->CV) (hh:Nat->Lt),hh 0=H/\(∀j,j<l.length->HS P E (QY l j) (tst l v T j) (hh j) (v j) (hh (j+1)) (Xv (bs.map Jci) j))/\KA P E n0 N Q k (tst l v T l.length) (hh l.length)
 |[],bs,T,H,h,_=>⟨λ_=>.un,λ_=>H,rfl,sM,by rw[vy_nil]at h;exact h⟩
 |io::l,[],T,H,h,hl=>by simp at hl
 |io::l,b::bs,T,H,h,hl=>by
  have Ep:∃v0 H',HS P E io T H v0 H' (Jci b)/\vdy P E n0 N Q k l bs (put T io.dst v0) H':=by
   obtain⟨d,op,g⟩:=io;have hR:∀{g:Option (Nat×Bool)},GOk T g->vdyR P E n0 N Q (Yj b op T H) d op g b k l bs T H->∃v0 H',HS P E ⟨d,op,g⟩ T H v0 H' (Jci b)/\vdy P E n0 N Q k l bs (put T d v0) H':=λhg h=>by
    unfold vdyR at h
    split at h
    ·rename_i c v H' he;exact⟨v,H',xexecY_sound hg he h.1,h.2⟩
    ·exact h
   cases g with
   |none=>rw[vy_op]at h;exact hR (.inl rfl) h
   |some g=>
    obtain⟨s,want⟩:=g;rw[vy_gop]at h;unfold XQ at h
    split at h
    ·rename_i t ht;by_cases hw:t=want
     ·exact hR (.inr ⟨s,want,rfl,by rw[ht,hw]⟩) (h.1 hw)
     ·have EM:t = !want:=by cases t <;> cases want <;> first|rfl|exact absurd rfl hw
      exact⟨.tup [],H,hs_no0 (Jco λH2=>.inl ⟨s,want,rfl,.inl (by rw[ht,EM]),rfl⟩) footY_sub,h.2 EM⟩
    ·rename_i ht;exact⟨.tup [],H,hs_no0 (Jco λH2=>.inl ⟨s,want,rfl,.inr ht,rfl⟩) footY_sub,h⟩
    ·exact h.elim
  obtain⟨v0,H',h1,h2⟩:=Ep;obtain⟨v,hh,h0,h3,h4⟩:=vdy_vals l bs _ _ h2 (by simpa using hl)
  let v':Nat->CV:=λj=>match j with|0=>v0|j+1=>v j
  let EC:Nat->Lt:=λj=>match j with|0=>H|j+1=>hh j
  have key:∀j,tst (io::l) v' T (j+1)=tst l v (put T io.dst v0) j:=by
   intro j
   induction j with
   |zero=>rfl
   |succ j ih=>rw[tst,ih];rfl
  refine⟨v',EC,rfl,λj hj=>?_,?_⟩
  ·cases j with
   |zero=>have e:EC (0+1)=H':=h0;rw[e];exact h1
   |succ j=>rw[key];exact h3 j (by simpa using hj)
  ·rw[Gc,key];exact h4
theorem KL (bs:Lx)(hm:P.follows .mixedOrders=true)(AJ:(l.length == bs.length && (JaF l.length es (clo es) && Qd l (clo es) (bs.map Jci)))=true)(h:vdy P E n0 N Q k l bs T H):Ok P E n0 N Q (.code (.dreg l es)::k) T H:=by simp only[GL,beq_iff_eq]at AJ;obtain⟨v,hh,h0,h1,h2⟩:=vdy_vals l bs T H h AJ.1;exact Jez AJ.2.1 hm AJ.2.2 h1 h0 (Jz _ _ _ h2)
theorem vy_f(hg:GOk T g)(Af:Fn P f (xa.map (Ke T)) v)(h:vdy P E n0 N Q k l bs (put T d v) H):vdyR P E n0 N Q none d (.call f xa) g 0 k l bs T H:=⟨v,H,hs_f hg Af,h⟩
theorem hs_pcall(hg:GOk T g)(Af:Pure P E f (xa.map (Ke T)) H v):HS P E ⟨d,.call f xa,g⟩ T H v H (.all,.on []):=by
 have h:=JcA (d:=d) hg Af;refine⟨λ_ _=>rfl,λT2 H2 ag hx=>?_⟩;have hH:H2=H:=Jao λy=>hx y trivial
 obtain⟨H2',h1,_,h3⟩:=h.run T2 H2 ag λy _=>hx y trivial
 have dh:H2'=H:=Jao λy=>h1 y trivial
 subst hH dh;exact⟨_,λy hy=>(by cases hy),λ_ _=>rfl,h3⟩
theorem vy_p(hg:GOk T g)(Af:Pure P E f (xa.map (Ke T)) H v)(h:vdy P E n0 N Q k l bs (put T d v) H):vdyR P E n0 N Q none d (.call f xa) g 1 k l bs T H:=⟨v,H,hs_pcall hg Af,h⟩
theorem vy_new(id:Nat){c:Cond}(mk:Nat->CV)(o:CObj)(hg:GOk T g)(OB:H.length=id)(he:∀H2,exec op T H2=some (c,mk H2.length,H2++[o]))(hc:c.holds)(Ab:id<1000)(h:vdy P E n0 N Q k l bs (put T d (mk id)) (H++[o])):vdyR P E n0 N Q none d op g (1000+id) k l bs T H:=by
 subst OB;have hf:Jci (1000+H.length)=(.on [0,H.length+1],.on [0,H.length+1]):=by unfold Jci;rw[iN7,iN7,iP7,Li]
 refine⟨_,_,?_,h⟩;rw[hf];refine⟨λx hx=>?_,λT2 H2 ag hx=>?_⟩
 ·simp only[Foot.has,GJ,GR,or_false,not_or]at hx
  cases x with
  |zero=>exact absurd rfl hx.1
  |succ x=>
   simp only[hat,Gp,and_true];have Ag:x≠H.length:=λe=>hx.2 (by rw[e])
   rcases Lr x H.length with h|h
   ·rw[G6 h]
   ·rw[Gs (by simp;omega),Gs h]
 ·have hl:H2.length=H.length:=by have:=hx 0 (by simp[Foot.has]);simpa [hat]using this
  refine⟨H2++[o],λx hx=>?_,λx hx=>?_,λ_ _ _ _ _ Aq=>Jfm (c:=c) (v:=mk H2.length) (H':=H2++[o]) (YU ag hg) (by rw[<-QM (Jl ag).2];exact he H2) hc (by rw[hl];exact Aq)⟩
  ·simp only[Foot.has,GJ,GR,or_false]at hx;rcases hx with rfl|rfl
   ·simp[hat,hl]
   ·simp only[hat,Gp,and_true];rw[<-hl,GM (Gr _),hl,GM (Gr _)]
  ·simp only[Foot.has,GJ,GR,or_false,not_or]at hx
   cases x with
   |zero=>exact absurd rfl hx.1
   |succ x=>
    simp only[hat,Gp,and_true];have Ag:x≠H2.length:=λe=>hx.2 (by rw[e,hl])
    rcases Lr x H2.length with h|h
    ·rw[G6 h]
    ·rw[Gs (by simp;omega),Gs h]
theorem vy_set(j:Nat){c:Cond}(o:CObj)(hg:GOk T g)(he:∀H2:Lt,H2[j]? = H[j]?->exec op T H2=some (c,v,H2.set j o))(hc:c.holds)(hj:j<H.length)(h:vdy P E n0 N Q k l bs (put T d v) (H.set j o)):vdyR P E n0 N Q none d op g (2000+j) k l bs T H:=by
 have hf:Jci (2000+j)=(.on [j+1],.on [j+1]):=by unfold Jci;rw[iN7,iP7,Li]
 have hs:∀(H:Lt) (x:Nat),x≠j+1->hat (H.set j o) x=hat H x:=λH x hx=>by
  cases x with
  |zero=>simp[hat]
  |succ i=>simp only[hat];rw[Gq om]
 refine⟨_,_,?_,h⟩;rw[hf];refine⟨λx hx=>hs H x (by simpa [Foot.has]using hx),λT2 H2 ag hx=>?_⟩;have hH:H2[j]? = H[j]?:=by have:=hx (j+1) (by simp[Foot.has]);simpa [hat]using this
 have Dn:j<H2.length:=by rw[Gh hj]at hH;exact(Gy.1 hH).1
 refine⟨H2.set j o,λx hx=>?_,λx hx=>hs H2 x (by simpa [Foot.has]using hx),λ_ _ _ _ _ Aq=>Jfm (YU ag hg) (by rw[<-QM (Jl ag).2];exact he H2 hH) hc Aq⟩;have:x=j+1:=by simpa [Foot.has]using hx
 subst this;simp only[hat];rw[Gl Dn,Gl hj]
theorem vy_row{z n:Nat}{zero:Ls}{ps:List (Nat×IArg)}(els:LM)(hg:GOk T g)(Ar:Jp ((IOp.bslice z n zero ps).rd.map λs=>T.getD s .un)=true)(he:Yf T z (Hg n zero) ps=some els)(hn:els.length=n)(hc:Jq els=true)(h:vdy P E n0 N Q k l bs (put T d (.rslc z els none)) H):vdyR P E n0 N Q none d (.bslice z n zero ps) g 0 k l bs T H:=by
 refine⟨_,H,Jco λH2=>.inr ⟨hg,.inr (.inr ⟨Ar,rfl,.tt,.slc 0 0 n (some n),[.arr z els],0,z,els,?_,trivial,rfl,hc,?_⟩)⟩,h⟩
 ·simp[exec,he]
 ·subst hn;simp[frz]
end
theorem yexec0:Yj 0 op T H=if still op=true then exec op T H else JfD false op T H:=by
 unfold Yj;rw[if_neg vk,if_neg vk];by_cases h:still op=true
 ·rw[if_pos ⟨rfl,h⟩,if_pos h]
 ·rw[if_neg (λx=>h x.2),if_neg h];rfl
theorem yexec1:Yj 1 op T H=if looks op=true then exec op T H else none:=by unfold Yj;rw[if_neg vk,if_neg vk,if_neg (λh=>by cases h.1)];rfl
theorem yexec2:Yj 2 op T H=exec op T H:=by unfold Yj;rw[if_neg vk,if_neg vk,if_neg (λh=>by cases h.1)];rfl
theorem yexec4:Yj 4 op T H=match low op T with|some id=>if id<5 then exec op T H else none|none=>none:=by unfold Yj;rw[if_neg vk,if_pos rfl]
theorem yexecN(h:1000<=b):Yj b op T H=none:=by unfold Yj;rw[if_pos h]
attribute [go_sem] yexec0 yexec1 yexec2 yexec4 still low
attribute [go_sem] vy_nil vy_op vy_gop vdyR_some
mutual
def refs:CV->Lx
 |.slc j _ _ _=>[j]
 |.ptr j _ _=>[j]
 |.map j=>[j]
 |.fn _ l1 l2=>Jgg l1++Jgg l2
 |.iface _ c=>refs c
 |.agg l=>Jgg l
 |.tup l=>Jgg l
 |_=>[]
def Jgg:Ls->Lx
 |[]=>[]
 |c::cs=>refs c++Jgg cs
end
def JhV:CObj->Lx
 |.arr _ es=>es.flatMap Jgg
 |.map kvs=>kvs.flatMap λp=>refs p.1++refs p.2
 |_=>[]
mutual
theorem JcU {ρ:Lx}:∀(c:CV),(∀i∈refs c,Jm i ρ 0=some i)->ren ρ c=c
 |.un,_=>rfl
 |.bool _,_=>rfl
 |.int _ _,_=>rfl
 |.str _,_=>rfl
 |.nilp,_=>rfl
 |.ptr j _ _,h=>by simp only[ren,h j (by simp[refs])]
 |.rptr _,_=>rfl
 |.nils,_=>rfl
 |.slc j _ _ _,h=>by simp only[ren,h j (by simp[refs])]
 |.rslc _ _ _,_=>rfl
 |.nilm,_=>rfl
 |.map j,h=>by simp only[ren,h j (by simp[refs])]
 |.fn _ l1 l2,h=>by simp only[ren,Jat l1 λi hi=>h i (by simp[refs,hi]),Jat l2 λi hi=>h i (by simp[refs,hi])]
 |.yld _,_=>rfl
 |.nilf,_=>rfl
 |.iface _ c,h=>by simp only[ren,JcU c λi hi=>h i (by simpa [refs]using hi)]
 |.nili,_=>rfl
 |.agg l,h=>by simp only[ren,Jat l λi hi=>h i (by simpa [refs]using hi)]
 |.tup l,h=>by simp only[ren,Jat l λi hi=>h i (by simpa [refs]using hi)]
theorem Jat {ρ:Lx}:∀(l:Ls),(∀i∈Jgg l,Jm i ρ 0=some i)->JB ρ l=l
 |[],_=>rfl
 |c::cs,h=>by simp only[JB,JcU c λi hi=>h i (by simp[Jgg,hi]),Jat cs λi hi=>h i (by simp[Jgg,hi])]
end
theorem ren_refsO {ρ:Lx}(h:∀i∈JhV o,Jm i ρ 0=some i):Yd ρ o=o:=by
 cases o with
 |arr z es=>
  simp only[Yd]
  congr 1
  refine(HY λe he=>?_).trans (Lg _);exact Jat e λi hi=>h i (by simp only[JhV,H9];exact⟨e,he,hi⟩)
 |map kvs=>
  simp only[Yd]
  congr 1
  refine(HY λp hp=>?_).trans (Lg _);have h1:∀i∈refs p.1++refs p.2,Jm i ρ 0=some i:=λi hi=>h i (by simp only[JhV,H9];exact⟨p,hp,hi⟩)
  rw[JcU p.1 λi hi=>h1 i (by simp[hi]),JcU p.2 λi hi=>h1 i (by simp[hi])];rfl
 |dead=>rfl
 |ext s b=>rfl
def okId (H:Lt)(p i:Nat):Prop:=i<H.length/\(H[i]? = some .dead->i<p)
structure NoD (p:Nat)(T:Ls)(H:Lt):Prop where
 t:∀c∈T,∀i∈refs c,okId H p i
 h:∀o∈H,∀i∈JhV o,okId H p i
theorem mem_put{c:CV}(h:c∈put T d v):c=v\/c∈T:=by
 cases d with
 |none=>exact .inr h
 |some d=>exact(GN h).symm
theorem Jb1{i j:Nat}(ho:o.alive=true)(h:okId H p i):okId (H.set j o) p i:=by
 refine⟨by rw[Hf];exact h.1,λhd=>?_⟩;by_cases e:i=j
 ·subst e;rw[Gl h.1,Gn]at hd;subst hd;cases ho
 ·rw[Gq (λx=>e x.symm)]at hd;exact h.2 hd
section
variable (P:Program)(E:Env)(n0 p:Nat)(N:Fr)(Q:Exit->Ls->Lt->Prop)
structure HSI (io:IOper)(T:Ls)(H:Lt)(v:CV)(H':Lt)(f:Foot×Foot):Prop where
 out:∀x,¬f.2.has x->hat H' x=hat H x
 run:∀T2 H2,NoD p T2 H2->agree io.rd T T2->(∀x,f.1.has x->hat H2 x=hat H x)->∃H2',NoD p (put T2 io.dst v) H2'/\(∀x,f.2.has x->hat H2' x=hat H' x)/\(∀x,¬f.2.has x->hat H2' x=hat H2 x)/\
  ∀(N:Fr) (Q:Exit->Ls->Lt->Prop) (k:LJ) (l:LB),Ok P E n0 N Q (.ops l::k) (put T2 io.dst v) H2'->Ok P E n0 N Q (.ops (io::l)::k) T2 H2
def Jdf (b:Nat×Lx):Foot×Foot:=match b.1 with
 |0=>(.on (b.2.map (· + 1)),.on [])
 |j+1=>(.on ((j+1)::b.2.map (· + 1)),.on [j+1])
def vdz (k:LJ):LB->List (Nat×Lx)->Ls->Lt->Prop
 |[],_,T,H=>KA P E n0 N Q k T H
 |_::_,[],_,_=>False
 |io::l,b::bs,T,H=>∃v H',HSI P E n0 p io T H v H' (Jdf b)/\vdz k l bs (put T io.dst v) H'
end
section
variable{E:Env}{N:Fr}{k:LJ}{l:LB}{fs:List (Foot×Foot)}{v:Nat->CV}{hh:Nat->Lt}{bs:List (Nat×Lx)}
theorem JfC (hv:∀j,j<l.length->HSI P E n0 p (QY l j) (tst l v T j) (hh j) (v j) (hh (j+1)) (Xv fs j)){a:Nat}:∀d,a+d<=l.length->(∀i,a<=i->i<a+d->¬(Xv fs i).2.has x)->hat (hh (a+d)) x=hat (hh a) x
 |0,_,_=>rfl
 |d+1,h,hn=>by
  have h1:=(hv (a+d) om).out x (hn (a+d) om om);have h2:=JfC hv d om λi hi Dh=>hn i hi om
  rw[<-h2];exact h1
theorem any_orderI (ho:OrderedH l es fs)(hv:∀j,j<l.length->HSI P E n0 p (QY l j) (tst l v T j) (hh j) (v j) (hh (j+1)) (Xv fs j))(AB:Ok P E n0 N Q k (tst l v T l.length) (hh l.length)){S:Nat->Bool}{is:Lx}(h:Sched l.length es S is) :
  ∀T' H',(∀i,i<l.length->S i=true->∀e∈es.getD i [],S e=true)->At l v T S T'->AtH l fs hh S H'->NoD p T' H'->Ok P E n0 N Q (.ops (is.map (QY l))::k) T' H':=by
 induction h with
 |nil hn=>
  rename_i S;intro T' H' Ar hA hB _;have Ak:∀i,i<l.length->S i=true:=by
   intro i
   induction i using Ll with
   |_ i ih=>
    intro hi
    cases hS:S i with
    |true=>rfl
    |false=>obtain⟨e,he,OM⟩:=hn i hi hS;have Ab:=ho.base.lt i hi e he;have:=ih e Ab om;rw[this]at OM;cases OM
  have hH:H'=hh l.length:=Jao λx=>hB x l.length (Gr _) λi hi _=>⟨λ_=>hi,λ_=>Ak i hi⟩
  rw[hA.all ho.base Ak,hH];exact Jb0 AB
 |cons hi hS hr _ ih=>
  rename_i S j is Ex;intro T' H' Ar hA hB hN;have key:∀i,i<l.length->i≠j->∀x,(Xv fs i).2.has x->((Xv fs j).1.has x\/(Xv fs j).2.has x)->(S i=true↔i<j):=by
   intro i Aj Ag x h1 h2;have h3:=ho.ord i j x Aj hi Ag h1 h2
   constructor
   ·intro EU;rcases h3 with h3|h3
    ·exact ho.base.lt j hi i h3
    ·have:=Ar i Aj EU j h3;rw[hS]at this;cases this
   ·intro Ab;rcases h3 with h3|h3
    ·exact hr i h3
    ·have:=ho.base.lt i Aj j h3;omega
  obtain⟨H2',g0,g1,g2,g3⟩:=(hv j hi).run T' H' hN (hA.agree ho.base Ar hi hS hr) (λx hx=>hB x j om λi Aj hw=>by
   by_cases Cw:i=j
   ·subst Cw;rw[hS];simp
   ·exact key i Aj Cw x hw (.inl hx))
  refine g3 N Q k _ (ih _ _ (λi Aj EU e he=>?_) (hA.step ho.base hi hS) ?_ g0)
  ·simp only[Bool.or_eq_true,beq_iff_eq]at EU|-;rcases EU with h|h
   ·exact .inl (Ar i Aj h e he)
   ·subst h;exact .inl (hr e he)
  ·intro x m hm hw;by_cases hx:(Xv fs j).2.has x
   ·rw[g1 x hx];have UR:j<m:=(hw j hi hx).1 sM;have hc:=JfC hv (x:=x) (a:=j+1) (m-(j+1)) om (λi h1 h2 Dt=>by
     have Aj:i<l.length:=om
     have h4:=(hw i Aj Dt).2 om;have Ag:i≠j:=om
     have h5:S i=true:=by simpa [Ag]using h4
     have:=(key i Aj Ag x Dt (.inr hx)).1 h5;omega)
    have e:j+1+(m-(j+1))=m:=om
    rw[e]at hc;exact hc.symm
   ·rw[g2 x hx];refine hB x m hm λi Aj Dt=>?_
    have Ag:i≠j:=λe=>hx (e▸Dt)
    have:=hw i Aj Dt;simpa [Ag]using this
theorem vdz_vals:∀(l:LB) (bs:List (Nat×Lx)) (T:Ls) (H:Lt),vdz P E n0 p N Q k l bs T H->l.length=bs.length->∃(v:Nat->CV) (hh:Nat->Lt),hh 0=H/\(∀j,j<l.length->HSI P E n0 p (QY l j) (tst l v T j) (hh j) (v j) (hh (j+1)) (Xv (bs.map Jdf) j))/\KA P E n0 N Q k (tst l v T l.length) (hh l.length)
 |[],bs,T,H,h,_=>⟨λ_=>.un,λ_=>H,rfl,sM,by cases bs <;> exact h⟩
 |io::l,[],T,H,h,hl=>by simp at hl
 |io::l,b::bs,T,H,h,hl=>by
  obtain⟨v0,H',h1,h2⟩:=h;obtain⟨v,hh,h0,h3,h4⟩:=vdz_vals l bs _ _ h2 (by simpa using hl)
  let v':Nat->CV:=λj=>match j with|0=>v0|j+1=>v j
  let EC:Nat->Lt:=λj=>match j with|0=>H|j+1=>hh j
  have key:∀j,tst (io::l) v' T (j+1)=tst l v (put T io.dst v0) j:=by
   intro j
   induction j with
   |zero=>rfl
   |succ j ih=>rw[tst,ih];rfl
  refine⟨v',EC,rfl,λj hj=>?_,?_⟩
  ·cases j with
   |zero=>have e:EC (0+1)=H':=h0;rw[e];exact h1
   |succ j=>rw[key];exact h3 j (by simpa using hj)
  ·rw[Gc,key];exact h4
theorem vr_dregZ (p:Nat)(bs:List (Nat×Lx))(hm:P.follows .mixedOrders=true)(AJ:(l.length == bs.length && (JaF l.length es (clo es) && Qd l (clo es) (bs.map Jdf)))=true)(hN:NoD p T H)(h:vdz P E n0 p N Q k l bs T H):Ok P E n0 N Q (.code (.dreg l es)::k) T H:=by
 simp only[GL,beq_iff_eq]at AJ;obtain⟨v,hh,h0,h1,h2⟩:=vdz_vals l bs T H h AJ.1;refine ok_draw hm λis hs=>?_
 refine any_orderI (Jal AJ.2.2) h1 (Jz _ _ _ h2) (Je3 AJ.2.1 hs λ_ _ h=>by cases h) T H (λ_ _ h=>by cases h) ⟨rfl,λ_ _=>rfl,λ_ _ _ h=>by cases h⟩ (λx m hm hw=>?_) hN;have hc:=JfC h1 (x:=x) (a:=0) m om (λi _ h2 Dt=>by
  have:=(hw i om Dt).2 om
  cases this)
 rw[Gx]at hc;rw[hc,h0]
theorem JdT{c:Cond}{v:CV}(hg:io.guard=none)(he:JeN 0 io.op T H=some (c,v,H))(hc:c.holds)(hr:refs v=R)(hR:∀i∈R,okId H p i)(h:vdz P E n0 p N Q k l bs (put T io.dst v) H):vdz P E n0 p N Q k (io::l) ((0,R)::bs) T H:=by
 refine⟨v,H,⟨λ_ _=>rfl,λT2 H2 hN ha hx=>?_⟩,h⟩;have hs:=JdS (P:=P) (E:=E) (d:=io.dst) (g:=io.guard) (.inl hg) he hc;obtain⟨H3,_,h2,h3⟩:=hs.run T2 H2 ha λy hy=>(by cases hy)
 have hH:H3=H2:=Jao λy=>h2 y λhy=>(by cases hy)
 subst hH;refine⟨H3,⟨λc hc i hi=>?_,hN.h⟩,λy hy=>(by cases hy),λ_ _=>rfl,λN Q k l Aq=>h3 n0 N Q k l Aq⟩;rcases mem_put hc with rfl|hc
 ·rw[hr]at hi;have h4:=hR i hi;have h5:=hx (i+1) (by simp only[Jdf,Foot.has,Hm];exact⟨i,hi,rfl⟩);simp only[hat,Gp,and_true]at h5;have h6:i<H3.length:=by have:=Gh h4.1;rw[this]at h5;exact(Gy.1 h5).1
  exact⟨h6,λhd=>h4.2 (by rw[<-h5];exact hd)⟩
 ·exact hN.t c hc i hi
theorem Jie {H:Lt}{j:Nat}(h:x≠j+1):hat (H.set j o) x=hat H x:=by
 cases x with
 |zero=>simp[hat]
 |succ i=>simp only[hat];rw[Gq om]
theorem okId_foot{H2:Lt}{j:Nat}(hR:∀i∈R,okId H p i)(hx:∀x,(Jdf (j+1,R)).1.has x->hat H2 x=hat H x):∀i∈R,okId H2 p i:=λi hi=>by
 have h4:=hR i hi;have h5:=hx (i+1) (by simp only[Jdf,Foot.has,GJ,Hm];exact .inr ⟨i,hi,rfl⟩);simp only[hat,Gp,and_true]at h5;have h6:i<H2.length:=by have:=Gh h4.1;rw[this]at h5;exact(Gy.1 h5).1
 exact⟨h6,λhd=>h4.2 (by rw[<-h5];exact hd)⟩
theorem hat_at{H2:Lt}{j:Nat}(hx:∀x,(Jdf (j+1,R)).1.has x->hat H2 x=hat H x):H2[j]? = H[j]?:=by have h5:=hx (j+1) (by simp[Jdf,Foot.has]);simpa [hat]using h5
theorem JdU (j:Nat){c:Cond}(mk:Nat->CV)(o:CObj)(hg:io.guard=none)(he:∀H2,exec io.op T H2=some (c,mk H2.length,H2++[o]))(hc:c.holds)(Ov:∀ρ id i,Jm id ρ 0=some i->ren ρ (mk id)=mk i)(PZ:refs (mk j)=[j])(ho:o.alive=true)(hj:H[j]? = some .dead)(ja:p<=j)(hn:n0<=p)(hr:JhV o=R)(hR:∀i∈R,okId H p i)(h:vdz P E n0 p N Q k l bs (put T io.dst (mk j)) (H.set j o)):vdz P E n0 p N Q k (io::l) ((j+1,R)::bs) T H:=by
 have Ba:=(Gy.1 hj).1;refine⟨mk j,H.set j o,⟨λx hx=>Jie λe=>hx (by simp[Jdf,Foot.has,e]),λT2 H2 hN ha hx=>?_⟩,h⟩;have Dn:H2[j]? = some .dead:=by rw[hat_at hx,hj]
 have Fh:=(Gy.1 Dn).1;have PL:=okId_foot hR hx;have Ag:∀i,okId H2 p i->i≠j:=λi hi e=>by subst e;have:=hi.2 Dn;omega
 have OB:∀i,i<H2.length->i≠j->Jm i ((Gg H2.length).set j H2.length) 0=some i:=λi hi Cw=>by
  have h1:((Gg H2.length).set j H2.length)[i]? = some i:=by rw[Gq (λe=>Cw e.symm),Gt hi]
  have key:∀(ρ:Lx) (a b:Nat),ρ[b]? = some i->(∀m,m<b->ρ[m]?≠some i)->Jm i ρ a=some (a+b):=by
   intro ρ
   induction ρ with
   |nil=>intro a b h;simp at h
   |cons q ρ ih=>
    intro a b h hm
    cases b with
    |zero=>simp at h;simp[Jm,h]
    |succ b=>
     have hq:q≠i:=λe=>hm 0 om (by simp[e])
     rw[Jm,if_neg hq,ih (a+1) b (by simpa using h) λm BZ hh=>hm (m+1) om (by simpa using hh)]
     congr 1;omega
  rw[key _ 0 i h1 λm hm hh=>?_,Gx];by_cases e:m=j
  ·subst e;rw[Gl (by simpa using Fh),Gn]at hh;omega
  ·rw[Gq (λx=>e x.symm),Gt om,Gn]at hh;omega
 have jg:Jm H2.length ((Gg H2.length).set j H2.length) 0=some j:=by
  have key:∀(ρ:Lx) (a b x:Nat),ρ[b]? = some x->(∀m,m<b->ρ[m]?≠some x)->Jm x ρ a=some (a+b):=by
   intro ρ
   induction ρ with
   |nil=>intro a b x h;simp at h
   |cons q ρ ih=>
    intro a b x h hm
    cases b with
    |zero=>simp at h;simp[Jm,h]
    |succ b=>
     have hq:q≠x:=λe=>hm 0 om (by simp[e])
     rw[Jm,if_neg hq,ih (a+1) b x (by simpa using h) λm BZ hh=>hm (m+1) om (by simpa using hh)]
     congr 1;omega
  rw[key _ 0 j H2.length (Gl (by simpa using Fh)) λm hm hh=>?_,Gx];rw[Gq om,Gt om,Gn]at hh;omega
 refine⟨H2.set j o,⟨λc hc i hi=>?_,λo' aM i hi=>?_⟩,λx AY=>?_,λx AY=>Jie λe=>AY (by simp[Jdf,Foot.has,e]),λN Q k l Aq=>?_⟩
 ·rcases mem_put hc with rfl|hc
  ·rw[PZ,List.mem_singleton]at hi;subst hi;refine⟨by rw[Hf];exact Fh,λhd=>?_⟩;rw[Gl Fh,Gn]at hd;subst hd;cases ho
  ·exact Jb1 ho (hN.t c hc i hi)
 ·rcases GN aM with h1|rfl
  ·exact Jb1 ho (hN.h o' h1 i hi)
  ·rw[hr]at hi;exact Jb1 ho (PL i hi)
 ·have:x=j+1:=by simpa [Jdf,Foot.has]using AY
  subst this;simp only[hat];rw[Gl Fh,Gl Ba]
 ·refine Jfm (c:=c) (v:=mk H2.length) (H':=H2++[o]) (.inl hg) (by rw[<-QM (Jl ha).2];exact he H2) hc ?_;refine JgM (ρ:=(Gg H2.length).set j H2.length) ⟨?_,λi hi=>?_,λi hi=>?_⟩ ?_
  ·refine List.pairwise_iff_getElem.2 λa b ha hb Uk=>?_
   rw[Hf,H6]at ha hb;rw[G9,G9,G8,G8]
   split <;> split <;> omega
  ·rw[HZ];rcases GN hi with h1|rfl
   ·have:=List.mem_range.1 h1;omega
   ·simp
  ·rw[Gq om,Gt om]
  ·have e1:JB ((Gg H2.length).set j H2.length) (put T2 io.dst (mk H2.length))=put T2 io.dst (mk j):=by
    have h0:JB ((Gg H2.length).set j H2.length) T2=T2:=by
     have:∀l:Ls,(∀c∈l,ren ((Gg H2.length).set j H2.length) c=c)->JB ((Gg H2.length).set j H2.length) l=l:=by
      intro l
      induction l with
      |nil=>intro _;rfl
      |cons c l ih=>intro hl;rw[JB,hl c sM,ih λc hc=>hl c (by simp[hc])]
     exact this T2 λc hc=>JcU c λi hi=>OB i (hN.t c hc i hi).1 (Ag i (hN.t c hc i hi))
    cases hd:io.dst with
    |none=>exact h0
    |some d=>
     have:∀(l:Ls) (d:Nat),JB ((Gg H2.length).set j H2.length) (l.set d (mk H2.length))=(JB ((Gg H2.length).set j H2.length) l).set d (mk j):=by
      intro l
      induction l with
      |nil=>intro d;rfl
      |cons c l ih=>
       intro d
       cases d with
       |zero=>simp only[Gv,JB,Ov _ _ _ jg]
       |succ d=>simp only[GA,JB,ih]
     show JB _ (T2.set d (mk H2.length))=T2.set d (mk j);rw[this,h0]
   have e2:Ko ((Gg H2.length).set j H2.length) (H2++[o])=H2.set j o:=by
    refine H7 λa=>?_
    simp only[Ko,GD];by_cases Dr:a<H2.length
    ·by_cases e:a=j
     ·subst e;rw[Gl (by simpa using Dr),Gl Dr];simp only[Hw,Gb,GM (Gr _),Lp,Hz,GH];rw[ren_refsO λi hi=>by rw[hr]at hi;exact OB i (PL i hi).1 (Ag i (PL i hi))]
     ·rw[Gq (λx=>e x.symm),Gt Dr,Gq (λx=>e x.symm)];simp only[Hw,Gb,G6 Dr,Gh Dr,GH];rw[ren_refsO λi hi=>OB i (hN.h _ (GG Dr) i hi).1 (Ag i (hN.h _ (GG Dr) i hi))]
    ·rw[Gs (by simp;omega),Gs (by simp;omega)];rfl
   rw[e1,e2];exact Aq
theorem vz_set (j:Nat){c:Cond}{v:CV}(o:CObj)(hg:io.guard=none)(he:∀H2:Lt,H2[j]? = H[j]?->exec io.op T H2=some (c,v,H2.set j o))(hc:c.holds)(hv:refs v=[])(ho:o.alive=true)(hr:JhV o=R)(hR:∀i∈R,okId H p i)(Ba:j<H.length)(h:vdz P E n0 p N Q k l bs (put T io.dst v) (H.set j o)):vdz P E n0 p N Q k (io::l) ((j+1,R)::bs) T H:=by
 refine⟨v,H.set j o,⟨λx hx=>Jie λe=>hx (by simp[Jdf,Foot.has,e]),λT2 H2 hN ha hx=>?_⟩,h⟩;have Dn:=hat_at hx;have Fh:j<H2.length:=by rw[Gh Ba]at Dn;exact(Gy.1 Dn).1
 have PL:=okId_foot hR hx;refine⟨H2.set j o,⟨λc hc i hi=>?_,λo' aM i hi=>?_⟩,λx AY=>?_,λx AY=>Jie λe=>AY (by simp[Jdf,Foot.has,e]),λN Q k l Aq=>Jfm (.inl hg) (by rw[<-QM (Jl ha).2];exact he H2 Dn) hc Aq⟩
 ·rcases mem_put hc with rfl|hc
  ·rw[hv]at hi;cases hi
  ·exact Jb1 ho (hN.t c hc i hi)
 ·rcases GN aM with h1|rfl
  ·exact Jb1 ho (hN.h o' h1 i hi)
  ·rw[hr]at hi;exact Jb1 ho (PL i hi)
 ·have:x=j+1:=by simpa [Jdf,Foot.has]using AY
  subst this;simp only[hat];rw[Gl Fh,Gl Ba]
end
end Go.Cm
end
section
set_option maxRecDepth 100000
set_option maxHeartbeats 4000000
open Go.Proofs
namespace Go.Cm
variable {P:Program}{E:Env}{H H' X:Lt}{f i m n n0 z:Nat}{res v v0:CV}{gm l si sp sr:TL}{a:Option TyX}{k:Int}{ρ:Lx}{e els:LM}{S' Z:FS}{t:Tr}{got:List TL}{w:Lv}{F:IFunc}{Q:Exit->Ls->Lt->Prop}{d:Option Nat}{ge:Option (Nat×Bool)}{ks o:Lu}{L:Nat->TL}{r:Option TL}
section
inductive Fnl (n0:Nat)(v0:CV)(H0:Lt):CV->Lt->Prop
 |done {v:CV}:wk v v0->Fnl n0 v0 H0 v H0
 |frz {v:CV} {H:Lt} (id z:Nat) (els:LM):H[id]? = some (.arr z els)->Jq els=true->Fnl n0 v0 H0 (Go.Cm.frz id z els v) (Kv id z els H)->Fnl n0 v0 H0 v H
 |ren {v:CV} {H:Lt} (ρ:Lx):JdC ρ n0 H.length=true->Fnl n0 v0 H0 (Go.Cm.ren ρ v) (Ko ρ H)->Fnl n0 v0 H0 v H
theorem CallsC.fnl{args:Ls}{H0:Lt}(h:CallsC P E f args H λv H'=>Fnl H.length v0 H0 v H'):CallsC P E f args H λv H'=>v=v0/\H'=H0:=by
 intro m w vs hs hv;refine(h m w vs hs hv).mono ?_;rintro e w' ⟨r,m',v,H',h1,h2,h3,h4,g⟩;subst h1
 induction g generalizing m' with
 |done hw=>exact⟨r,m',v0,_,rfl,h2,h3,hw _ _ _ h4,rfl,rfl⟩
 |frz id z els g1 g2 _ ih=>obtain⟨imm',AC,he,hf⟩:=Sim.freeze (n0:=H.length) h3 g1 g2;exact ih _ (h2.trans he) AC (hf _ _ h4)
 |ren ρ g1 _ ih=>have Ad:=h2.long (by rw[hs.len];exact Gr _);rw[h3.len]at Ad;obtain⟨own',AC,he,hf,_⟩:=Sim.ren (n0:=H.length) h3 (Xc g1) Ad;exact ih _ (h2.trans he) AC (hf _ _ h4)
def txz (l:TL):LM:=l.map λa=>[S (tyT a)]
def txV (l:TL):CV:=.rslc 1 (txz l) none
def gz (l:List TL):LM:=l.map λx=>[txV x]
def bqz (l:LH):LM:=l.map λb=>[.bool b]
def kz (l:List (Nat×Bool)):List (CV×CV):=l.map λp=>(.int .i64 (p.1:Int),.bool p.2)
theorem XR:(txz l).length=l.length:=by simp[txz]
theorem Yp {l:List TL}:(gz l).length=l.length:=by simp[gz]
theorem bqz_len {l:LH}:(bqz l).length=l.length:=by simp[bqz]
theorem Qc:∀(l:TL),Jq (txz l)=true
 |[]=>rfl
 |_::l=>Qc l
theorem QS:∀(l:List TL),Jq (gz l)=true
 |[]=>rfl
 |_::l=>QS l
theorem QV:∀(l:LH),Jq (bqz l)=true
 |[]=>rfl
 |_::l=>QV l
theorem Jbf(h:i<l.length):(txz l).getD i []=[S (tyT (l.getD i .int))]:=by simp[txz,Gb,Gh h]
theorem Xw {l:List TL}(h:i<l.length):(gz l).getD i []=[txV (JE l i)]:=by simp[gz,JE,Gb,Gh h]
theorem bqz_get {l:LH}(h:i<l.length):(bqz l).getD i []=[.bool (l.getD i false)]:=by simp[bqz,Gb,Gh h]
theorem gz_set {l:List TL}{x:TL}:(gz l).set i [txV x]=gz (l.set i x):=by simp[gz,Lf]
theorem bqz_set {l:LH}{b:Bool}:(bqz l).set i [.bool b]=bqz (l.set i b):=by simp[bqz,Lf]
theorem keyN {x a:Nat}:Ja9 .int (.int .i64 (x:Int)) (.int .i64 (a:Int))=some (x == a):=by
 simp only[Ja9,if_true]
 congr 1
 rw[Hq,beq_iff_eq,beq_iff_eq];exact Int.ofNat_inj
theorem JaU {k:Nat}:∀(l:List (Nat×Bool)) (i:Nat),(Q5 .int (.int .i64 (k:Int)) (kz l) i=some none/\J2 l k=false/\∀b,kz l++[(.int .i64 (k:Int),.bool b)]=kz (XX k b l))\/(∃j,Q5 .int (.int .i64 (k:Int)) (kz l) i=some (some (i+j,.bool (J2 l k)))/\∀b,(kz l).set j (.int .i64 (k:Int),.bool b)=kz (XX k b l))
 |[],i=>.inl ⟨rfl,rfl,λ_=>rfl⟩
 |(a,c)::l,i=>by
  by_cases h:a=k
  ·subst h;have e:Ja9 .int (.int .i64 (a:Int)) (.int .i64 (a:Int))=some true:=by rw[keyN,beq_self_eq_true]
   refine .inr ⟨0,?_,λb=>?_⟩
   ·simp only[kz,Gd,Q5,e,J2,if_pos,Nat.add_zero]
   ·simp only[kz,Gd,Gv,XX,if_pos]
  ·have e:Ja9 .int (.int .i64 (k:Int)) (.int .i64 (a:Int))=some false:=by rw[keyN,beq_false_of_ne (λe=>h e.symm)]
   rcases JaU l (i+1) with ⟨h1,h2,h3⟩|⟨j,h1,h3⟩
   ·refine .inl ⟨?_,by rw[J2,if_neg h];exact h2,λb=>?_⟩
    ·simp only[kz,Gd,Q5,e];exact h1
    ·rw[XX,if_neg h];show (_::(kz l++_))=(_::kz (XX k b l));rw[h3]
   ·refine .inr ⟨j+1,?_,λb=>?_⟩
    ·simp only[kz,Gd,Q5,e,J2,if_neg h];rw[show i+(j+1)=i+1+j by omega];exact h1
    ·rw[XX,if_neg h];show (_::(kz l).set j _)=(_::kz (XX k b l));rw[h3]
structure FT0 where
 t:Tr
 of:Lu
 up:Lu
 fi:Lu
variable (K:FT0)(S:FS)
def fRow (b:Option Nat):Ls:=[.rslc 5 (ndz K.t.nodes) none,.rslc 1 (iz K.t.items) none,.rslc 1 (iz K.of) none,.rslc 1 (iz K.up) none,.rslc 1 (iz K.fi) none,.slc 1 0 K.t.nodes.length (some K.t.nodes.length),.slc 2 0 K.t.nodes.length (some K.t.nodes.length),.map 3,.map 4,.int .i64 ((b.getD 0:Nat):Int),.bool b.isSome]
def hpF (X:Lt):Lt:=.arr 11 [fRow K S.bad] :: .arr 1 (gz S.got) :: .arr 1 (bqz S.dn) :: .map (kz S.fd) :: .map (kz S.fg)::X
variable {K S}
theorem ren_kz {l:List (Nat×Bool)}:(kz l).map (λp=>(ren ρ p.1,ren ρ p.2))=kz l:=by unfold kz;rw[GK];rfl
theorem ren_gz {l:List TL}:(gz l).map (JB ρ)=gz l:=Ja (QS l)
theorem ren_bqz {l:LH}:(bqz l).map (JB ρ)=bqz l:=Ja (QV l)
theorem ren_hp:Ko (0::1::2::3::4::ρ) (hpF K S X)=hpF K S (ρ.map λid=>Yd (0::1::2::3::4::ρ) ((hpF K S X).getD id .dead)):=by
 have h1:Yd (0::1::2::3::4::ρ) (.arr 1 (gz S.got))=.arr 1 (gz S.got):=by rw[Jj,ren_gz]
 have h2:Yd (0::1::2::3::4::ρ) (.arr 1 (bqz S.dn))=.arr 1 (bqz S.dn):=by rw[Jj,ren_bqz]
 have h3:Yd (0::1::2::3::4::ρ) (.map (kz S.fd))=.map (kz S.fd):=by rw[JhU,ren_kz]
 have h4:Yd (0::1::2::3::4::ρ) (.map (kz S.fg))=.map (kz S.fg):=by rw[JhU,ren_kz]
 have h0:Yd (0::1::2::3::4::ρ) (.arr 11 [fRow K S.bad])=.arr 11 [fRow K S.bad]:=rfl;show [Yd _ (.arr 11 [fRow K S.bad]),Yd _ (.arr 1 (gz S.got)),Yd _ (.arr 1 (bqz S.dn)),Yd _ (.map (kz S.fd)),Yd _ (.map (kz S.fg))]++_=_;rw[h0,h1,h2,h3,h4];rfl
theorem frz_fRow{id:Nat}{b:Option Nat}(h:5<=id):JV id z e (fRow K b)=fRow K b:=by
 have h1:¬1=id:=om
 have h2:¬2=id:=om
 simp only[fRow,JV,frz,if_neg h1,if_neg h2]
theorem frz_hp{id:Nat}:Kv (id+5) z e (hpF K S X)=hpF K S ((X.map (Qj (id+5) z e)).set id .dead):=by
 have h3:∀l:List (Nat×Bool),(kz l).map (λp=>(frz (id+5) z e p.1,frz (id+5) z e p.2))=kz l:=λl=>by unfold kz;rw[GK];rfl
 have h0:=frz_fRow (K:=K) (id:=id+5) (z:=z) (e:=e) (b:=S.bad) om;simp only[hpF,Kv,Gd,Gj,Qj,h0,h3,Jy (QS _),Jy (QV _),GA]
theorem back_out {σ:Lx}(hσ:σ=[0,1,2,3,4])(hH:H'.length=5):∀(X:Lt) (k:Nat),5<=k->Y5 σ n k H' X=X
 |[],k,_=>by subst hσ;rw[Y5,HV (by simp[hH])];rfl
 |o::X,k,hk=>by
  have h:Jm k σ 0=none:=by subst hσ;simp only[Jm];rw[iN7,iN7,iN7,iN7,iN7]
  rw[Y5,h,back_out hσ hH X (k+1) om]
theorem back_hp:Y5 [0,1,2,3,4] n 0 (hpF K S' []) (hpF K S X)=hpF K S' X:=by
 have h1:=JaS (τ:=tau [0,1,2,3,4] n) (z:=1) (QS S'.got);have h2:=JaS (τ:=tau [0,1,2,3,4] n) (z:=1) (QV S'.dn);have h3:∀l:List (Nat×Bool),moO (tau [0,1,2,3,4] n) (.map (kz l))=.map (kz l):=λl=>by show CObj.map ((kz l).map λp=>(mo _ p.1,mo _ p.2))=_;unfold kz;rw[GK];rfl
 have h0:moO (tau [0,1,2,3,4] n) (.arr 11 [fRow K S'.bad])=.arr 11 [fRow K S'.bad]:=rfl;show moO _ (.arr 11 [fRow K S'.bad])::moO _ (.arr 1 (gz S'.got))::moO _ (.arr 1 (bqz S'.dn))::moO _ (.map (kz S'.fd))::moO _ (.map (kz S'.fg))::Y5 [0,1,2,3,4] n 5 (hpF K S' []) X=_;rw[h0,h1,h2,h3,h3,back_out rfl rfl X 5 (Gr _)];rfl
def FMe (P:Program)(f:Nat)(args:Ls)(K:FT0)(S S':FS)(res:CV):Prop:=CallsC P Env.none f (.ptr 0 0 0::args) (hpF K S []) λv H'=>v=res/\H'=hpF K S' []
theorem FMe.on{args:Ls}(h:FMe P f args K S S' res)(ha:Jp args=true)(hr:res.closed=true):CallsC P E f (.ptr 0 0 0::args) (hpF K S X) λv H'=>v=res/\H'=hpF K S' X:=by
 refine(CallsC.loc [0,1,2,3,4] h ?_ ?_ ?_).mono ?_
 ·show ren _ (.ptr 0 0 0)::JB _ args=_;rw[XC args ha];rfl
 ·rw[ren_hp];rfl
 ·rfl
 ·rintro v H' ⟨v0,H0,⟨rfl,rfl⟩,rfl,rfl⟩;exact⟨Jfr _ hr,back_hp⟩
theorem Fnl.out(hw:wk v v0)(hc:v.closed=true):Fnl 5 v0 (hpF K S []) v (hpF K S X):=by refine .ren [0,1,2,3,4] (by simp[JdC,hpF,Lb]) ?_;rw[ren_hp,Xm v hc];exact .done hw
theorem Fnl.one(id:Nat)(hX:X[id]? = some (.arr z els))(hc:Jq els=true)(Ar:(Go.Cm.frz (id+5) z els v).closed=true)(hw:wk (Go.Cm.frz (id+5) z els v) v0):Fnl 5 v0 (hpF K S []) v (hpF K S X):=.frz (id+5) z els hX hc (by rw[frz_hp];exact Fnl.out hw Ar)
theorem Fnl.more(id:Nat)(hX:X[id]? = some (.arr z els))(hc:Jq els=true)(h:Fnl 5 v0 (hpF K S []) (Go.Cm.frz (id+5) z els v) (hpF K S ((X.map (Qj (id+5) z els)).set id .dead))):Fnl 5 v0 (hpF K S []) v (hpF K S X):=.frz (id+5) z els hX hc (by rw[frz_hp];exact h)
theorem Kc{args:Ls}(h:CallsC P Env.none f (.ptr 0 0 0::args) (hpF K S []) λv H'=>Fnl 5 res (hpF K S' []) v H'):FMe P f args K S S' res:=CallsC.fnl h
end
variable {K:FT0}
def opT:Option TyX->Lv
 |none=>[]
 |some a=>tyT a
def QH:TL->Option TyX
 |[a]=>some a
 |_=>none
theorem Jfj{a:TyX}:QH l=some a↔l=[a]:=by
 unfold QH
 split
 ·simp
 ·rename_i h
  constructor
  ·intro h;cases h
  ·intro e;exact absurd e (h a)
theorem oneO_none(h:l.length≠1):QH l=none:=by
 rcases l with _|⟨a,_|⟨b,l⟩⟩
 ·rfl
 ·exact absurd rfl h
 ·rfl
def prt:Option TyX->Option TyX
 |some (.arr b)=>some b
 |some (.str b)=>some b
 |_=>none
def isStr:Option TyX->Bool
 |some (.str _)=>true
 |_=>false
def JdN:Option TyX->Bool
 |some (.arr _)=>true
 |_=>false
theorem Jfz:isStr a=true↔∃b,a=some (.str b):=by rcases a with _|a|a|a|a <;> simp[isStr]
theorem isArr_iff:JdN a=true↔∃b,a=some (.arr b):=by rcases a with _|a|a|a|a <;> simp[JdN]
theorem Jhv:∀a:TyX,(tyT a).length<=7*tyP a
 |.int=>by simp[tyT,tyP]
 |.bool=>by simp[tyT,tyP]
 |.arr a=>by have:=Jhv a;simp[tyT,tyP];omega
 |.str a=>by have:=Jhv a;simp[tyT,tyP,Ya];omega
theorem tyF_len:∀f i,tyP (tyF t f i)<=f+1
 |0,_=>by simp[tyF,tyP]
 |f+1,i=>by
  have h:=tyF_len f (JH t i 0);rw[tyF]
  split
  ·simp[tyP]
  ·split
   ·simp[tyP]
   ·split <;> simp[tyP] <;> omega
theorem JeV(h:i<1400):(tyT (tyN t i)).length<=10000:=by have h1:=Jhv (tyN t i);have h2:=tyF_len (t:=t) (i+1) i;unfold tyN at h1|-;omega
theorem Jio(h:Yq l=true){a:TyX}(ha:a∈l):(tyT a).length<=140:=by unfold Yq at h;have:=Hd.1 h a ha;rw[decide_eq_true_eq]at this;have:=Jhv a;omega
theorem Jfk(h:Yq l=true):(opT (QH l)).length<=140:=by
 cases ho:QH l with
 |none=>simp[opT]
 |some a=>have:=Jfj.1 ho;subst this;exact Jio h sM
theorem prt_len:(opT (prt a)).length<=(opT a).length:=by rcases a with _|a|a|a|a <;> simp[prt,opT,tyT] <;> omega
def areB (got:List TL)(w:Lv)(ks:Lu):Bool:=ks.all λk=>match QH (JE got k.toNat) with
 |none=>false
 |some a=>tyT a == w
theorem Ja2{a:TyX}:areB got (tyT a) [k]=(JE got k.toNat == [a]):=by
 simp only[areB,Hl,Ho,Ht]
 cases ho:QH (JE got k.toNat) with
 |none=>
  symm
  rw[beq_eq_false_iff_ne];intro e;rw[e]at ho;cases ho
 |some b=>rw[Jfj.1 ho,Hq,beq_iff_eq,beq_iff_eq];exact⟨λh=>by rw[Jhw h],λh=>by cases h;rfl⟩
theorem are_cons{l:Lu}:areB got w (k::l)=(areB got w [k] && areB got w l):=by simp[areB]
theorem are_none:areB got [] [k]=false:=by
 simp only[areB,Hl,Ho,Ht]
 cases ho:QH (JE got k.toNat) with
 |none=>rfl
 |some b=>rw[beq_eq_false_iff_ne];exact tyT_ne
theorem takeT(h:i<l.length):l.take (i+1)=l.take i++[l.getD i .int]:=by rw[G5 h,Gb,Gh h];rfl
theorem equalTx (a b:TL)(ha:a.length<=100000):Fn Ga 142 [txV a,txV b] (.bool (a == b)):=by
 have Ao:(txz a).length=a.length:=XR;have Be:(txz b).length=b.length:=XR;refine Jc c142_ok rfl rfl λN=>?_
 by_cases hl:a.length=b.length
 ·have e1:((a.length:Int) != (b.length:Int))=false:=by simp[hl]
  simp only[c142,go_sem,txV,Ao,Be,e1];refine JO (I:=λi:Nat=>i<=a.length/\a.take i=b.take i) (inv:=λi=>gp [(0,.rslc 1 (txz a) none),(0,.rslc 1 (txz b) none),(10,.int .i64 (a.length:Int)),(0,.int .i64 (i:Int))] 12) (hp:=λ_=>[]) (μ:=λi=>a.length-i) 0 ⟨om,sM⟩ ?_ rfl ?_
  ·simp[forget,gp]
  ·rintro i ⟨hi,Aa⟩;by_cases Ab:i<a.length
   ·have d1:=dtT i a.length;have IB:=Jbf Ab;have UZ:=Jbf (l:=b) (i:=i) om;have iF:=takeT Ab;have iE:=takeT (l:=b) (i:=i) om;simp only[go_sem,d1];refine J3 Jr vk ?_;simp only[go_sem,Ao,Be,IB,UZ,tyT_eq];refine⟨om,om,?_⟩;by_cases he:a.getD i .int=b.getD i .int
    ·have e2:(a.getD i .int == b.getD i .int)=true:=by rw[he];simp
     simp only[go_sem,e2];refine⟨Ji,i+1,⟨om,by rw[iF,iE,Aa,he]⟩,om,?_⟩;simp[forget]
    ·have e2:(a.getD i .int == b.getD i .int)=false:=by simpa using he
     have Ag:(a == b)=false:=by rw[beq_eq_false_iff_ne];rintro rfl;exact he rfl
     simp only[go_sem,e2,Ag]
   ·have d1:=dfF i a.length;have he:(a == b)=true:=by rw[beq_iff_eq];rw[Gz om,Gz om]at Aa;exact Aa
    simp only[go_sem,d1,he]
 ·have e1:((a.length:Int) != (b.length:Int))=true:=by simp;omega
  have he:(a == b)=false:=by rw[beq_eq_false_iff_ne];rintro rfl;exact hl rfl
  simp only[c142,go_sem,txV,Ao,Be,e1,he]
theorem cloneTx(hl:l.length<=100000):Fn Ga 32 [txV l] (txV l):=by
 cases l with
 |nil=>
  refine YW ?_ rfl rfl;refine J8 c32_ok λN=>?_
  simp only[c32,go_sem,txV,txz,Gj];refine ok_eqnil rfl λb=>?_
  cases b with
  |true=>simp only[go_sem];exact .inl wk.nils
  |false=>simp only[go_sem];exact .inr ⟨0,1,[],rfl,rfl,by simp[frz];exact wk.refl _⟩
 |cons x xs=>refine(JeF (J8 c32_ok λN=>?_) rfl (Qc (x::xs))).fn rfl (Qc _);have Ad:(txz xs).length=xs.length:=XR;simp only[Gc]at hl;simp only[c32,go_sem,txV,txz,Gd,Jw];refine⟨by simp;omega,1,by rw[Yk],rfl⟩
theorem indexTx(l:TL)(q:TyX->Bool)(hF:Jg Ga f=some F)(hq:∀p∈l,Fn Ga f [S (tyT p)] (.bool (q p)))(Ad:l.length<=100000):Fn Ga 148 [txV l,.fn f [] []] (.int .i64 (X8 q l 0)):=by
 have Aj:(txz l).length=l.length:=XR;refine Jc c148_ok rfl rfl λN=>?_
 simp only[c148,go_sem,txV,Aj];refine JO (I:=λi:Nat=>i<=l.length/\X8 q l 0=X8 q (l.drop i) i) (inv:=λi=>gp [(0,.rslc 1 (txz l) none),(0,.fn f [] []),(5,.int .i64 l.length),(0,.int .i64 i)] 10) (hp:=λ_=>[]) (μ:=λi=>l.length-i) 0 ⟨om,rfl⟩ ?_ rfl ?_
 ·simp[forget,gp]
 ·rintro i ⟨hi,Aa⟩;by_cases Ab:i<l.length
  ·have d1:=dtT i l.length;have AA:=Jbf Ab;have Cn:l[i]? = some (l.getD i .int):=by rw[Gb,Gh Ab];rfl
   have hm:l.getD i .int∈l:=List.mem_of_getElem? Cn;rw[Xx Cn]at Aa;simp only[go_sem,Aj,d1,AA];refine anO ?_;refine vr_fv (.inl rfl) rfl hF nm (hq _ hm) ?_
   cases hb:q (l.getD i .int) with
   |true=>rw[hb,if_pos rfl]at Aa;simp only[go_sem,Aa]
   |false=>rw[hb]at Aa;simp only[go_sem];refine⟨Ji,i+1,⟨om,by simpa using Aa⟩,om,?_⟩;simp[forget]
  ·have d1:=dfF i l.length;rw[HV om]at Aa;simp only[go_sem,d1,Aa,X8]
theorem containsTx(l:TL)(q:TyX->Bool)(hF:Jg Ga f=some F)(hq:∀p∈l,Fn Ga f [S (tyT p)] (.bool (q p)))(Ad:l.length<=100000):Fn Ga 91 [txV l,.fn f [] []] (.bool (l.any q)):=by
 refine Jc c91_ok rfl rfl λN=>?_
 simp only[c91,go_sem];refine Kk (indexTx l q hF hq Ad) ?_;simp only[go_sem,JaZ]
theorem cutPrefix0 (l p:Lv):Fn Ga 127 [S l,S p] (if l.take p.length=p then .tup [S (l.drop p.length),.bool true] else .tup [S l,.bool false]):=by
 refine Jc c127_ok rfl (by split <;> rfl) λN=>?_
 simp +contextual only[c127,go_sem];refine Kk (Jg3 _ _) ?_;simp +contextual only[go_sem];refine⟨λh=>?_,λh=>?_⟩
 ·simp at h;rw[if_neg h]
 ·simp at h;have hl:=congrArg Lh h;simp at hl;rw[if_pos h,H8];exact⟨om,rfl⟩
theorem cutPrefix (l p:Lv):Fn Ga 80 [S l,S p] (if l.take p.length=p then .tup [S (l.drop p.length),.bool true] else .tup [S l,.bool false]):=by
 refine Jc c80_ok rfl (by split <;> rfl) λN=>?_
 simp +contextual only[c80,go_sem];refine Kk (cutPrefix0 _ _) ?_;by_cases h:l.take p.length=p
 ·simp +contextual only[go_sem,if_pos h]
 ·simp +contextual only[go_sem,if_neg h]
def wStr:Lv:=[115,116,114,101,97,109]
def wArr:Lv:=[91,93]
def innX:Option TyX->CV
 |some (.arr b)=>.tup [S wArr,S (tyT b),.bool true]
 |some (.str b)=>.tup [S wStr,S (tyT b),.bool true]
 |_=>.tup [S [],S [],.bool false]
theorem innX_closed:∀a,(innX a).closed=true
 |none=>rfl
 |some .int=>rfl
 |some .bool=>rfl
 |some (.arr _)=>rfl
 |some (.str _)=>rfl
theorem opT_str:(opT a).take 7=Ya↔∃b,a=some (.str b):=by
 constructor
 ·intro h;rcases a with _|a|a|a|a
  ·simp[opT,Ya]at h
  ·simp[opT,tyT,Ya]at h
  ·simp[opT,tyT,Ya]at h
  ·simp[opT,tyT,Ya]at h
  ·exact⟨a,rfl⟩
 ·rintro⟨b,rfl⟩;simp[opT,tyT,Ya]
theorem arr_facts {b:TyX}:∃l,tyT (.arr b)=l/\l.length=(tyT b).length+2/\l.getD 0 0=91/\l.getD (l.length-1) 0=93/\(l.take (l.length-1)).drop 1=tyT b:=by
 refine⟨_,rfl,by simp[tyT],rfl,?_,?_⟩
 ·simp[tyT]
 ·simp[tyT]
theorem tyP_len:∀a:TyX,tyP a<=(tyT a).length+1
 |.int=>by simp[tyT,tyP]
 |.bool=>by simp[tyT,tyP]
 |.arr a=>by have:=tyP_len a;simp[tyT,tyP];omega
 |.str a=>by have:=tyP_len a;simp[tyT,tyP,Ya];omega
theorem Jer (a:Option TyX)(hl:(opT a).length<=100000):Fn Ga 50 [S (opT a)] (innX a):=by
 refine Jc c50_ok rfl (innX_closed a) λN=>?_
 simp only[c50,go_sem];refine Kk (cutPrefix (opT a) Ya) ?_;by_cases h:∃b,a=some (.str b)
 ·obtain⟨b,rfl⟩:=h;have h7:(opT (some (.str b))).take Ya.length=Ya:=opT_str.2 ⟨b,rfl⟩;have hd:(opT (some (.str b))).drop Ya.length=tyT b:=by simp[opT,tyT,Ya]
  rw[if_pos h7,hd];simp only[go_sem,innX];rfl
 ·have h7:¬(opT a).take Ya.length=Ya:=λe=>h (opT_str.1 e)
  rw[if_neg h7];rcases a with _|a|a|b|b
  ·simp only[go_sem,opT,innX,Gf]
  ·simp only[go_sem,opT,tyT,innX,Gc,Gf,show ((1:Int)<((0+1+1+1:Nat):Int))=True from KQ,Gu,show ((((105:UInt8).toNat:Nat):Int) == 91)=false from rfl];decide
  ·simp only[go_sem,opT,tyT,innX,Gc,Gf,show ((1:Int)<((0+1+1+1+1:Nat):Int))=True from KQ,Gu,show ((((98:UInt8).toNat:Nat):Int) == 91)=false from rfl];decide
  ·obtain⟨l,e,h1,h2,h3,h4⟩:=arr_facts (b:=b);simp only[opT,e]at hl|-;have d1:((1:Int)<(l.length:Int))=True:=KQ;simp only[go_sem,d1,h2,h3,innX,show ((((91:UInt8).toNat:Nat):Int) == 91)=true from rfl,show ((((93:UInt8).toNat:Nat):Int) == 93)=true from rfl];refine⟨om,Ji,⟨om,om⟩,?_⟩;refine J3 Jr vk ?_;simp only[go_sem,h4];exact⟨Ji,om,rfl⟩
  ·exact absurd ⟨b,rfl⟩ h
theorem Jhu (a:TyX)(hl:(tyT a).length<=100000):Fn Ga 49 [S (tyT a)] (.int .i64 (tyP a:Int)):=by
 have hp:tyP a<=100001:=by have:=tyP_len a;omega
 refine Jc c49_ok rfl rfl λN=>?_
 simp only[c49,go_sem];refine JO (I:=λs:Nat×TyX=>s.1+tyP s.2=tyP a+1/\(tyT s.2).length<=100000) (inv:=λs=>gp [(0,S (tyT s.2)),(2,.int .i64 (s.1:Int))] 21) (hp:=λ_=>[]) (μ:=λs=>tyP s.2) (1,a) ⟨by simp only;omega,hl⟩ ?_ rfl ?_
 ·simp[forget,gp]
 ·rintro⟨m,r⟩ ⟨h1,h2⟩
  dsimp only at h1 h2
  simp only[go_sem];refine Kk (Jer (some r) h2) ?_;rcases r with _|_|b|b
  ·simp only[tyP]at h1;obtain rfl:m=tyP a:=om
   simp only[go_sem,innX,tyT]
  ·simp only[tyP]at h1;obtain rfl:m=tyP a:=om
   simp only[go_sem,innX,tyT,show (([98,111,111,108]:Lv) == [105,110,116])=false from vk,beq_self_eq_true]
  all_goals
   simp only[tyP]at h1;have h3:(tyT b).length<=100000:=by simp only[tyT,Ya,Gc,HZ,Gf]at h2;omega
   simp only[go_sem,innX];refine⟨Ji,(m+1,b),⟨by simp only;omega,h3⟩,by simp only[tyP];omega,?_⟩;simp[forget]
theorem typGreat1 (a:TyX)(hl:(tyT a).length<=100000):Fn Ga 92 [S (tyT a)] (.bool (decide (20<tyP a))):=by
 refine Jc c92_ok rfl rfl λN=>?_
 simp only[c92,go_sem];refine Kk (Jhu a hl) ?_;simp only[go_sem]
 congr 1
 exact decide_eq_decide.2 om
theorem typGreat (l:TL)(hn:l.length<=100000)(hl:∀a∈l,(tyT a).length<=100000):Fn Ga 54 [txV l] (.bool (!Yq l)):=by
 have he:l.any (λa=>decide (20<tyP a)) = !Yq l:=by
  unfold Yq;rw[Hq,List.any_eq_true,Bool.not_eq_true',<-Bool.not_eq_true,Hd];simp only[decide_eq_true_eq]
  constructor
  ·rintro⟨x,h1,h2⟩ h;have:=h x h1;omega
  ·intro h;refine Classical.byContradiction λhn=>h λx hx=>?_
   refine Classical.byContradiction λh2=>hn ⟨x,hx,om⟩
 refine Jc c54_ok rfl rfl λN=>?_
 simp only[c54,go_sem,txV];refine Kk (containsTx l _ c92_ok (λp hp=>typGreat1 p (hl p hp)) hn) ?_;simp only[go_sem,he]
theorem JeU (l:Lv)(hl:l.length<=100000):Fn Ga 43 [S l] (S (Ya++l)):=by
 refine Jc c43_ok rfl rfl λN=>?_
 simp only[c43,go_sem];exact⟨om,rfl⟩
theorem typArray (l:Lv)(hl:l.length<=100000):Fn Ga 115 [S l] (S (91::(l++[93]))):=by
 refine Jc c115_ok rfl rfl λN=>?_
 simp only[c115,go_sem];exact⟨om,om⟩
section
variable{N:Fr}{T:Ls}{k:LJ}{Z':FS}
theorem KH{ags:LK}{l:LB}{args:Ls}(hM:FMe P f args K Z Z' res)(hg:GOk T ge)(ha:ags.map (Ke T)=.ptr 0 0 0::args)(hH:H=hpF K Z X)(hc:Jp args=true)(hr:res.closed=true)(h:KA P E n0 N Q (.ops l::k) (put T d res) (hpF K Z' X)):Ok P E n0 N Q (.ops (⟨d,.call f ags,ge⟩::l)::k) T H:=by subst hH;refine Ky hg (by rw[ha];exact hM.on hc hr) ?_;rintro v H' ⟨rfl,rfl⟩;exact h
theorem Jdr(id:Nat)(hH:H=hpF K Z X)(hX:X[id]? = some (.arr z els))(hc:Jq els=true)(h:KA P E n0 N Q k (JV (id+5) z els T) (hpF K Z ((X.map (Qj (id+5) z els)).set id .dead))):Ok P E n0 N Q k T H:=by subst hH;refine Je (id:=id+5) (z:=z) (els:=els) hX hc ?_;rw[frz_hp];exact h
end
theorem Fnl.same:Fnl 5 v (hpF K Z []) v (hpF K Z []):=.done (wk.refl _)
theorem fmOne(hi:i<K.t.nodes.length)(hl:Z.got.length=K.t.nodes.length):FMe Ga 147 [.int .i64 (i:Int)] K Z Z (.tup [S (opT (QH (JE Z.got i))),.bool (QH (JE Z.got i)).isSome]):=by
 have hg:=Xw (l:=Z.got) (i:=i) om;have A7:(gz Z.got).length=K.t.nodes.length:=by rw[Yp,hl]
 refine Kc (J8 c147_ok λN=>?_);generalize JE Z.got i=l at *;rcases l with _|⟨a,_|⟨b,l⟩⟩
 ·simp only[c147,go_sem,hpF,fRow,hg,A7,txV,txz,Gj,Gf];exact⟨⟨om,om⟩,om,.done (wk.refl _)⟩
 ·have d1:(((1:Nat):Int) != 1)=false:=rfl;simp only[c147,go_sem,hpF,fRow,hg,A7,txV,txz,Gj,Gd,Gc,Gf,d1];exact⟨⟨om,om⟩,om,om,.done (wk.refl _)⟩
 ·have d1:(((l.length+1+1:Nat):Int) != 1)=true:=by simp;omega
  simp only[c147,go_sem,hpF,fRow,hg,A7,txV,txz,Gd,Gc,Gf,Lc,d1];exact⟨⟨om,om⟩,om,.done (wk.refl _)⟩
theorem fmBare(hi:i<K.t.nodes.length):FMe Ga 146 [.int .i64 (i:Int)] K Z Z (.bool (nd K.t i).kids.isEmpty):=by have hg:=J7 hi;have Aw:(iz (nd K.t i).kids).length=(nd K.t i).kids.length:=Jf;refine Kc (J8 c146_ok λN=>?_);simp only[c146,go_sem,hpF,fRow,Jb,hg,Nd.cv,Aw];refine anO ?_;rw[show ((((nd K.t i).kids.length:Nat):Int) == 0)=(nd K.t i).kids.isEmpty by cases (nd K.t i).kids <;> simp;omega];exact .done (wk.refl _)
section
variable(g:GoodT K.t o)(ht:K.t.Fit)
include g ht
theorem fmExpr {s:Nat}(hs:s<K.t.nodes.length)(hk:(nd K.t s).k=41):FMe Ga 184 [.int .i64 (s:Int)] K Z Z (.int .i64 (Jh K.t s:Int)):=by
 have hg:=J7 hs;obtain⟨b1,_,_,b4⟩:=Kr g hs hk;have hn:=(JfK ht hs).n;obtain⟨a,hN,Ad,_,_⟩:=Y8 g hs hk;change (nd K.t s).n=a at hN;change (nd K.t s).kids.length=a+1 at Ad;have Aw:(iz (nd K.t s).kids).length=a+1:=by rw[Jf];exact Ad
 have A7:=lastz g hs om;rw[show (nd K.t s).kids.length-1=a by omega]at A7;refine Kc (J8 c184_ok λN=>?_);simp only[c184,go_sem,hpF,fRow];refine KL [0,0,0,0,1,0,0,0,0,0,0,0,0,1,0,0,0,0,0,0,0] Jr vM ?_;simp only[go_sem,Jb,hg,Nd.cv,Aw,hN,A7]
 repeat refine anO ?_
 exact .done (wk.refl _)
omit ht in
theorem XY:∀i,i<K.t.nodes.length->60<=(nd K.t i).k->(nd K.t i).k<=63->FMe Ga 66 [.int .i64 (i:Int)] K Z Z (S (tyT (tyN K.t i))):=by
 intro i
 induction i using Ll with
 |_ i ih=>
  intro hi h1 h2;have Ah:=g.many;have hg:=J7 hi;rw[tyN_eq g hi h1 h2];refine Kc (J8 c66_ok λN=>?_);by_cases UD:(nd K.t i).k=60
  ·rw[if_pos UD];simp only[c66,go_sem,hpF,fRow,Jb,hg,Nd.cv,UD,Gm,beq_self_eq_true]
   repeat refine anO ?_
   exact .out (wk.refl _) rfl
  ·by_cases Z0:(nd K.t i).k=61
   ·rw[if_neg UD,if_pos Z0];simp only[c66,go_sem,hpF,fRow,Jb,hg,Nd.cv,Z0,Gm,beq_self_eq_true,show ((61:Int) == 60)=false from rfl]
    repeat refine anO ?_
    exact .out (wk.refl _) rfl
   ·obtain⟨q1,q2,q3,q4⟩:=JbA g hi (.inr (.inl om));have hl:=Jc8 g hi (.inr (.inr (.inr om)));obtain⟨a,ha⟩:∃a,(nd K.t i).kids=[a]:=by
     match h:(nd K.t i).kids,hl with
     |[a],_=>exact⟨_,rfl⟩
    have hr:=g.kid hi (k:=a) (by change a∈(nd K.t i).kids;rw[ha];simp);obtain⟨a,rfl⟩:∃a':Nat,a=a':=⟨a.toNat,om⟩;have DN:JH K.t i 0=a:=by unfold JH;rw[ha];rfl
    rw[DN]at q2 q3 q4|-;have hW:=ih a q2 om q3 q4;have CP:=JeV (t:=K.t) (i:=a) om;have UV:iz (nd K.t i).kids=[[.int .i64 (a:Int)]]:=by rw[ha];rfl
    rcases (show (nd K.t i).k=62\/(nd K.t i).k=63 by omega) with hk|hk
    ·rw[if_neg UD,if_neg Z0,if_pos hk];simp only[c66,go_sem,hpF,fRow,Jb,hg,Nd.cv,hk,UV,Gm,beq_self_eq_true,show ((62:Int) == 60)=false from rfl,show ((62:Int) == 61)=false from rfl,Gc,Gf]
     repeat refine anO ?_
     refine KH hW (.inl rfl) rfl rfl rfl rfl ?_;simp only[go_sem];refine Kk (typArray _ om) ?_;simp only[go_sem];exact .out (wk.refl _) rfl
    ·rw[if_neg UD,if_neg Z0,iN7];simp only[c66,go_sem,hpF,fRow,Jb,hg,Nd.cv,hk,UV,Gm,show ((63:Int) == 60)=false from rfl,show ((63:Int) == 61)=false from rfl,show ((63:Int) == 62)=false from rfl,Gc,Gf]
     repeat refine anO ?_
     refine KH hW (.inl rfl) rfl rfl rfl rfl ?_;simp only[go_sem];refine Kk (JeU _ om) ?_;simp only[go_sem];exact .out (wk.refl _) rfl
end
def areQ (got:List TL)(w:Lv)(k:Int):Bool:=match QH (JE got k.toNat) with
 |none=>false
 |some a=>tyT a == w
theorem areB_eq:areB got w ks = !ks.any λk=>!areQ got w k:=by rw[List.not_any_eq_all_not];simp only[Bool.not_not];rfl
theorem fmAre1(hi:i<K.t.nodes.length)(hl:Z.got.length=K.t.nodes.length):Pure Ga E 181 [.int .i64 (i:Int),.ptr 5 0 0,.ptr 6 0 0] (hpF K Z (.arr 1 [[.ptr 0 0 0]] :: .arr 1 [[S w]]::X)) (.bool (!areQ Z.got w (i:Int))):=by
 have hO:=fmOne hi hl;refine J8 c181_ok λN=>?_
 unfold areQ;rw[Gi];simp only[c181,go_sem,hpF];refine KH hO (.inl rfl) rfl rfl rfl rfl ?_
 cases QH (JE Z.got i) with
 |none=>simp only[go_sem,opT,GZ,hpF]
 |some a=>simp only[go_sem,opT,GY,hpF]
theorem fmAre(hl:Z.got.length=K.t.nodes.length)(hk:∀k∈ks,0<=k/\k<K.t.nodes.length)(hn:ks.length<=1000):FMe Ga 139 [S w,.rslc 1 (iz ks) none] K Z Z (.bool (areB Z.got w ks)):=by
 have hC:∀X,Pure Ga Env.none 44 [.rslc 1 (iz ks) none,.fn 181 [] [.ptr 5 0 0,.ptr 6 0 0]] (hpF K Z (.arr 1 [[.ptr 0 0 0]] :: .arr 1 [[S w]]::X)) (.bool (ks.any λk=>!areQ Z.got w k)):=λX=>
  containsFP ks _ c181_ok (λp hp=>by obtain⟨i,rfl⟩:∃i:Nat,p=i:=⟨p.toNat,by have:=(hk p hp).1;omega⟩;exact fmAre1 (by have:=(hk _ hp).2;omega) hl) om
 refine Kc (J8 c139_ok λN=>?_);rw[areB_eq];simp only[c139,go_sem,hpF];refine vr_pc (.inl rfl) (hC []) ?_;simp only[go_sem];exact .out (wk.refl _) rfl
theorem Jg9(hi:i<K.t.nodes.length)(hl:Z.got.length=K.t.nodes.length)(hf:Yq (JE Z.got i)=true):FMe Ga 138 [.int .i64 (i:Int)] K Z Z (.tup [S (opT (prt (QH (JE Z.got i)))),.bool (isStr (QH (JE Z.got i)))]):=by
 have hO:=fmOne hi hl;have hI:=Jer (QH (JE Z.got i)) (by have:=Jfk hf;omega);refine Kc (J8 c138_ok λN=>?_);simp only[c138,go_sem,hpF];refine KH hO (.inl rfl) rfl rfl rfl rfl ?_;simp only[go_sem];refine Kk hI ?_;rcases QH (JE Z.got i) with _|_|_|b|b
 all_goals
  simp only[go_sem,innX,prt,opT,isStr,GZ,GY,wStr,wArr,beq_self_eq_true,show (([]:Lv) == [115,116,114,101,97,109])=false from rfl,show (([91,93]:Lv) == [115,116,114,101,97,109])=false from rfl];exact .out (wk.refl _) rfl
theorem fmArrayed(hi:i<K.t.nodes.length)(hl:Z.got.length=K.t.nodes.length)(hf:Yq (JE Z.got i)=true):FMe Ga 140 [.int .i64 (i:Int)] K Z Z (.tup [S (opT (prt (QH (JE Z.got i)))),.bool (JdN (QH (JE Z.got i)))]):=by
 have hO:=fmOne hi hl;have hI:=Jer (QH (JE Z.got i)) (by have:=Jfk hf;omega);refine Kc (J8 c140_ok λN=>?_);simp only[c140,go_sem,hpF];refine KH hO (.inl rfl) rfl rfl rfl rfl ?_;simp only[go_sem];refine Kk hI ?_;rcases QH (JE Z.got i) with _|_|_|b|b
 all_goals
  simp only[go_sem,innX,prt,opT,JdN,GZ,GY,wStr,wArr,beq_self_eq_true,show (([]:Lv) == [91,93])=false from rfl,show (([115,116,114,101,97,109]:Lv) == [91,93])=false from rfl];exact .out (wk.refl _) rfl
section
variable {k:Nat}{K:Nat->TL}{ty:TyX}
theorem rk_cons:J9 4 ks n K L ty sp sr si gm=if (isStr (QH (K 1)) && K 0 == [(prt (QH (K 1))).getD .int])=true then some [.str ((prt (QH (K 1))).getD .int)] else none:=by
 rcases h:K 1 with _|⟨a,_|⟨b,l⟩⟩
 ·simp[J9,h,QH,isStr]
 ·cases a <;> simp[J9,h,QH,isStr,prt]
 ·simp[J9,h,QH,isStr]
theorem rk_or (hk:k=5\/k=6):J9 k ks n K L ty sp sr si gm=if (K 0 == [.bool] && K 1 == [.bool])=true then some [.bool] else none:=by rcases hk with rfl|rfl <;> simp[J9]
theorem rk_eq (hk:k=7\/k=8):J9 k ks n K L ty sp sr si gm=if (K 0 == [.int] && K 1 == [.int] || K 0 == [.bool] && K 1 == [.bool])=true then some [.bool] else none:=by rcases hk with rfl|rfl <;> simp[J9]
theorem rk_lt (hk:9<=k/\k<=12):J9 k ks n K L ty sp sr si gm=if (K 0 == [.int] && K 1 == [.int])=true then some [.bool] else none:=by rcases (show k=9\/k=10\/k=11\/k=12 by omega) with rfl|rfl|rfl|rfl <;> simp[J9]
theorem rk_add (hk:13<=k/\k<=17):J9 k ks n K L ty sp sr si gm=if (K 0 == [.int] && K 1 == [.int])=true then some [.int] else none:=by rcases (show k=13\/k=14\/k=15\/k=16\/k=17 by omega) with rfl|rfl|rfl|rfl|rfl <;> simp[J9]
theorem rk_read:J9 18 ks n K L ty sp sr si gm=if (JdN (QH (K 0)) && K 1 == [.int])=true then some [(prt (QH (K 0))).getD .int] else none:=by
 rcases h:K 0 with _|⟨a,_|⟨b,l⟩⟩
 ·simp[J9,h,QH,JdN]
 ·cases a <;> simp[J9,h,QH,JdN,prt]
 ·simp[J9,h,QH,JdN]
theorem rk_not:J9 19 ks n K L ty sp sr si gm=if (K 0 == [.bool])=true then some [.bool] else none:=by simp[J9]
theorem rk_neg:J9 20 ks n K L ty sp sr si gm=if (K 0 == [.int])=true then some [.int] else none:=by simp[J9]
theorem rk_head:J9 21 ks n K L ty sp sr si gm=if isStr (QH (K 0))=true then some [(prt (QH (K 0))).getD .int] else none:=by
 rcases h:K 0 with _|⟨a,_|⟨b,l⟩⟩
 ·simp[J9,h,QH,isStr]
 ·cases a <;> simp[J9,h,QH,isStr,prt]
 ·simp[J9,h,QH,isStr]
theorem rk_tail:J9 22 ks n K L ty sp sr si gm=if isStr (QH (K 0))=true then some (K 0) else none:=by
 rcases h:K 0 with _|⟨a,_|⟨b,l⟩⟩
 ·simp[J9,h,QH,isStr]
 ·cases a <;> simp[J9,h,QH,isStr]
 ·simp[J9,h,QH,isStr]
theorem JhP:J9 23 ks n K L ty sp sr si gm=if isStr (QH (K 0))=true then some [.bool] else none:=by
 rcases h:K 0 with _|⟨a,_|⟨b,l⟩⟩
 ·simp[J9,h,QH,isStr]
 ·cases a <;> simp[J9,h,QH,isStr]
 ·simp[J9,h,QH,isStr]
theorem rk_size:J9 24 ks n K L ty sp sr si gm=if JdN (QH (K 0))=true then some [.int] else none:=by
 rcases h:K 0 with _|⟨a,_|⟨b,l⟩⟩
 ·simp[J9,h,QH,JdN]
 ·cases a <;> simp[J9,h,QH,JdN]
 ·simp[J9,h,QH,JdN]
theorem rk_nil:J9 25 ks n K L ty sp sr si gm=some [.str ty]:=rfl
theorem rk_call:J9 26 ks n K L ty sp sr si gm=if ks.length=sp.length/\∀j,j<ks.length->K j=[sp.getD j .int] then some sr else none:=rfl
theorem rk_if:J9 27 ks n K L ty sp sr si gm=if (K 0 == [.bool] && K 1 == K 2)=true then some (K 1) else none:=by simp[J9]
theorem rk_loop:J9 28 ks n K L ty sp sr si gm=if (K n == [.bool])=true then some (K (ks.length-1)) else none:=by simp[J9]
theorem JhR:J9 29 ks n K L ty sp sr si gm=if (QH (L 1)).isSome=true/\((Gg (ks.length-1)).all λj=>L (j+1) == [(QH (L 1)).getD .int])=true/\K 0=[.int] then some [.arr ((QH (L 1)).getD .int)] else none:=by
 rcases h:L 1 with _|⟨a,_|⟨b,l⟩⟩
 ·simp[J9,h,QH]
 ·simp[J9,h,QH]
 ·simp[J9,h,QH]
theorem rk_block:J9 40 ks n K L ty sp sr si gm=YV ((Gg (ks.length-n)).map λj=>K (n+j)):=rfl
theorem rk_give:J9 45 ks n K L ty sp sr si gm=YV ((Gg ks.length).map K):=rfl
theorem JhQ:J9 42 ks n K L ty sp sr si gm=if ks=[] then some [] else some [ty]:=rfl
theorem rk_param:J9 64 ks n K L ty sp sr si gm=some [ty]:=rfl
theorem rk_init:J9 43 ks n K L ty sp sr si gm=if (QH (K 0)).isSome=true then some [(QH (K 0)).getD .int] else none:=by rcases h:K 0 with _|⟨a,_|⟨b,l⟩⟩ <;> simp[J9,h,QH]
theorem rk_next:J9 44 ks n K L ty sp sr si gm=if ((QH gm).isSome && K 0 == [(QH gm).getD .int])=true then some [] else none:=by rcases gm with _|⟨a,_|⟨b,l⟩⟩ <;> simp[J9,QH]
theorem rk_def:J9 65 ks n K L ty sp sr si gm=if (K (ks.length-1) == si)=true then some [] else none:=by simp[J9]
theorem rk_else (hk:29<k)(h:k≠40/\k≠45/\k≠42/\k≠64/\k≠43/\k≠44/\k≠47/\k≠65):J9 k ks n K L ty sp sr si gm=some []:=by
 obtain⟨h1,h2,h3,h4,h5,h6,h7,h8⟩:=h;unfold J9
 repeat rw[iN7]
end
def upZ (t:Tr)(i:Nat):Lu:=(upTo t i).map λx=>if x<0 then 0 else x
def fiZ (t:Tr)(o:Lu)(i:Nat):Lu:=(Gg t.nodes.length).map λ(j:Nat)=>if j<i then fs o (j:Int) else 0
def fiS (o:Lu)(i:Nat)(ks:Lu)(s:Nat):Int:=if s=0 then i else fs o (ks.reverse.getD (s-1) 0)
theorem Jdu:(upZ t i).length=t.nodes.length:=by simp[upZ,Y7]
theorem JbD:(fiZ t o i).length=t.nodes.length:=by simp[fiZ]
theorem fiZ_get{j:Nat}(h:j<i)(hj:j<t.nodes.length):(fiZ t o i).getD j 0=fs o (j:Int):=by simp[fiZ,Gb,hj,h]
theorem fiZ_zero:fiZ t o 0=Hg t.nodes.length 0:=by
 refine La (by simp[fiZ]) λj h1 h2=>?_
 simp[fiZ]
section
variable(g:GoodT t o)
include g
theorem upZ_zero:upZ t 0=Hg t.nodes.length 0:=by unfold upZ;rw[upTo_zero g,List.map_replicate];rfl
theorem upZ_succ(hi:i<t.nodes.length):upZ t (i+1)=XK i (upZ t i) (nd t i).kids.reverse:=by
 refine H7 λj=>?_
 have hk:∀k∈(nd t i).kids,0<=k:=λk hk=>(g.kid hi hk).1
 rw[JbU _ _ _ λk h=>hk k (by simpa using h),Jdu];unfold upZ;rw[upTo_succ g hi,GD,JbU _ _ _ hk,Y7,GD];simp only[List.mem_reverse]
 split
 ·simp;omega
 ·rfl
theorem up_kid(hi:i<t.nodes.length){k:Nat}(hk:(k:Int)∈(nd t i).kids):(upZ t t.nodes.length).getD k 0=i:=by have h1:=JC g hi hk;unfold upZ;rw[upTo_all g,upT,GK,Gb,GD,Gt om];simp only[Hw,GH,Function.comp,h1.1];rw[iN7]
theorem fs_kid(hi:i<t.nodes.length):fs o (i:Int)=fiS o i (nd t i).kids (nd t i).kids.length:=by
 have hc:=g.ord.kids (JK hi);change chain o o.length (fs o i) (nd t i).kids i at hc;unfold fiS;generalize (nd t i).kids=ks at hc
 cases ks with
 |nil=>exact hc
 |cons k l=>obtain⟨⟨_,_,h⟩,_⟩:=hc;rw[if_neg sM,Gc,Nat.add_sub_cancel,List.reverse_cons,Gb,GM sM];simp only[List.length_reverse,Lp,Hz,GH];exact h.symm
theorem fiZ_succ(hi:i<t.nodes.length):(fiZ t o i).set i (fiS o i (nd t i).kids (nd t i).kids.length)=fiZ t o (i+1):=by
 rw[<-fs_kid g hi];refine La (by simp[fiZ]) λj h1 h2=>?_
 rw[G9];simp only[fiZ,List.getElem_map,G8];by_cases h:i=j
 ·subst h;rw[if_pos rfl,iP7]
 ·rw[if_neg h];by_cases h3:j<i
  ·rw[if_pos h3,iP7]
  ·rw[if_neg h3,iN7]
end
theorem Yz{a:TyX}:txz (l++[a])=txz l++[[S (tyT a)]]:=by simp[txz]
theorem txz_nil:txz []=[]:=rfl
def ndA (x:Nd)(n:Int):Ls:=[.int .u8 (x.k:Int),S x.text,.int .i64 n,.rslc 1 (iz x.kids) none,.int .i64 x.pl]
theorem JeX {l:Lu}{a:Nat}:(iz l).take a=iz (l.take a):=by simp[iz]
theorem drop_iz {l:Lu}{a:Nat}:(iz l).drop a=iz (l.drop a):=by simp[iz]
theorem KF(g:GoodT t o){j:Nat}(hi:i<t.nodes.length)(hj:j<(nd t i).kids.length):(nd t i).kids.getD j 0=(JH t i j:Int):=by
 have hx:(nd t i).kids.getD j 0∈(nd t i).kids:=by
  have:(nd t i).kids.getD j 0=(nd t i).kids[j]:=by rw[Gb,Gh hj];rfl
  rw[this];exact GG hj
 have:=g.kid hi hx;have e:JH t i j=((nd t i).kids.getD j 0).toNat:=rfl;omega
theorem JgW(g:GoodT t o)(hi:i<t.nodes.length)(hl:(nd t i).kids.length=1):(nd t i).kids=[(JH t i 0:Int)]:=by
 rw[<-KF g hi om]
 match h:(nd t i).kids,hl with
 |[e],_=>rfl
section
theorem Qt{Y:Lt}(h:(ρ.map λid=>Yd (0::1::2::3::4::ρ) ((hpF K Z X).getD id .dead))=Y):Ko (0::1::2::3::4::ρ) (hpF K Z X)=hpF K Z Y:=by rw[ren_hp,h]
theorem JcL:List.take l.length (l.map λa=>[S (tyT a)])=l.map λa=>[S (tyT a)]:=Gz sM
theorem fnl_two{m:TL}{o:CObj}:Fnl 5 (.tup [txV l,txV m]) (hpF K Z []) (.tup [JW 6 (txz l),JW 7 (txz m)]) (hpF K Z [o,KT 1 (txz l),KT 1 (txz m)]):=by
 rcases l with _|⟨x,l⟩ <;> rcases m with _|⟨y,m⟩
 ·exact .out (YN ⟨wk.nils,wk.nils,trivial⟩) rfl
 ·refine .one 2 rfl (Qc (y::m)) ?_ ?_
  ·simp[frz,JV,JW,txz,CV.closed,Jp]
  ·simp[frz,JV,JW,txz,txV,JcL];exact YN ⟨wk.nils,wks.refl _⟩
 ·refine .one 1 rfl (Qc (x::l)) ?_ ?_
  ·simp[frz,JV,JW,txz,CV.closed,Jp]
  ·simp[frz,JV,JW,txz,txV,JcL];exact YN ⟨wk.refl _,wk.nils,trivial⟩
 ·refine .more 1 rfl (Qc (x::l)) ?_;have e:((txz (y::m)).map (JV (1+5) 1 (txz (x::l))))=txz (y::m):=Jy (Qc _);refine .one 2 (by simp only[Gd,Gj,GA,Gv];exact congrArg (λq=>some (CObj.arr 1 q)) e) (Qc (y::m)) ?_ ?_
  ·simp[frz,JV,JW,txz,CV.closed,Jp]
  ·simp[frz,JV,JW,txz,txV,JcL];exact wk.refl _
variable(g:GoodT K.t o)(ht:K.t.Fit)
include g ht
theorem fmSign {d:Nat}(hd:d<K.t.nodes.length)(hk:(nd K.t d).k=65):FMe Ga 45 [.int .i64 (d:Int)] K Z Z (.tup [txV (JaI K.t d),txV (Jaj K.t d)]):=by
 have Ah:=g.many;have hg:=J7 hd;have BL:=(JfK ht hd).kidn;obtain⟨a,a1,a2,a3,a4,a5⟩:=JeH g hd hk;change (nd K.t d).n=a at a1;change a<(nd K.t d).kids.length at a2;have Aw:(iz (nd K.t d).kids).length=(nd K.t d).kids.length:=Jf;have j4:(JaI K.t d).length=a:=by unfold JaI;simp[a1]
 have U7:(Jaj K.t d).length=(nd K.t d).kids.length-1-a:=by unfold Jaj;simp[a1]
 refine Kc (J8 c45_ok λN=>?_);simp only[c45,go_sem,hpF,fRow,Jb,hg,Nd.cv,a1]
 repeat refine And.intro (by first|omega|exact⟨om,om⟩|(simp;done)) ?_
 refine Jdr (K:=K) (Z:=Z) (X:=[.arr 5 [ndA (nd K.t d) a]]) 0 rfl rfl rfl ?_;simp only[go_sem,JV,frz,Gd,Gj,Qj,Gv,ndA,Gx,if_true,Gu,GI,List.drop_succ_cons];refine XJ ?_;simp only[go_sem,hpF,Ha,He,Nat.sub_zero,JeX];have j5:∀j,j<a->∃c:Nat,(nd K.t d).kids.getD j 0=c/\c<K.t.nodes.length/\(nd K.t c).k=64/\∃e:Nat,(nd K.t c).kids=[(e:Int)]/\e<K.t.nodes.length/\60<=(nd K.t e).k/\(nd K.t e).k<=63/\(JaI K.t d).getD j .int=tyN K.t e:=λj hj=>by
  have h1:=Jt g hd (i:=j) om;have BV:(nd K.t (JH K.t d j)).k=64:=by rw[h1.2.2];exact a3 j hj
  obtain⟨q1,q2,q3,q4⟩:=JbA g (i:=JH K.t d j) om (.inr (.inl ⟨om,om⟩));have hl:=Jc8 g (i:=JH K.t d j) om (.inr (.inr (.inr ⟨om,om⟩)));have hs:(JaI K.t d).getD j .int=tyN K.t (JH K.t (JH K.t d j) 0):=by unfold JaI;rw[a1,Gi,Gb,GD,Gt hj];rfl
  have hc:=KF g hd (j:=j) om;exact⟨JH K.t d j,hc,om,BV,JH K.t (JH K.t d j) 0,JgW g om hl,om,q3,q4,hs⟩
 have jZ:∀j,j<(nd K.t d).kids.length-1-a->∃c:Nat,(nd K.t d).kids.getD (a+j) 0=c/\c<K.t.nodes.length/\60<=(nd K.t c).k/\(nd K.t c).k<=63/\(Jaj K.t d).getD j .int=tyN K.t c:=λj hj=>by
  have h1:=Jt g hd (i:=a+j) om;have h6:=a4 (a+j) om (by change a+j+1<(nd K.t d).kids.length;omega);have e:(nd K.t (JH K.t d (a+j))).k=Jo K.t.nodes ((K.t.nodes.getD d default).kids.getD (a+j) 0):=h1.2.2;have hs:(Jaj K.t d).getD j .int=tyN K.t (JH K.t d (a+j)):=by unfold Jaj;rw[a1,Gi,Gb,GD,Gt hj];rfl
  have hc:=KF g hd (j:=a+j) om;exact⟨_,hc,om,om,om,hs⟩
 refine Js (I:=λj:Nat=>j<=a) (inv:=λj=>gp [(0,.ptr 0 0 0),(3,JW 6 (txz ((JaI K.t d).take j))),(0,.nils),(0,.rptr (ndA (nd K.t d) a)),(16,.rslc 1 (iz ((nd K.t d).kids.take a)) none),(0,.int .i64 (a:Int)),(0,.int .i64 (j:Int))] 43) (hp:=λj=>hpF K Z [.dead,KT 1 (txz ((JaI K.t d).take j))]) (μ:=λj=>a-j) 0 [0,1,2,3,4,5,6] om rfl ?_ ?_ ?_
 ·have Aj:(iz ((nd K.t d).kids.take a)).length=a:=by rw[Jf,Gw];omega
  simp[forget,JB,ren,Jm,gp,ndA,txz,JW,Aj]
 ·exact Qt (K:=K) (Z:=Z) (X:=[.dead,.dead]) rfl
 ·intro j hj;by_cases Ab:j<a
  ·have d1:=dtT j a;obtain⟨c,c1,c2,c3,e,c4,c5,c6,c7,c8⟩:=j5 j Ab;have BG:(iz ((nd K.t d).kids.take a)).getD j []=[.int .i64 (c:Int)]:=by rw[JL (by rw[Gw];omega),Gb,Hy Ab,<-Gb,c1]
   have Aj:(iz ((nd K.t d).kids.take a)).length=a:=by rw[Jf,Gw];omega
   have Dp:=J7 c2;have UV:iz (nd K.t c).kids=[[.int .i64 (e:Int)]]:=by rw[c4];rfl
   simp only[go_sem,hpF,fRow,d1,BG,Aj,Jb,Dp,Nd.cv,UV,Gc,Gf]
   repeat refine And.intro (by first|omega|exact⟨om,om⟩|(simp;done)) ?_
   refine KH (XY g e c5 c6 c7) (.inl rfl) rfl rfl rfl rfl ?_;simp only[go_sem,hpF];rw[<-c8];have Ay:(JaI K.t d).take (j+1)=(JaI K.t d).take j++[(JaI K.t d).getD j .int]:=takeT om;have CK:(txz ((JaI K.t d).take j)).length=j:=by rw[XR,Gw];omega
   refine⟨by rw[CK];unfold Jw;simp[Cond.holds];omega,Ji,j+1,[0,1,2,3,4,5,8],om,om,rfl,?_,?_⟩
   ·rw[Ay,Yz,Kn];exact Qt (K:=K) (Z:=Z) (X:=[.dead,.dead,.arr 1 [[S (tyT ((JaI K.t d).getD j .int))]],.arr 1 (txz ((JaI K.t d).take j)++[[S (tyT ((JaI K.t d).getD j .int))]])]) (by have:(txz ((JaI K.t d).take j)++[[S (tyT ((JaI K.t d).getD j .int))]]).map (JB [0,1,2,3,4,5,8])=_:=Ja (by rw[<-Yz];exact Qc _);simp only[Gd,Gj,hpF,GQ,Gu,Jk,Jj,this])
   ·rw[Ay,Yz,Km];simp[forget,JB,ren,Jm,ndA]
  ·have d1:=dfF j a;obtain rfl:j=a:=om
   rw[Gz (Hu j4)];simp only[go_sem,hpF,fRow,d1,ndA,Aw];refine⟨Ji,⟨om,om,om⟩,?_⟩;refine XJ ?_;simp only[go_sem,Ha,He,JeX,drop_iz];generalize hm:(nd K.t d).kids.length-1-j=m at *;have Aj:(iz (((nd K.t d).kids.drop j).take m)).length=m:=by rw[Jf,Gw,GU];omega
   refine Js (I:=λi:Nat=>i<=m) (inv:=λi=>gp [(0,.ptr 0 0 0),(3,JW 6 (txz (JaI K.t d))),(0,JW 7 (txz ((Jaj K.t d).take i))),(48,.rslc 1 (iz (((nd K.t d).kids.drop j).take m)) none),(0,.int .i64 (m:Int)),(0,.int .i64 (i:Int))] 12) (hp:=λi=>hpF K Z [.dead,KT 1 (txz (JaI K.t d)),KT 1 (txz ((Jaj K.t d).take i))]) (μ:=λi=>m-i) 0 [0,1,2,3,4,5,6,7] om rfl ?_ ?_ ?_
   ·have r6:ren [0,1,2,3,4,5,6,7] (JW 6 (txz (JaI K.t d)))=JW 6 (txz (JaI K.t d)):=JS rfl;simp only[GV,txz_nil,XA];simp[forget,JB,ren,Jm,gp,Aj,r6]
   ·have r6:Yd [0,1,2,3,4,5,6,7] (KT 1 (txz (JaI K.t d)))=KT 1 (txz (JaI K.t d)):=JG (Ja (Qc _));exact Qt (K:=K) (Z:=Z) (X:=[.dead,KT 1 (txz (JaI K.t d)),.dead]) (by simp only[Gd,Gj,hpF,GQ,Gu,Jk,r6];rfl)
   ·intro i hi;by_cases Ab:i<m
    ·have d2:=dtT i m;obtain⟨c,c1,c2,c3,c4,c5⟩:=jZ i Ab;have AA:(iz (((nd K.t d).kids.drop j).take m)).getD i []=[.int .i64 (c:Int)]:=by rw[JL (by rw[Gw,GU];omega),Gb,Hy Ab,H5,<-Gb,c1]
     simp only[go_sem,hpF,fRow,d2,AA,Aj]
     repeat refine And.intro (by first|omega|exact⟨om,om⟩|(simp;done)) ?_
     refine KH (XY g c c2 c3 c4) (.inl rfl) rfl rfl rfl rfl ?_;simp only[go_sem,hpF];rw[<-c5];have Ay:(Jaj K.t d).take (i+1)=(Jaj K.t d).take i++[(Jaj K.t d).getD i .int]:=takeT om;have CK:(txz ((Jaj K.t d).take i)).length=i:=by rw[XR,Gw];omega
     have r6:Yd [0,1,2,3,4,5,6,9] (KT 1 (txz (JaI K.t d)))=KT 1 (txz (JaI K.t d)):=JG (Ja (Qc _));have r7:ren [0,1,2,3,4,5,6,9] (JW 6 (txz (JaI K.t d)))=JW 6 (txz (JaI K.t d)):=JS rfl;refine⟨by rw[CK];unfold Jw;simp[Cond.holds];omega,Ji,i+1,[0,1,2,3,4,5,6,9],om,om,rfl,?_,?_⟩
     ·rw[Ay,Yz,Kn];exact Qt (K:=K) (Z:=Z) (X:=[.dead,KT 1 (txz (JaI K.t d)),.dead,.arr 1 [[S (tyT ((Jaj K.t d).getD i .int))]],.arr 1 (txz ((Jaj K.t d).take i)++[[S (tyT ((Jaj K.t d).getD i .int))]])]) (by have:(txz ((Jaj K.t d).take i)++[[S (tyT ((Jaj K.t d).getD i .int))]]).map (JB [0,1,2,3,4,5,6,9])=_:=Ja (by rw[<-Yz];exact Qc _);simp only[Gd,Gj,hpF,GQ,Gu,Jk,Jj,this,r6])
     ·rw[Ay,Yz,Km];simp[forget,JB,ren,Jm,r7]
    ·have d2:=dfF i m;obtain rfl:i=m:=om
     rw[Gz (Hu U7)];simp only[go_sem,hpF,fRow,d2];exact fnl_two
end
def gvn (got:List TL)(ks:Lu):Option TL:=YV (ks.map λk=>JE got k.toNat)
def hdT (got:List TL)(ks:Lu):TL:=ks.map λk=>(JE got k.toNat).headD .int
theorem gvn_one:gvn got [k]=some (JE got k.toNat):=rfl
theorem gvn_many(h:ks.length≠1):gvn got ks=if ks.all (λk=>(JE got k.toNat).length == 1)=true then some (hdT got ks) else none:=by
 unfold gvn YV
 split
 ·rename_i l e;have:=congrArg Lh e;simp at this;exact absurd this h
 ·simp only[List.all_map,GK];rfl
theorem hdT_snoc{j:Nat}(h:j<ks.length):hdT got (ks.take (j+1))=hdT got (ks.take j)++[(JE got (ks.getD j 0).toNat).headD .int]:=by unfold hdT;rw[G5 h,List.map_append,Gb,Gh h];rfl
theorem fmGiven(hl:Z.got.length=K.t.nodes.length)(hk:∀k∈ks,0<=k/\k<K.t.nodes.length)(hn:ks.length<=1000):∃x:CV,x.closed=true/\(∀l,gvn Z.got ks=some l->x=txV l)/\FMe Ga 144 [.rslc 1 (iz ks) none] K Z Z (.tup [x,.bool (gvn Z.got ks).isSome]):=by
 have Aj:(iz ks).length=ks.length:=Jf;have A7:(gz Z.got).length=K.t.nodes.length:=by rw[Yp,hl]
 by_cases h1:ks.length=1
 ·obtain⟨k,rfl⟩:∃k,ks=[k]:=by
   match ks,h1 with
   |[k],_=>exact⟨_,rfl⟩
  obtain⟨i,rfl⟩:∃i:Nat,k=i:=⟨k.toNat,by have:=(hk k sM).1;omega⟩;have hi:i<K.t.nodes.length:=by have:=(hk (i:Int) sM).2;omega
  have hg:=Xw (l:=Z.got) (i:=i) om;refine⟨txV (JE Z.got i),rfl,λl h=>by rw[gvn_one]at h;cases h;rfl,?_⟩;refine Kc (J8 c144_ok λN=>?_);have d1:(((0+1:Nat):Int) == 1)=true:=rfl;simp only[c144,go_sem,hpF,fRow,Kz,XN,Gc,Gf,d1];refine KL [0,0,0,1,0,0,0,1,1,0,0] Jr vM ?_;simp only[go_sem,hg,A7,Gc,Gf]
  repeat refine anO ?_
  exact .done (wk.refl _)
 ·have hm:=gvn_many (got:=Z.got) h1;have d1:((ks.length:Int) == 1)=false:=by simpa using (by omega:¬(ks.length:Int)=1)
  have Az:∀j,j<ks.length->∃i:Nat,ks.getD j 0=i/\i<K.t.nodes.length:=λj hj=>by have hm:=hk (ks.getD j 0) (by rw[Gb,Gh hj];exact GG hj);exact⟨(ks.getD j 0).toNat,om,om⟩
  obtain⟨x,b,Bg,AY,hb,BD⟩:∃(x:CV) (b:Bool),x.closed=true/\(∀l,gvn Z.got ks=some l->x=txV l)/\b=(gvn Z.got ks).isSome/\((ks.all (λk=>(JE Z.got k.toNat).length == 1)=true/\x=txV (hdT Z.got ks)/\b=true)\/(ks.all (λk=>(JE Z.got k.toNat).length == 1)=false/\x=.nils/\b=false)):=by
   cases Ak:ks.all (λk=>(JE Z.got k.toNat).length == 1) with
   |true=>
    rw[Ak,if_pos rfl]at hm;rw[hm];exact⟨txV (hdT Z.got ks),true,rfl,λl h=>(by cases h;rfl),rfl,.inl ⟨rfl,rfl,rfl⟩⟩
   |false=>rw[Ak,if_neg vk]at hm;rw[hm];exact⟨.nils,false,rfl,λl h=>(by cases h),rfl,.inr ⟨rfl,rfl,rfl⟩⟩
  refine⟨x,Bg,AY,?_⟩;rw[<-hb];clear hb AY hm;refine Kc (J8 c144_ok λN=>?_);simp only[c144,go_sem,hpF,fRow,Aj,d1];refine XJ ?_;simp only[go_sem,Ha,He];refine Js (I:=λj:Nat=>j<=ks.length/\(ks.take j).all (λk=>(JE Z.got k.toNat).length == 1)=true) (inv:=λj=>gp [(0,.ptr 0 0 0),(3,JW 5 (txz (hdT Z.got (ks.take j)))),(17,.rslc 1 (iz ks) none),(0,.int .i64 (ks.length:Int)),(0,.int .i64 (j:Int))] 17) (hp:=λj=>hpF K Z [KT 1 (txz (hdT Z.got (ks.take j)))]) (μ:=λj=>ks.length-j) 0 [0,1,2,3,4,5] ⟨om,rfl⟩ rfl ?_ ?_ ?_
  ·simp[forget,JB,ren,Jm,gp,hdT,txz,JW]
  ·exact Qt (K:=K) (Z:=Z) (X:=[.dead]) rfl
  ·rintro j ⟨hj,Bb⟩;by_cases Ab:j<ks.length
   ·have d2:=dtT j ks.length;obtain⟨i,e1,e2⟩:=Az j Ab;have BG:=JL Ab;by_cases Bn:(JE Z.got i).length=1
    case neg=>
     have hO:=fmOne (Z:=Z) e2 hl;rw[oneO_none Bn]at hO;rw[e1]at BG;rcases BD with ⟨Ak,_⟩|⟨_,rfl,rfl⟩
     ·have:=Hd.1 Ak (ks.getD j 0) (by rw[Gb,Gh Ab];exact GG Ab);rw[e1,Gi]at this;exact absurd (by simpa using this) Bn
     simp only[go_sem,hpF,fRow,d2,BG,Aj]
     repeat refine anO ?_
     refine KH hO (.inl rfl) rfl rfl rfl rfl ?_;simp only[go_sem,hpF,opT,GZ];exact .out (wk.refl _) rfl
    obtain⟨a,ha⟩:∃a,JE Z.got i=[a]:=by
     match h:JE Z.got i,Bn with
     |[a],_=>exact⟨_,rfl⟩
    have R6:(ks.take (j+1)).all (λk=>(JE Z.got k.toNat).length == 1)=true:=by
     rw[G5 Ab,Le,Bb,GX];have e3:ks[j]=(i:Int):=by rw[<-e1,Gb,Gh Ab];rfl
     simp[e3,Bn]
    have hO:=fmOne (Z:=Z) e2 hl;rw[ha]at hO;have Ay:=hdT_snoc (got:=Z.got) Ab;rw[e1,Gi,ha]at Ay;rw[e1]at BG;have CK:(txz (hdT Z.got (ks.take j))).length=j:=by rw[XR];simp[hdT];omega
    simp only[go_sem,hpF,fRow,d2,BG,Aj]
    repeat refine anO ?_
    refine KH hO (.inl rfl) rfl rfl rfl rfl ?_;simp only[go_sem,hpF,QH,opT,GY];refine⟨by rw[CK];unfold Jw;simp[Cond.holds];omega,Ji,j+1,[0,1,2,3,4,7],⟨om,R6⟩,om,rfl,?_,?_⟩
    ·rw[Ay];simp only[Ld];rw[Yz,Kn];exact Qt (K:=K) (Z:=Z) (X:=[.dead,.arr 1 [[S (tyT a)]],.arr 1 (txz (hdT Z.got (ks.take j))++[[S (tyT a)]])]) (by have:(txz (hdT Z.got (ks.take j))++[[S (tyT a)]]).map (JB [0,1,2,3,4,7])=_:=Ja (by rw[<-Yz];exact Qc _);simp only[Gd,Gj,hpF,GQ,Gu,Jj,this])
    ·rw[Ay];simp only[Ld];rw[Yz,Km];simp[forget,JB,ren,Jm]
   ·have d2:=dfF j ks.length;obtain rfl:j=ks.length:=om
    rw[H8]at Bb|-;obtain⟨rfl,rfl⟩:x=txV (hdT Z.got ks)/\b=true:=by
     rcases BD with ⟨_,h1,h2⟩|⟨h1,_⟩
     ·exact⟨h1,h2⟩
     ·rw[Bb]at h1;cases h1
    simp only[go_sem,hpF,fRow,d2];generalize hdT Z.got ks=l;rcases l with _|⟨x,l⟩
    ·exact .out (YN ⟨wk.nils,wk.refl _,trivial⟩) rfl
    ·refine .one 0 rfl (Qc (x::l)) ?_ ?_
     ·simp[frz,JV,JW,txz,CV.closed,Jp]
     ·simp[frz,JV,JW,txz,txV,JcL];exact wk.refl _
def Ans (K:FT0)(Z:FS)(f:Nat)(args:Ls)(r:Option TL):Prop:=∃x:CV,x.closed=true/\(∀l,r=some l->x=txV l)/\FMe Ga f args K Z Z (.tup [x,.bool r.isSome])
theorem Jd6(g:GoodT t o){j:Nat}(hi:i<t.nodes.length)(hj:j<(nd t i).kids.length){c:Int}(hc:(nd t i).kids.getD j 0=c):KK t got i j=JE got c.toNat:=by unfold KK;rw[if_pos hj,<-hc,KF g hi hj,Gi]
section
variable(g:GoodT K.t o)(ht:K.t.Fit)
include g ht
theorem fmCall(hi:i<K.t.nodes.length)(hk:(nd K.t i).k=26)(Bf:K.of.length=K.t.nodes.length)(Cs:K.of.getD i 0=(m:Int))(hm:m<K.t.nodes.length)(Cv:(nd K.t m).k=65)(hl:Z.got.length=K.t.nodes.length):Ans K Z 141 [.int .i64 (i:Int)] (Xa K.t m Z.got i):=by
 have Ah:=g.many;have hg:=J7 hi;have BL:=(JfK ht hi).kidn;have Aj:(iz (nd K.t i).kids).length=(nd K.t i).kids.length:=Jf;have hS:=fmSign g ht (Z:=Z) hm Cv;have O9:(iz K.of).getD i []=[.int .i64 (m:Int)]:=by rw[JL om,Cs]
 have Cc:(iz K.of).length=K.t.nodes.length:=by rw[Jf,Bf]
 rw[JY,hk,rk_call];generalize El:JaI K.t m=sp at *;generalize IV:Jaj K.t m=sr at *;have Rz:(txz sp).length=sp.length:=XR;have iJ:sp.length<=30:=by rw[<-El];unfold JaI;simp;obtain⟨a,a1,a2,_⟩:=JeH g hm Cv;change (nd K.t m).n=a at a1;change a<(nd K.t m).kids.length at a2;have:=(JfK ht hm).kidn;omega
 have DK:∀j,j<(nd K.t i).kids.length->∃c:Nat,(nd K.t i).kids.getD j 0=c/\c<K.t.nodes.length/\KK K.t Z.got i j=JE Z.got c:=λj hj=>by have h1:=Jt g hi (i:=j) hj;exact⟨_,KF g hi hj,om,by rw[Jd6 g hi hj (KF g hi hj),Gi]⟩
 obtain⟨x,b,Bg,AY,hb,BD⟩:∃(x:CV) (b:Bool),x.closed=true/\(∀l,(if (nd K.t i).kids.length=sp.length/\∀j,j<(nd K.t i).kids.length->KK K.t Z.got i j=[sp.getD j .int] then some sr else none)=some l->x=txV l)/\b=(if (nd K.t i).kids.length=sp.length/\∀j,j<(nd K.t i).kids.length->KK K.t Z.got i j=[sp.getD j .int] then some sr else none:Option TL).isSome/\(((nd K.t i).kids.length=sp.length/\(∀j,j<(nd K.t i).kids.length->KK K.t Z.got i j=[sp.getD j .int])/\x=txV sr/\b=true)\/(¬((nd K.t i).kids.length=sp.length/\∀j,j<(nd K.t i).kids.length->KK K.t Z.got i j=[sp.getD j .int])/\x=.nils/\b=false)):=by
  by_cases hc:(nd K.t i).kids.length=sp.length/\∀j,j<(nd K.t i).kids.length->KK K.t Z.got i j=[sp.getD j .int]
  ·rw[if_pos hc];exact⟨txV sr,true,rfl,λl h=>(by cases h;rfl),rfl,.inl ⟨hc.1,hc.2,rfl,rfl⟩⟩
  ·rw[if_neg hc];exact⟨.nils,false,rfl,λl h=>(by cases h),rfl,.inr ⟨hc,rfl,rfl⟩⟩
 refine⟨x,Bg,AY,?_⟩;rw[<-hb];clear hb AY;refine Kc (J8 c141_ok λN=>?_);simp only[c141,go_sem,hpF,fRow,O9,Cc]
 repeat refine anO ?_
 refine KH hS (.inl rfl) rfl rfl rfl rfl ?_;simp only[go_sem,hpF,fRow,txV,Jb,hg,Nd.cv,Aj,Rz]
 repeat refine anO ?_
 by_cases Ad:(nd K.t i).kids.length=sp.length
 case neg=>
  have d1:(((nd K.t i).kids.length:Int) != (sp.length:Int))=true:=by simp;omega
  rcases BD with ⟨h,_⟩|⟨_,rfl,rfl⟩
  ·exact absurd h Ad
  simp only[go_sem,d1];exact .out (wk.refl _) rfl
 have d1:(((nd K.t i).kids.length:Int) != (sp.length:Int))=false:=by simp[Ad]
 simp only[go_sem,d1];refine Js (I:=λj:Nat=>j<=sp.length/\∀q,q<j->KK K.t Z.got i q=[sp.getD q .int]) (inv:=λj=>gp [(0,.ptr 0 0 0),(6,txV sr),(0,.rslc 1 (iz (nd K.t i).kids) none),(28,txV sp),(0,.int .i64 (sp.length:Int)),(0,.int .i64 (j:Int))] 15) (hp:=λj=>hpF K Z []) (μ:=λj=>sp.length-j) 0 [0,1,2,3,4] ⟨om,λq h=>absurd h om⟩ rfl ?_ ?_ ?_
 ·simp[forget,JB,ren,Jm,gp,txV]
 ·exact Qt (K:=K) (Z:=Z) (X:=[]) rfl
 ·rintro j ⟨hj,Bb⟩;by_cases Ab:j<sp.length
  ·have d2:=dtT j sp.length;obtain⟨c,c1,c2,c3⟩:=DK j om;have BG:=JL (l:=(nd K.t i).kids) (i:=j) om;rw[c1]at BG;have DR:=Jbf Ab;have hA:=fmAre (w:=tyT (sp.getD j .int)) (ks:=[(c:Int)]) hl (by simp;omega) sM;rw[Ja2,Gi,<-c3]at hA;simp only[go_sem,hpF,fRow,d2,DR,BG,Aj,Rz,txV]
   repeat refine anO ?_
   refine Jdr (K:=K) (Z:=Z) (X:=[.arr 1 [[.int .i64 (c:Int)]]]) 0 rfl rfl rfl ?_;simp only[go_sem,JV,frz,Gd,Gj,Qj,Gv,Gx,if_true,hpF,Gc,Gf,Gr,GI,G7,GV];refine KH hA (.inl rfl) rfl rfl rfl rfl ?_;by_cases he:KK K.t Z.got i j=[sp.getD j .int]
   ·have e1:(KK K.t Z.got i j == [sp.getD j .int])=true:=by simpa using he
    simp only[go_sem,hpF,e1];refine⟨Ji,j+1,[0,1,2,3,4],⟨om,λq hq=>?_⟩,om,rfl,?_,?_⟩
    ·by_cases BP:q=j
     ·subst BP;exact he
     ·exact Bb q om
    ·exact Qt (K:=K) (Z:=Z) (X:=[.dead]) rfl
    ·simp[forget,JB,ren,Jm]
   ·have e1:(KK K.t Z.got i j == [sp.getD j .int])=false:=by simpa using he
    rcases BD with ⟨_,h,_⟩|⟨_,rfl,rfl⟩
    ·exact absurd (h j om) he
    simp only[go_sem,hpF,e1];exact .out (wk.refl _) rfl
  ·have d2:=dfF j sp.length;obtain rfl:j=sp.length:=om
   rcases BD with ⟨_,_,rfl,rfl⟩|⟨h,_⟩
   ·simp only[go_sem,hpF,fRow,d2];exact .done (wk.refl _)
   ·exact absurd ⟨Ad,λq hq=>Bb q om⟩ h
end
section
variable{N:Fr}{T:Ls}{k:LJ}{l:LB}{es:List Lx}{bs:Lx}
theorem vy_pv{x:IArg}{l1 l2:Ls}{xs:LK}(hg:GOk T ge) (hx:Ke T x=.fn f l1 l2) (hF:Jg P f=some F) (Fb:(P.funcs[f]?.map (·.name))≠some "runtime.NumGoroutine") (Af:Pure P E f (l1++xs.map (Ke T)++l2) H v) (h:vdy P E n0 N Q k l bs (put T d v) H):vdyR P E n0 N Q none d (.callv x xs) ge 1 k l bs T H:=by
 refine⟨v,H,⟨λ_ _=>rfl,λT2 H2 ag AY=>?_⟩,h⟩;have hH:H2=H:=Jao λy=>AY y trivial
 subst hH;have Br:∃fn,P.funcs[f]? = some fn/\fn.body.isSome=true:=by
  unfold Jg at hF
  split at hF
  ·rename_i fn Br
   split at hF
   ·rename_i c hb;exact⟨fn,Br,by rw[hb];rfl⟩
   ·cases hF
  ·cases hF
 obtain⟨fn,Br,Dj⟩:=Br;have ha:=(Jl ag).2;have e1:Ke T x=Ke T2 x:=Jv (Jl ha).1;have e2:xs.map (Ke T)=xs.map (Ke T2):=XP (Jl ha).2;exact⟨H2,λy hy=>(by cases hy),λ_ _=>rfl,λn0 N Q k l Aq=>Jh3 (R:=λv' H'=>v'=v/\H'=H2) (YU ag hg) (by rw[<-e1];exact hx) Br Dj (λe=>Fb (by rw[Br,<-e];rfl)) (by rw[<-e2];exact Af) λv' H' ⟨h1,h2⟩=>by rw[h1,h2];exact Aq⟩
end
def allQ (t:Tr)(got:List TL)(i:Nat)(s:TyX)(j:Nat):Bool:=(Gg j).all λq=>Jcz t got i (q+1) == [s]
theorem allQ_succ{j:Nat}{s:TyX}:allQ t got i s (j+1)=(allQ t got i s j && (Jcz t got i (j+1) == [s])):=by unfold allQ;rw[Lb,Le,Hl,Ho,Ht]
section
variable(g:GoodT K.t o)(ht:K.t.Fit)
include g ht
theorem fmLast{u:Nat}(hu:u<K.t.nodes.length)(Ad:0<(nd K.t u).kids.length):Pure Ga E 182 [.int .i64 (u:Int),.ptr 5 0 0] (hpF K Z (.arr 1 [[.ptr 0 0 0]]::X)) (.int .i64 (Jh K.t u:Int)):=by
 have hg:=J7 hu;have Aw:(iz (nd K.t u).kids).length=(nd K.t u).kids.length:=Jf;have A7:=lastz g hu Ad;have BL:=(JfK ht hu).kidn;refine J8 c182_ok λN=>?_
 simp only[c182,go_sem,hpF,fRow,Jb,hg,Nd.cv,Aw,A7]
 repeat refine And.intro (by first|omega|exact⟨om,om⟩|exact Ji) ?_
 omega
omit ht in
theorem arr_two(hi:i<K.t.nodes.length)(hk:(nd K.t i).k=29):2<=(nd K.t i).kids.length:=by have hn:=g.nds (nd K.t i) (by unfold nd;rw[Gb,Gh hi];exact GG hi);rw[ndI_R]at hn;simp only[GL]at hn;have h:=hn.2;unfold Qu at h;rw[hk]at h;simp[inI,KP]at h;omega
theorem fmCells(hi:i<K.t.nodes.length)(hk:(nd K.t i).k=29)(hl:Z.got.length=K.t.nodes.length)(hf:∀j,Yq (JE Z.got j)=true):Ans K Z 143 [.agg (nd K.t i).cv] (Xa K.t m Z.got i):=by
 have Ah:=g.many;have BL:=(JfK ht hi).kidn;have h2:=arr_two g hi hk;have Aj:(iz (nd K.t i).kids).length=(nd K.t i).kids.length:=Jf;have DK:∀j,1<=j->j<(nd K.t i).kids.length->∃c e:Nat,(nd K.t i).kids.getD j 0=c/\c<K.t.nodes.length/\0<(nd K.t c).kids.length/\Jh K.t c=e/\e<K.t.nodes.length/\Jcz K.t Z.got i j=JE Z.got e:=λj h1 hj=>by have hm:=Jt g hi (i:=j) hj;have hp:=JcX g hi hk h1 hj;obtain⟨q1,q2,q3⟩:=JcW g (u:=JH K.t i j) om hp;exact⟨_,_,KF g hi hj,om,q1,rfl,om,by unfold Jcz;rw[if_pos hj]⟩
 have Ca:KK K.t Z.got i 0=JE Z.got (JH K.t i 0):=by rw[Jd6 g hi om (KF g hi om),Gi]
 have kT:JH K.t i 0<K.t.nodes.length:=by have:=Jt g hi (i:=0) om;omega
 obtain⟨c1,e1,p1,p2,p3,p4,p5,p6⟩:=DK 1 om om;have hA:∀(w:Lv) (c:Nat),c<K.t.nodes.length->FMe Ga 139 [S w,.rslc 1 (iz [(c:Int)]) none] K Z Z (.bool (areB Z.got w [(c:Int)])):=λw c hc=>fmAre (w:=w) (ks:=[(c:Int)]) hl (by simp;omega) sM
 have hO:=fmOne (Z:=Z) p5 hl;have lK:=Jfk (hf e1);have hr:Xa K.t m Z.got i=if (QH (JE Z.got e1)).isSome=true/\allQ K.t Z.got i ((QH (JE Z.got e1)).getD .int) ((nd K.t i).kids.length-1)=true/\JE Z.got (JH K.t i 0)=[.int] then some [.arr ((QH (JE Z.got e1)).getD .int)] else none:=by rw[JY,hk,JhR,p6,Ca];rfl
 rw[hr];clear hr;generalize hs:QH (JE Z.got e1)=s at *;refine⟨.rslc 1 [[S (91::(opT s++[93]))]] none,rfl,λl h=>?_,?_⟩
 ·split at h
  ·rename_i hc
   cases h
   cases s with
   |none=>exact absurd hc.1 sM
   |some a=>rfl
  ·cases h
 generalize hb:(if s.isSome=true/\allQ K.t Z.got i (s.getD .int) ((nd K.t i).kids.length-1)=true/\JE Z.got (JH K.t i 0)=[.int] then some [TyX.arr (s.getD .int)] else none).isSome=b;have Cb:b=(s.isSome && allQ K.t Z.got i (s.getD .int) ((nd K.t i).kids.length-1) && (JE Z.got (JH K.t i 0) == [TyX.int])):=by
  rw[<-hb]
  cases s.isSome <;> cases allQ K.t Z.got i (s.getD .int) ((nd K.t i).kids.length-1) <;> by_cases h:JE Z.got (JH K.t i 0)=[TyX.int] <;> simp[h]
 clear hb;refine Kc (J8 c143_ok λN=>?_);simp only[c143,go_sem,hpF,fRow,Nd.cv];refine Jdr (K:=K) (Z:=Z) (X:=[.arr 1 [[.ptr 0 0 0]],.arr 5 [(nd K.t i).cv]]) 1 rfl rfl rfl ?_;simp only[go_sem,JV,frz,Gd,Gj,Qj,Gv,GA,hpF,show ¬(0:Nat)=1+5 by decide,show ¬(5:Nat)=1+5 by decide,if_false,if_true,Nd.cv,Gu,GI];have fO:=fmLast g ht (Z:=Z) (E:=Env.none) (X:=[.dead]) p2 p3;rw[p4]at fO;have Bh:(iz ((nd K.t i).kids.drop 1)).length=(nd K.t i).kids.length-1:=by rw[Jf,GU]
 have Cr:(iz ((nd K.t i).kids.drop 1)).take ((nd K.t i).kids.length-1)=iz ((nd K.t i).kids.drop 1):=Gz (Hu Bh);have Ii:=JL (l:=(nd K.t i).kids) (i:=1) om;rw[p1]at Ii;refine KL [1,0,0,0,0,0,1,1,0,0,0,0,0] Jr vM ?_;simp only[go_sem,Aj,Ii];refine anO ?_;refine vy_pv (.inl rfl) rfl c182_ok nm fO ?_;simp only[go_sem];refine vy_p (.inl rfl) (hO.on (X:=[.arr 1 [[.ptr 0 0 0]],.dead]) rfl rfl) ?_;simp only[go_sem,Aj,drop_iz,Cr,Bh];refine anO ?_;refine JO (I:=λj:Nat=>j<=(nd K.t i).kids.length-1) (inv:=λj=>gp [(2,.ptr 5 0 0),(0,.rptr (nd K.t i).cv),(2,.fn 182 [] [.ptr 5 0 0]),(0,S (opT s)),(0,.bool (s.isSome && allQ K.t Z.got i (s.getD .int) j)),(16,.rslc 1 (iz ((nd K.t i).kids.drop 1)) none),(0,.int .i64 (((nd K.t i).kids.length-1:Nat):Int)),(0,.int .i64 (j:Int))] 27) (hp:=λj=>hpF K Z [.arr 1 [[.ptr 0 0 0]],.dead]) (μ:=λj=>(nd K.t i).kids.length-1-j) 0 om ?_ rfl ?_
 ·simp[forget,gp,Nd.cv,allQ,-List.drop_one]
 ·intro j hj;by_cases Ab:j<(nd K.t i).kids.length-1
  ·have d1:((j:Int)<(((nd K.t i).kids.length-1:Nat):Int))=True:=KQ;obtain⟨c,e,q1,q2,q3,q4,q5,q6⟩:=DK (j+1) om om;have BG:(iz ((nd K.t i).kids.drop 1)).getD j []=[.int .i64 (c:Int)]:=by rw[JL (by rw[GU];omega),Gb,H5,<-Gb,Nat.add_comm 1 j,q1]
   have fM:=fmLast g ht (Z:=Z) (E:=Env.none) (X:=[.dead]) q2 q3;rw[q4]at fM;have BJ:allQ K.t Z.got i (s.getD .int) (j+1)=(allQ K.t Z.got i (s.getD .int) j && (JE Z.got e == [s.getD .int])):=by rw[allQ_succ,q6]
   generalize allQ K.t Z.got i (s.getD .int) j=u at BJ|-;simp only[go_sem,hpF,fRow,d1,BG,Bh];refine anO ?_;refine KL [0,0,1,0,0,0,1,0,1,0,0] Jr vM ?_
   cases Aq:(s.isSome && u) with
   |false=>simp only[go_sem];refine⟨Ji,j+1,om,om,?_⟩;rw[BJ,<-Bool.and_assoc,Aq];simp[forget,Nd.cv]
   |true=>
    obtain⟨a,rfl⟩:∃a,s=some a:=by
     cases s with
     |none=>cases Aq
     |some a=>exact⟨a,rfl⟩
    have hu:u=true:=by simpa using Aq
    subst hu;have UC:=hA (tyT a) e q5;rw[Ja2,Gi]at UC;simp only[go_sem];refine vy_pv (gok rfl) rfl c182_ok nm fM ?_;simp only[go_sem];refine vy_row (iz [(e:Int)]) (gok rfl) rfl rfl rfl rfl ?_;simp only[go_sem];refine vy_p (gok rfl) (UC.on (X:=[.arr 1 [[.ptr 0 0 0]],.dead]) rfl rfl) ?_;simp only[go_sem];refine⟨Ji,j+1,om,om,?_⟩;simp only[GH]at BJ|-;rw[BJ];simp[forget,Nd.cv]
  ·have d1:((j:Int)<(((nd K.t i).kids.length-1:Nat):Int))=False:=Kq;obtain rfl:j=(nd K.t i).kids.length-1:=om
   have UC:=hA (tyT .int) _ kT;rw[Ja2,Gi]at UC;have FP:=JL (l:=(nd K.t i).kids) (i:=0) om;rw[KF g hi om]at FP;generalize (s.isSome && allQ K.t Z.got i (s.getD .int) ((nd K.t i).kids.length-1))=u at *;simp only[go_sem,hpF,fRow,d1];refine KL [0,0,0,0,0,1,0,0,0,0,0,1,0,0,0] Jr vM ?_;simp only[go_sem];refine vy_f (.inl rfl) (typArray (opT s) om) ?_;simp only[go_sem];refine vy_row [[S (91::(opT s++[93]))]] (.inl rfl) rfl rfl rfl rfl ?_
   cases u with
   |false=>rw[Hr]at Cb;subst Cb;simp only[go_sem];exact .out (wk.refl _) rfl
   |true=>rw[GX]at Cb;simp only[go_sem,Nd.cv,Aj,FP];refine anO ?_;refine vy_row (iz [(JH K.t i 0:Int)]) (gok rfl) rfl rfl rfl rfl ?_;simp only[go_sem];refine vy_p (gok rfl) (UC.on (X:=[.arr 1 [[.ptr 0 0 0]],.dead]) rfl rfl) ?_;simp only[go_sem];rw[<-Cb];exact .out (wk.refl _) rfl
end
theorem Ans.of{args:Ls}{b:Bool}(x:CV)(hr:r=if b=true then some l else none)(hx:x.closed=true)(he:b=true->x=txV l)(h:FMe Ga f args K Z Z (.tup [x,.bool b])):Ans K Z f args r:=by
 subst hr;refine⟨x,hx,λl' h'=>?_,?_⟩
 ·split at h'
  ·rename_i hb;cases h';exact he hb
  ·cases h'
 ·rw[show (if b=true then some l else none:Option TL).isSome=b by cases b <;> rfl];exact h
theorem kid_pair(g:GoodT t o)(hi:i<t.nodes.length)(hl:(nd t i).kids.length=2):(nd t i).kids=[(JH t i 0:Int),(JH t i 1:Int)]:=by
 rw[<-KF g hi om,<-KF g hi om]
 match h:(nd t i).kids,hl with
 |[a,b],_=>rfl
section
variable(g:GoodT K.t o)(ht:K.t.Fit)
include g ht
omit ht in
theorem small1(hi:i<K.t.nodes.length)(hk:(nd K.t i).k=1\/(nd K.t i).k=2):Ans K Z 88 [.int .i64 (i:Int)] (Xa K.t m Z.got i):=by
 have Ah:=g.many;have hg:=J7 hi;rcases hk with hk|hk
 case' inl=>refine Ans.of (b:=true) (l:=[.int]) (txV [.int]) (by rw[JY,hk];rfl) rfl (λ_=>rfl) ?_
 case' inr=>refine Ans.of (b:=true) (l:=[.bool]) (txV [.bool]) (by rw[JY,hk];rfl) rfl (λ_=>rfl) ?_
 all_goals
  refine Kc (vfS c88_ok λN=>?_);simp only[c88,go_sem,hpF,fRow,Jb,hg,Nd.cv,hk,Gm]
  repeat refine anO ?_
  exact .one 1 rfl rfl rfl (wk.refl _)
omit ht in
theorem small2(hi:i<K.t.nodes.length)(hk:4<=(nd K.t i).k/\(nd K.t i).k<=18)(hl:Z.got.length=K.t.nodes.length)(hf:∀j,Yq (JE Z.got j)=true):Ans K Z 88 [.int .i64 (i:Int)] (Xa K.t m Z.got i):=by
 have Ah:=g.many;have hg:=J7 hi;have Aw:=kids_two g hi hk;have hp:=kid_pair g hi Aw;have h0:=Jt g hi (i:=0) om;have h1:=Jt g hi (i:=1) om;have k0:=Jd6 g (got:=Z.got) hi (j:=0) om (KF g hi om);have k1:=Jd6 g (got:=Z.got) hi (j:=1) om (KF g hi om);rw[Gi]at k0 k1;generalize JH K.t i 0=a at *;generalize JH K.t i 1=b at *;have Ao:a<K.t.nodes.length:=om
 have Be:b<K.t.nodes.length:=om
 have hA:=λw=>fmAre (K:=K) (Z:=Z) (w:=tyT w) (ks:=[(a:Int),(b:Int)]) hl (by simp;omega) sM
 simp only[are_cons (l:=[(b:Int)]),Ja2,Gi]at hA;have dE:=hA .int;have gL:=hA .bool;have hB:=λ(w:Lv) (c:Nat) (hc:c<K.t.nodes.length)=>fmAre (K:=K) (Z:=Z) (w:=w) (ks:=[(c:Int)]) hl (by simp;omega) sM
 have Ul:=Jg9 (K:=K) Be hl (hf b);have dD:=fmArrayed (K:=K) Ao hl (hf a);have CL:=prt_len (a:=QH (JE Z.got b));have RF:=Jfk (hf b);have iL:=prt_len (a:=QH (JE Z.got a));have iK:=Jfk (hf a);clear hA;rcases (show (nd K.t i).k=4\/(nd K.t i).k=18\/((nd K.t i).k=5\/(nd K.t i).k=6)\/((nd K.t i).k=7\/(nd K.t i).k=8)\/((nd K.t i).k=9\/(nd K.t i).k=10\/(nd K.t i).k=11\/(nd K.t i).k=12)\/((nd K.t i).k=13\/(nd K.t i).k=14\/(nd K.t i).k=15\/(nd K.t i).k=16\/(nd K.t i).k=17) by omega) with hk|hk|hk|hk|hk|hk
 ·refine Ans.of (.rslc 1 [[S (Ya++opT (prt (QH (JE Z.got b))))]] none) (by rw[JY,hk,rk_cons,k0,k1]) rfl (λh=>?_) ?_
  ·simp only[GL]at h;obtain⟨e,he⟩:=Jfz.1 h.1;rw[he];rfl
  refine Kc (vfS c88_ok λN=>?_);simp only[c88,go_sem,hpF,fRow,Jb,hg,Nd.cv,hk,hp,Gm,Kz,XN,Gc,Gf]
  repeat refine anO ?_
  refine KH Ul (.inl rfl) rfl rfl rfl rfl ?_;simp only[go_sem];refine Kk (JeU _ om) ?_;simp only[go_sem,hpF]
  cases hs:isStr (QH (JE Z.got b)) with
  |false=>simp only[go_sem,Hr];exact .one 1 rfl rfl rfl (wk.refl _)
  |true=>obtain⟨e,he⟩:=Jfz.1 hs;have PR:=hB (tyT e) a Ao;rw[Ja2,Gi]at PR;simp only[go_sem,he,prt,opT,GH,GX];refine anO ?_;refine Jdr (K:=K) (Z:=Z) 2 rfl rfl rfl ?_;simp only[go_sem,JV,frz,Gd,Gj,Qj,Gv,GA,hpF,Lm,Lj,Gx,Gr,GI,G7,GV,Gc,Gf];refine KH PR (gok rfl) rfl rfl rfl rfl ?_;simp only[go_sem,hpF];exact .one 1 rfl rfl rfl (wk.refl _)
 ·refine Ans.of (.rslc 1 [[S (opT (prt (QH (JE Z.got a))))]] none) (by rw[JY,hk,rk_read,k0,k1]) rfl (λh=>?_) ?_
  ·simp only[GL]at h;obtain⟨e,he⟩:=isArr_iff.1 h.1;rw[he];rfl
  refine Kc (vfS c88_ok λN=>?_);simp only[c88,go_sem,hpF,fRow,Jb,hg,Nd.cv,hk,hp,Gm,Kz,XN,Gc,Gf]
  repeat refine anO ?_
  refine KH dD (.inl rfl) rfl rfl rfl rfl ?_;simp only[go_sem,hpF]
  cases hs:JdN (QH (JE Z.got a)) with
  |false=>simp only[go_sem,Hr];exact .one 1 rfl rfl rfl (wk.refl _)
  |true=>have PR:=hB (tyT .int) b Be;rw[Ja2,Gi]at PR;simp only[go_sem,GX];refine anO ?_;refine Jdr (K:=K) (Z:=Z) 2 rfl rfl rfl ?_;simp only[go_sem,JV,frz,Gd,Gj,Qj,Gv,GA,hpF,Lm,Lj,Gx,Gr,GI,G7,GV,Gc,Gf];refine KH PR (gok rfl) rfl rfl rfl rfl ?_;simp only[go_sem,hpF];exact .one 1 rfl rfl rfl (wk.refl _)
 ·refine Ans.of (txV [.bool]) (by rw[JY,rk_or hk,k0,k1]) rfl (λ_=>rfl) ?_;rcases hk with hk|hk
  all_goals
   refine Kc (vfS c88_ok λN=>?_);simp only[c88,go_sem,hpF,fRow,Jb,hg,Nd.cv,hk,hp,Gm]
   repeat refine anO ?_
   refine KH gL (.inl rfl) rfl rfl rfl rfl ?_;simp only[go_sem];exact .one 1 rfl rfl rfl (wk.refl _)
 ·refine Ans.of (txV [.bool]) (by rw[JY,rk_eq hk,k0,k1]) rfl (λ_=>rfl) ?_;rcases hk with hk|hk
  all_goals
   refine Kc (vfS c88_ok λN=>?_);simp only[c88,go_sem,hpF,fRow,Jb,hg,Nd.cv,hk,hp,Gm]
   repeat refine anO ?_
   refine KH dE (.inl rfl) rfl rfl rfl rfl ?_
   cases hx:(JE Z.got a == [TyX.int] && JE Z.got b == [TyX.int]) with
   |true=>simp only[go_sem,hpF,Bool.true_or];exact .one 1 rfl rfl rfl (wk.refl _)
   |false=>simp only[go_sem,hpF,Bool.false_or];refine KH gL (gok rfl) rfl rfl rfl rfl ?_;simp only[go_sem];exact .one 1 rfl rfl rfl (wk.refl _)
 ·refine Ans.of (txV [.bool]) (by rw[JY,rk_lt om,k0,k1]) rfl (λ_=>rfl) ?_;rcases hk with hk|hk|hk|hk
  all_goals
   refine Kc (vfS c88_ok λN=>?_);simp only[c88,go_sem,hpF,fRow,Jb,hg,Nd.cv,hk,hp,Gm]
   repeat refine anO ?_
   refine KH dE (.inl rfl) rfl rfl rfl rfl ?_;simp only[go_sem];exact .one 1 rfl rfl rfl (wk.refl _)
 ·refine Ans.of (txV [.int]) (by rw[JY,rk_add om,k0,k1]) rfl (λ_=>rfl) ?_;rcases hk with hk|hk|hk|hk|hk
  all_goals
   refine Kc (vfS c88_ok λN=>?_);simp only[c88,go_sem,hpF,fRow,Jb,hg,Nd.cv,hk,hp,Gm]
   repeat refine anO ?_
   refine KH dE (.inl rfl) rfl rfl rfl rfl ?_;simp only[go_sem];exact .one 1 rfl rfl rfl (wk.refl _)
end
def Ln (got:List TL):Prop:=∀j,(JE got j).length<=30
theorem ln_set(h:Ln got)(hl:l.length<=30):Ln (got.set i l):=λj=>by
 by_cases hi:i<got.length
 ·rw[Jae hi]
  split
  ·exact hl
  ·exact h j
 ·rw[List.set_eq_of_length_le om];exact h j
theorem given_len {ls:List TL}(h:YV ls=some l)(h1:ls.length<=30)(h2:∀x∈ls,x.length<=30):l.length<=30:=by
 unfold YV at h
 split at h
 ·cases h;exact h2 _ sM
 ·split at h
  ·cases h;simpa using h1
  ·cases h
theorem rule_len{k:Nat}{K:Nat->TL}{ty:TyX}(h:J9 k ks n K L ty sp sr si gm=some l)(hK:∀j,(K j).length<=30)(Bo:ks.length<=30)(IV:sr.length<=30):l.length<=30:=by
 have hg:∀(m:Nat) (f:Nat->Nat),m<=30->YV ((Gg m).map λj=>K (f j))=some l->l.length<=30:=λm f hm h=>given_len h (by simpa using hm) λx hx=>by obtain⟨j,_,rfl⟩:=Hm.1 hx;exact hK _
 have BM:∀{c:Prop} [Decidable c] {x:TL},(if c then some x else none)=some l->x.length<=30->l.length<=30:=λh hx=>by
  split at h
  ·cases h;exact hx
  ·cases h
 have one:∀a:TyX,([a]:TL).length<=30:=λa=>sM
 by_cases e1:k=1
 ·subst e1;cases h;exact one _
 by_cases e2:k=2
 ·subst e2;cases h;exact one _
 by_cases e4:k=4
 ·subst e4;rw[rk_cons]at h;exact BM h (one _)
 by_cases e5:k=5\/k=6
 ·rw[rk_or e5]at h;exact BM h (one _)
 by_cases e7:k=7\/k=8
 ·rw[rk_eq e7]at h;exact BM h (one _)
 by_cases e9:9<=k/\k<=12
 ·rw[rk_lt e9]at h;exact BM h (one _)
 by_cases e13:13<=k/\k<=17
 ·rw[rk_add e13]at h;exact BM h (one _)
 by_cases e18:k=18
 ·subst e18;rw[rk_read]at h;exact BM h (one _)
 by_cases e19:k=19
 ·subst e19;rw[rk_not]at h;exact BM h (one _)
 by_cases e20:k=20
 ·subst e20;rw[rk_neg]at h;exact BM h (one _)
 by_cases e21:k=21
 ·subst e21;rw[rk_head]at h;exact BM h (one _)
 by_cases e22:k=22
 ·subst e22;rw[rk_tail]at h;exact BM h (hK _)
 by_cases e23:k=23
 ·subst e23;rw[JhP]at h;exact BM h (one _)
 by_cases e24:k=24
 ·subst e24;rw[rk_size]at h;exact BM h (one _)
 by_cases e25:k=25
 ·subst e25;cases h;exact one _
 by_cases e26:k=26
 ·subst e26;rw[rk_call]at h;exact BM h IV
 by_cases e27:k=27
 ·subst e27;rw[rk_if]at h;exact BM h (hK _)
 by_cases e28:k=28
 ·subst e28;rw[rk_loop]at h;exact BM h (hK _)
 by_cases e29:k=29
 ·subst e29;rw[JhR]at h;exact BM h (one _)
 by_cases e40:k=40
 ·subst e40;exact hg _ _ om h
 by_cases e45:k=45
 ·subst e45;exact hg _ id om h
 by_cases e42:k=42
 ·subst e42;rw[JhQ]at h
  split at h <;> cases h <;> simp
 by_cases e64:k=64
 ·subst e64;cases h;exact one _
 by_cases e43:k=43
 ·subst e43;rw[rk_init]at h;exact BM h (one _)
 by_cases e44:k=44
 ·subst e44;rw[rk_next]at h;exact BM h sM
 by_cases e47:k=47
 ·subst e47;cases h;exact one _
 by_cases e65:k=65
 ·subst e65;rw[rk_def]at h;exact BM h sM
 have:J9 k ks n K L ty sp sr si gm=some []:=by unfold J9;simp only[e1,e2,e4,e5,e7,e9,e13,e18,e19,e20,e21,e22,e23,e24,e25,e26,e27,e28,e29,e40,e45,e42,e64,e43,e44,e47,e65,if_false]
 rw[this]at h;cases h;simp
theorem sig_len (ht:t.Fit)(d:Nat):(Jaj t d).length<=30:=by
 unfold Jaj;simp only[Lc,H6];by_cases hd:d<t.nodes.length
 ·have:=(JfK ht hd).kidn;omega
 ·have:(nd t d).kids=[]:=by unfold nd;rw[Gb,Gs om];rfl
  rw[this];simp
theorem kids_len (ht:t.Fit)(d:Nat):(nd t d).kids.length<=30:=by
 by_cases hd:d<t.nodes.length
 ·exact(JfK ht hd).kidn
 ·have:(nd t d).kids=[]:=by unfold nd;rw[Gb,Gs om];rfl
  rw[this];simp
theorem putB_ln {s:Nat}(h:Ln got):∀m,Ln (Ja6 t s l got m)
 |0=>h
 |m+1=>by
  rw[Ja6]
  split
  ·exact ln_set (putB_ln h m) sM
  ·exact putB_ln h m
theorem JcR {s:Nat}{S:FS}(h:Ln S.got):Ln (J4 t s S).got:=by
 unfold J4;simp only
 split
 ·exact putB_ln h _
 ·unfold FS.fail;split <;> exact h
theorem fin_ln {S:FS}(h:Ln S.got)(hr:∀l,r=some l->l.length<=30):Ln (S.fin i r).got:=by
 have hF:Ln (S.fail i).got:=by unfold FS.fail;split <;> exact h
 unfold FS.fin
 cases r with
 |none=>exact hF
 |some l=>
  simp only
  split
  ·exact h
  ·split
   ·simp only
    split
    ·exact h
    ·exact ln_set h (hr l rfl)
   ·exact hF
theorem doF_ln (ht:t.Fit){mean:Nat->Nat}:∀(f:Nat) (S:FS) (i:Nat),Ln S.got->Ln (doF t o mean f S i).got
 |0,S,i,h=>h
 |f+1,S,i,h=>by
  have ih:=doF_ln ht (mean:=mean) f;rw[doF]
  split
  ·exact h
  split
  ·have hd:∀S' r,JbI t o (doF t o mean f) (mean i) i S=(S',r)->Ln S'.got/\∀l,r=some l->l.length<=30:=by
    intro S' r e;have OH:∀(l:Lx) (S:FS),Ln S.got->Ln (l.foldl (doF t o mean f) S).got:=by
     intro l
     induction l with
     |nil=>intro S h;exact h
     |cons x l ih2=>intro S h;exact ih2 _ (ih S x h)
    unfold JbI at e
    split at e
    ·cases e;exact⟨h,λl hl=>by cases hl;simp⟩
    ·split at e
     ·cases e;exact⟨h,λl hl=>by cases hl;simp⟩
     ·split at e
      ·cases e
       have hF:Ln (Xh t o (doF t o mean f) (Kg t (mean i)).toNat i S).got:=by
        unfold Xh
        split
        ·unfold FS.fail;split <;> exact h
        ·simp only
         split
         ·exact OH _ _ h
         ·exact JcR (OH _ _ h)
       exact⟨hF,λl hl=>by cases hl;exact hF _⟩
      ·cases e;exact⟨h,λl hl=>by cases hl;exact h _⟩
   obtain⟨h1,h2⟩:=hd _ _ rfl;exact fin_ln h1 h2
  ·split
   ·refine fin_ln ?_ λl hl=>?_
    ·unfold Y9;split
     ·exact h
     ·exact JcR h
    ·split at hl
     ·cases hl;simp
     ·cases hl
   ·refine fin_ln h λl hl=>?_
    rw[JY]at hl;exact rule_len hl (λj=>by unfold KK;split;exact h _;simp) (kids_len ht i) (sig_len ht _)
end Go.Cm
end
end
