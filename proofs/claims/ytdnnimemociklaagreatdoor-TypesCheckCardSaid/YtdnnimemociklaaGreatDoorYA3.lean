/-
  A part of the proof. Conditions: none.
-/
import Derived.Test.YtdnnimemociklaaGreatDoorYA1
import Derived.Orders
import Derived.RangeFuncRecord
import Derived.RowKit
import Derived.RowKit2
import Derived.RowKit3
import Derived.Carry
import Derived.Below
import Derived.ReadAgain
import Derived.ChangeSame
import Derived.WideShapes
import Derived.ChangeArms
import Derived.OpenShut
import Derived.ChangeCalls
set_option linter.unusedSimpArgs false
set_option linter.unusedVariables false
open Bool renaming and_eq_true->Ga,or_eq_true->Gz,false_eq_true->GX,not_eq_true'->GY,true_or->GM,not_true->He,false_or->Hf,or_true->Hg
open Nat renaming le_refl->Gd,lt_of_lt_of_le->Gt,le_trans->Gu,zero_le->GA,lt_succ_self->GN,strongRecOn->GZ,zero_add->G5,lt_succ_of_lt->Hl,le_add_right->Hm,lt_or_ge->Ho
open Option renaming getD_some->Gp,map_some->G6,bind_eq_some_iff->Hq
open List renaming getD_eq_getElem?_getD->Gc,getElem?_eq_getElem->Gb,getElem?_eq_some_iff->Gg,getElem?_eq_none->Gh,getElem?_append_right->Gq,mem_of_getElem?->Gl,getElem?_append_left->Gv,getElem?_map->Gr,getElem?_set->Gw,mem_cons->Gm,range->Gi,ext_getElem?->GD,mem_range->Gx,all_eq_true->GG,replicate->GH,contains_iff_mem->GQ,length_cons->GJ,eq_nil_of_length_eq_zero->G7,map_cons->GK,mem_map->GL,not_mem_nil->G8,mem_filter->G9,getElem?_cons_succ->Hr,set_append_right->Ht,mem_cons_of_mem->Hu,take_succ_cons->Hw,mem_map_of_mem->Hy,map_congr_left->Hz,getD_cons_succ->HV,getElem?_drop->HY,append_assoc->HZ,reverse_nil->H5,cons_append->H6,any_eq_true->H7,nil_append->H8,getD->Ha,take_zero->H9,drop_zero->La,sum_cons->Lb
open Array renaming getElem?_eq_getElem->Gf,getD_eq_getD_getElem?->Gs,getElem?_eq_some_iff->Gy,replicate->Gn,getElem?_toList->GR,getElem?_push->GU,getElem?_replicate->Hd,toList_setIfInBounds->Lc
open Classical renaming byContradiction->Ld,choose_spec->Le,choose->Lf
open Option.some renaming injEq->GV
open Iff renaming rfl->Gj
open Prod.mk renaming injEq->GI
noncomputable section
namespace Go.Cm
variable {P:Program}{E:Env}{bytes f i n n0 o off t t' z z' zz:Nat}{N:Fr}{Q:Exit->Lu->Lv->Prop}{H H':Lv}{T T' l1 l2 x0:Lu}{ts:List RVar}{R R':CV->Lv->Prop}{cap d:Option Nat}{v:CV}{els xs xs':LQ}{m:Bk}{w:World}{own own':LC}{k:LM}{es:List LB}{F:IFunc}{as:LP}{l lst:LD}{g:Option (Nat×Bool)}{x:IArg}{op:IOp}{ps ρ:LB}{y:ICode}{I:Lv->Prop}
theorem retQ_ret:retQ ts R .ret T H=resK (XC T H ts) R H:=rfl
theorem retQ_normal:retQ ts R .normal T H=resK (XC T H ts) R H:=rfl
theorem resAll_tmp:resK (XC T H [.tmp t]) R H=R (T.getD t .un) H:=by simp[XC,JdE,resK,Cond.holds]
theorem resAll_nil:resK (XC T H []) R H=R (.tup []) H:=by simp[XC,resK,Cond.holds]
theorem resAll_tmp2:resK (XC T H [.tmp t,.tmp t']) R H=R (.tup [T.getD t .un,T.getD t' .un]) H:=by simp[XC,JdE,resK,Cond.holds]
theorem resAll_tmp3{t'':Nat}:resK (XC T H [.tmp t,.tmp t',.tmp t'']) R H=R (.tup [T.getD t .un,T.getD t' .un,T.getD t'' .un]) H:=by simp[XC,JdE,resK,Cond.holds]
theorem put_some {d:Nat}:put T (some d) v=T.set d v:=rfl
theorem put_none:put T none v=T:=rfl
theorem aget_s:Kg T (.s n)=T.getD n .un:=rfl
theorem aget_c:Kg T (.c v)=v:=rfl
theorem Jfm{b:Nat}:K9 z b H .nils []=some (.tt,.nils,H):=rfl
theorem JfM{b id len:Nat}:K9 z b H (.slc id off len cap) []=some (.tt,.slc id off len cap,H):=rfl
theorem Jfl{b:Nat}:K9 z b H (.rslc z' els cap) []=some (.tt,.rslc z' els cap,H):=rfl
theorem JhY:K9 z bytes H .nils (x0::xs')=some (JA (x0::xs').length bytes,.slc H.length 0 (x0::xs').length none,H++[.arr z (x0::xs')]):=rfl
theorem JhX{c:Nat}:K9 z bytes H (.rslc z' els (some c)) (x0::xs')=if z'=z then some (.and (.le (c+1) (els.length+(x0::xs').length)) (JA (els.length+(x0::xs').length) bytes),.slc H.length 0 (els.length+(x0::xs').length) none,H++[.arr z (els++(x0::xs'))]) else none:=rfl
theorem exAppend_slc{id len:Nat}:K9 z bytes H (.slc id off len cap) (x0::xs')=match H[id]? with
   |some (.arr z' els)=>if z'=z/\off+len=els.length then
     match cap with
     |none=>some (JA (len+(x0::xs').length) bytes,.slc H.length 0 (len+(x0::xs').length) none,(H.set id .dead)++[.arr z (els.drop off++(x0::xs'))])
     |some c=>some (.and (.le (c+1) (len+(x0::xs').length)) (JA (len+(x0::xs').length) bytes),.slc H.length 0 (len+(x0::xs').length) none,H++[.arr z (els.drop off++(x0::xs'))])
    else if z'=z/\off+len<=els.length/\cap=none then
     some (JA (len+(x0::xs').length) bytes,.slc H.length 0 (len+(x0::xs').length) none,(H.set id .dead)++[.arr z ((els.take (off+len)).drop off++(x0::xs'))])
    else none
   |_=>none:=rfl
theorem ite_true_eq {α:Type}{a b:α}:(if True then a else b)=a:=if_pos trivial
attribute [go_sem] vrun0_eq v_nil v_blk v_ops_nil v_op v_gop v_skip v_seq v_block v_cond v_ret v_exit v_reg v_loop v_dreg v_rfunc vres_some vres_none Cond.holds true_and and_true Bool.and_true Bool.true_and Bool.and_self if_true if_false ite_true_eq forall_const decide_true decide_false He Bool.not_false Bool.false_and Bool.and_false GM Hg Hf Bool.or_false eq_self reduceCtorEq decide_eq_true_eq decide_eq_false_iff_not Bool.true_eq_false GX false_implies true_implies implies_true not_true_eq_false not_false_eq_true false_and and_false and_self Nat.add_zero G5 Gd Int.toNat_natCast Int.natCast_zero or_false false_or or_true true_or G6 Option.map_none Gp Option.getD_none bne_self_eq_false beq_self_eq_true vcond_true vcond_false vguard_skip vguard_tt vguard_ff vguard_tf vguard_ft vexit_some vexit_none
 JgQ vloopQ_exit vloopQ_ret retQ_ret retQ_normal resAll_tmp resAll_nil resAll_tmp2 resAll_tmp3 resK XC JdE put_some put_none aget_s aget_c exec binI binK exBin JbS Jbn X9 exLen exHi exMx X8 Jfm JfM Jfl JhY JhX exAppend_slc Ym XR X7 CV.cells CV.oneCell Xk splice JhZ JaX QZ isKey cellsEq
 List.getD_cons_zero HV List.set_cons_zero List.set_cons_succ List.getElem?_cons_zero Hr GK List.map_nil H6 H8 GJ List.length_nil Hw List.drop_succ_cons H9 La List.take_nil List.drop_nil List.replicate_succ List.replicate_zero
attribute [go_sem low] vcond_bool vguard_bool
attribute [go_sem_proc] Nat.reduceAdd Nat.reduceSub Nat.reduceMul Nat.reduceLeDiff Nat.reduceEqDiff Nat.reduceLT Nat.reduceBEq Int.reduceToNat Int.reduceAdd Int.reduceSub Int.reduceMul Int.reduceNeg Int.reduceLE Int.reduceLT Int.reduceEq Int.reduceBEq Int.reduceBNe reduceIte
mutual
def CV.closed:CV->Bool
 |.ptr _ _ _=>false
 |.slc _ _ _ _=>false
 |.map _=>false
 |.fn _ l1 l2=>Jk l1 && Jk l2
 |.iface _ c=>c.closed
 |.agg l=>Jk l
 |.tup l=>Jk l
 |_=>true
def Jk:Lu->Bool
 |[]=>true
 |c::cs=>c.closed && Jk cs
end
mutual
theorem Qt {own own':LC}{imm:Nat->Nat->LG}:∀(c:CV) (v:Value),c.closed=true->rel own imm c v->rel own' imm c v
 |.un,_,_,_=>by simp only[rel]
 |.bool _,_,_,h=>by simp only[rel]at h|-;exact h
 |.int _ _,_,_,h=>by simp only[rel]at h|-;exact h
 |.str _,_,_,h=>by simp only[rel]at h|-;exact h
 |.nilp,_,_,h=>by simp only[rel]at h|-;exact h
 |.ptr _ _ _,_,hc,_=>by simp[CV.closed]at hc
 |.rptr _,_,_,h=>by simp only[rel]at h|-;exact h
 |.nils,_,_,h=>by simp only[rel]at h|-;exact h
 |.slc _ _ _ _,_,hc,_=>by simp[CV.closed]at hc
 |.rslc _ _ _,_,_,h=>by simp only[rel]at h|-;exact h
 |.nilm,_,_,h=>by simp only[rel]at h|-;exact h
 |.map _,_,hc,_=>by simp[CV.closed]at hc
 |.fn _ l1 l2,_,hc,h=>by simp only[rel]at h|-;simp only[CV.closed,Ga]at hc;obtain⟨vs1,vs2,e,h1,h2⟩:=h;exact⟨vs1,vs2,e,K5 l1 _ hc.1 h1,K5 l2 _ hc.2 h2⟩
 |.yld _,_,_,h=>by simp only[rel]at h|-;exact h
 |.nilf,_,_,h=>by simp only[rel]at h|-;exact h
 |.iface _ c,_,hc,h=>by simp only[rel]at h|-;simp only[CV.closed]at hc;obtain⟨r,e,h1⟩:=h;exact⟨r,e,Qt c _ hc h1⟩
 |.nili,_,_,h=>by simp only[rel]at h|-;exact h
 |.agg l,_,hc,h=>by simp only[rel]at h|-;simp only[CV.closed]at hc;obtain⟨vs,e,h1⟩:=h;exact⟨vs,e,K5 l _ hc h1⟩
 |.tup l,_,hc,h=>by simp only[rel]at h|-;simp only[CV.closed]at hc;obtain⟨vs,e,h1⟩:=h;exact⟨vs,e,K5 l _ hc h1⟩
theorem K5 {own own':LC}{imm:Nat->Nat->LG}:∀(l:Lu) (vs:LH),Jk l=true->J7 own imm l vs->J7 own' imm l vs
 |[],vs,_,h=>by simp only[J7]at h|-;exact h
 |c::cs,vs,hc,h=>by simp only[J7]at h|-;simp only[Jk,Ga]at hc;obtain⟨r,rs,e,h1,h2⟩:=h;exact⟨r,rs,e,Qt c _ hc.1 h1,K5 cs _ hc.2 h2⟩
end
def Jq:LQ->Bool
 |[]=>true
 |e::es=>Jk e && Jq es
theorem Yy:∀{els:LQ},Jq els=true->∀(j:Nat) e,els[j]? = some e->Jk e=true
 |[],_,j,e,h=>by simp at h
 |x::xs,hc,j,e,h=>by
  simp only[Jq,Ga]at hc
  cases j with
  |zero=>simp at h;subst h;exact hc.1
  |succ j=>exact Yy hc.2 j e (by simpa using h)
theorem YX:∀{l:Lu},Jk l=true->∀(j:Nat) c,l[j]? = some c->c.closed=true
 |[],_,j,e,h=>by simp at h
 |x::xs,hc,j,e,h=>by
  simp only[Jk,Ga]at hc
  cases j with
  |zero=>simp at h;subst h;exact hc.1
  |succ j=>exact YX hc.2 j e (by simpa using h)
mutual
def frz (id z:Nat)(els:LQ):CV->CV
 |.slc j off len cap=>if j=id then(if off+len<=els.length then .rslc z ((els.drop off).take len) none else .un) else .slc j off len cap
 |.ptr j i off=>if j=id then .rptr ((els.getD i []).drop off) else .ptr j i off
 |.fn f l1 l2=>.fn f (JK id z els l1) (JK id z els l2)
 |.iface t c=>.iface t (frz id z els c)
 |.agg l=>.agg (JK id z els l)
 |.tup l=>.tup (JK id z els l)
 |c=>c
def JK (id z:Nat)(els:LQ):Lu->Lu
 |[]=>[]
 |c::cs=>frz id z els c::JK id z els cs
end
def Kn (id z:Nat)(els:LQ):CObj->CObj
 |.arr z' e=>.arr z' (e.map (JK id z els))
 |.map kvs=>.map (kvs.map λp=>(frz id z els p.1,frz id z els p.2))
 |o=>o
theorem Jcc{id:Nat}:∀(l:Lu),(JK id z els l).length=l.length
 |[]=>rfl
 |_::cs=>by simp[JK,Jcc cs]
theorem JhO{id:Nat}:∀(l:Lu) (i:Nat),(JK id z els l)[i]? = (l[i]?).map (frz id z els)
 |[],_=>by simp[JK]
 |c::cs,0=>by simp[JK]
 |c::cs,i+1=>by simp[JK,JhO cs i]
def KC (id z:Nat)(els:LQ)(H:Lv):Lv:=(H.map (Kn id z els)).set id .dead
def JbU (imm:Nat->Nat->LG)(B:Nat)(cells:LJ):Nat->Nat->LG:=λB' i=>if B'=B then cells[i]? else imm B' i
theorem JfJ{imm:Nat->Nat->LG}{R:Nat->LG}(h:relO own imm z els R o)(hc:Jq els=true):XL imm z els R o:=by rw[Qs];intro j e he;refine⟨(h j e he).1,λt c ht=>?_⟩;obtain⟨r,h1,h2⟩:=(h j e he).2 t c ht;exact⟨r,h1,Qt c r (YX (Yy hc j e he) t c ht) h2⟩
theorem relEls_sub {imm:Nat->Nat->LG}{R:Nat->LG}(h:XL imm z els R o)(k n:Nat):XL imm z ((els.drop k).take n) R (o+k*z):=by
 rw[Qs]at h|-;intro j e hj;have Fa:j<n:=by have:=(Gg.1 hj).1;simp at this;omega
 rw[List.getElem?_take_of_lt Fa,HY]at hj;have:=h _ _ hj;rw[Nat.add_mul]at this;refine⟨this.1,λt c hc=>?_⟩;have:=this.2 t c hc;rw[show o+k*z+j*z+t=o+(k*z+j*z)+t by omega];exact this
mutual
theorem frz_rel {own:LC}{imm imm':Nat->Nat->LG}{id z:Nat}{els:LQ}{x:Own}(hi:KJ imm imm')(hx:own[id]? = some x)(hz:x.z=z)(hr:XL imm' z els (imm' x.B) x.o) :
  ∀(c:CV) (v:Value),rel own imm c v->rel own imm' (frz id z els c) v
 |.un,_,_=>by simp only[frz,rel]
 |.bool _,_,h=>by simp only[frz,rel]at h|-;exact h
 |.int _ _,_,h=>by simp only[frz,rel]at h|-;exact h
 |.str _,_,h=>by simp only[frz,rel]at h|-;exact h
 |.nilp,_,h=>by simp only[frz,rel]at h|-;exact h
 |.ptr j i off,v,h=>by
  simp only[frz];by_cases hj:j=id
  ·subst hj;simp only[rel]at h;obtain⟨x',Aw,rfl⟩:=h;rw[hx]at Aw;cases Aw;simp only[if_true,rel];refine⟨x.B,x.o+i*x.z+off,rfl,?_⟩;rw[Jap];intro t c ht;rw[HY]at ht
   cases he:els[i]? with
   |none=>simp[Ha,he]at ht
   |some e=>simp[Ha,he]at ht;obtain⟨r,h1,h2⟩:=((Qs _ _).1 hr i e he).2 _ _ ht;exact⟨r,by rw[hz];rw[show x.o+i*z+off+t=x.o+i*z+(off+t) by omega];exact h1,h2⟩
  ·rw[if_neg hj];exact Xr (KZ.refl _) hi _ _ h
 |.rptr cs,v,h=>by simp only[frz];exact Xr (KZ.refl _) hi _ _ h
 |.nils,_,h=>by simp only[frz,rel]at h|-;exact h
 |.slc j off len cap,v,h=>by
  simp only[frz];by_cases hj:j=id
  ·subst hj;rw[if_pos rfl];by_cases hl:off+len<=els.length
   ·rw[if_pos hl];simp only[rel]at h;obtain⟨x',a,c,Aw,rfl,DV,Bu,ha,Be⟩:=h;rw[hx]at Aw;cases Aw;have Ad:((els.drop off).take len).length=len:=by simp;omega
    simp only[rel];by_cases DF:c=0
    ·subst DF;have:len=0:=om
     subst this;exact .inl ⟨.inl trivial,sM,_,rfl⟩
    ·refine .inr ⟨x.B,x.o+off*x.z,c,by rw[Ad,ha DF],by rw[Ad];exact DV,sM,?_⟩;rw[hz];exact relEls_sub hr off len
   ·rw[if_neg hl];simp only[rel]
  ·rw[if_neg hj];exact Xr (KZ.refl _) hi _ _ h
 |.rslc z' e cap,v,h=>by simp only[frz];exact Xr (KZ.refl _) hi _ _ h
 |.nilm,_,h=>by simp only[frz,rel]at h|-;exact h
 |.map _,_,h=>by simp only[frz,rel]at h|-;exact h
 |.fn f l1 l2,_,h=>by simp only[frz,rel]at h|-;obtain⟨vs1,vs2,e,h1,h2⟩:=h;exact⟨vs1,vs2,e,JcK hi hx hz hr l1 _ h1,JcK hi hx hz hr l2 _ h2⟩
 |.yld _,_,h=>by simp only[frz,rel]at h|-;exact h
 |.nilf,_,h=>by simp only[frz,rel]at h|-;exact h
 |.iface _ c,_,h=>by simp only[frz,rel]at h|-;obtain⟨r,e,h1⟩:=h;exact⟨r,e,frz_rel hi hx hz hr c _ h1⟩
 |.nili,_,h=>by simp only[frz,rel]at h|-;exact h
 |.agg l,_,h=>by simp only[frz,rel]at h|-;obtain⟨vs,e,h1⟩:=h;exact⟨vs,e,JcK hi hx hz hr l _ h1⟩
 |.tup l,_,h=>by simp only[frz,rel]at h|-;obtain⟨vs,e,h1⟩:=h;exact⟨vs,e,JcK hi hx hz hr l _ h1⟩
theorem JcK {own:LC}{imm imm':Nat->Nat->LG}{id z:Nat}{els:LQ}{x:Own}(hi:KJ imm imm')(hx:own[id]? = some x)(hz:x.z=z)(hr:XL imm' z els (imm' x.B) x.o) :
  ∀(l:Lu) (vs:LH),J7 own imm l vs->J7 own imm' (JK id z els l) vs
 |[],vs,h=>by simp only[JK,J7]at h|-;exact h
 |c::cs,vs,h=>by simp only[JK,J7]at h|-;obtain⟨r,rs,e,h1,h2⟩:=h;exact⟨r,rs,e,frz_rel hi hx hz hr c _ h1,JcK hi hx hz hr cs _ h2⟩
end
theorem JbK{id:Nat}(o:CObj):(Kn id z els o).alive=o.alive:=by cases o <;> rfl
theorem JaM{id k:Nat}{o:CObj}(h:(KC id z els H)[k]? = some o):∃o0,H[k]? = some o0/\((k=id/\o=.dead)\/(k≠id/\o=Kn id z els o0)):=by
 simp only[KC,Gw,List.length_map]at h
 split at h
 ·rename_i hk;subst hk
  split at h
  ·rename_i Ab;exact⟨H[id],Gb Ab,.inl ⟨rfl,(Option.some.inj h).symm⟩⟩
  ·cases h
 ·rename_i hk;rw[Gr]at h
  cases hH:H[k]? with
  |none=>simp[hH]at h
  |some o0=>simp[hH]at h;exact⟨o0,rfl,.inr ⟨λe=>hk e.symm,h.symm⟩⟩
theorem relO_frz{imm imm':Nat->Nat->LG}{id:Nat}{es:LQ}{R:Nat->LG}(hf:∀c v,rel own imm c v->rel own imm' (frz id z els c) v)(h:relO own imm zz es R o):relO own imm' zz (es.map (JK id z els)) R o:=by
 intro j e he;rw[Gr]at he
 cases IX:es[j]? with
 |none=>simp[IX]at he
 |some e0=>
  simp[IX]at he;subst he;obtain⟨h1,h2⟩:=h j e0 IX;refine⟨by rw[Jcc];exact h1,λt c hc=>?_⟩;rw[JhO]at hc
  cases ht:e0[t]? with
  |none=>simp[ht]at hc
  |some c0=>simp[ht]at hc;subst hc;obtain⟨r,h3,h4⟩:=h2 t c0 ht;exact⟨r,h3,hf _ _ h4⟩
theorem Sim.freeze{id:Nat}(hs:Sim E m H w)(hH:H[id]? = some (.arr z els))(hc:Jq els=true) :
  ∃imm',Sim E { m with imm:=imm' } (KC id z els H) w/\Ext n0 m H w { m with imm:=imm' } (KC id z els H) w/\∀c v,rel m.own m.imm c v->rel m.own imm' (frz id z els c) v:=by
 have Ab:id<m.own.length:=by rw[hs.len];exact(Gg.1 hH).1
 have hx:m.own[id]? = some m.own[id]:=Gb Ab;generalize m.own[id]=x at hx;obtain⟨hz,cells,elem,hb,BP,Be,AR,Bl⟩:=hs.obj id _ x hH hx;have hi:KJ m.imm (JbU m.imm x.B cells):=by
  intro B i v hv;simp only[JbU]
  split
  ·rename_i hB;subst hB;have:=hs.imm _ i v hv;simpa [World.cell?,hb]using this
  ·exact hv
 have hrel:XL (JbU m.imm x.B cells) z els (JbU m.imm x.B cells x.B) x.o:=by
  have h1:relO m.own (JbU m.imm x.B cells) x.z els (λi=>cells[i]?) x.o:=Ja8 (KZ.refl _) hi AR;have h2:=JfJ h1 hc;rw[hz]at h2;have e:JbU m.imm x.B cells x.B=λi=>cells[i]?:=by funext i;simp[JbU]
  rw[e];exact h2
 have hf:∀c v,rel m.own m.imm c v->rel m.own (JbU m.imm x.B cells) (frz id z els c) v:=frz_rel hi hx hz hrel;have jY:x.B<w.heap.size:=(Gy.1 hb).1;refine⟨JbU m.imm x.B cells,⟨by simp[KC,hs.len],λk o x' hk Aw=>?_,λB i v hv=>?_,λB i v hv=>?_,λk k' o o' x1 x2 h1 h2 Dh Dp Bh Bg hB=>?_,λk o x' hk ha Aw i hi=>?_,λk s b hk=>?_,λk o x' hk ha Aw=>?_,hs.extlt,hs.gl⟩,⟨Gd _,λ_ _ _=>rfl,hi,λB ho=>.inl ?_,λB i v hv=>?_,λ_ _ _ h=>h,λh=>h,rfl,rfl,rfl⟩,hf⟩
 ·obtain⟨o0,h0,hh⟩:=JaM hk;rcases hh with ⟨_,rfl⟩|⟨Ai,rfl⟩
  ·trivial
  ·have:=hs.obj k o0 x' h0 Aw
   cases o0 with
   |arr z' es=>obtain⟨a1,c,el,a2,a3,a4,a5,a6⟩:=this;exact⟨a1,c,el,a2,a3,by simpa using a4,relO_frz hf a5,a6⟩
   |map kvs=>
    obtain⟨es,clock,a1,a2,a3⟩:=this;refine⟨es,clock,a1,by simpa using a2,λi k v e hk he=>?_⟩;rw[Gr]at hk
    cases Ch:kvs[i]? with
    |none=>simp[Ch]at hk
    |some p=>simp[Ch]at hk;obtain⟨rfl,rfl⟩:=hk;have:=a3 i p.1 p.2 e Ch he;exact⟨hf _ _ this.1,hf _ _ this.2⟩
   |dead=>trivial
   |ext s b=>trivial
 ·simp only[JbU]at hv
  split at hv
  ·rename_i hB;subst hB;simpa [World.cell?,hb]using hv
  ·exact hs.imm B i v hv
 ·simp only[JbU]at hv
  split at hv
  ·exact Bl _ v hv
  ·exact hs.one B i v hv
 ·obtain⟨p1,q1,MP⟩:=JaM h1;obtain⟨p2,q2,iI⟩:=JaM h2;rcases MP with ⟨_,rfl⟩|⟨_,rfl⟩
  ·cases Dh
  rcases iI with ⟨_,rfl⟩|⟨_,rfl⟩
  ·cases Dp
  rw[JbK]at Dh Dp;exact hs.sep k k' p1 p2 x1 x2 q1 q2 Dh Dp Bh Bg hB
 ·obtain⟨p1,q1,MP⟩:=JaM hk;rcases MP with ⟨_,rfl⟩|⟨Ai,rfl⟩
  ·cases ha
  rw[JbK]at ha;have bN:x'.B≠x.B:=λe=>Ai (hs.sep k id p1 _ x' x q1 hH ha rfl Aw hx e)
  simp only[JbU,if_neg bN];exact hs.ro k p1 x' q1 ha Aw i hi
 ·obtain⟨p1,q1,MP⟩:=JaM hk;rcases MP with ⟨_,h⟩|⟨Ai,h⟩
  ·cases h
  have:p1=.ext s b:=by cases p1 <;> simp[Kn]at h;simp[h]
  subst this;refine E.stable _ _ _ _ _ _ _ (hs.ext k s b q1) (λ_ _=>rfl) (Gd _) hi (λB i v hv=>?_) (λB i v hv=>?_) (λB i v hv=>?_)
  ·simp only[JbU]at hv
   split at hv
   ·rename_i hB;subst hB;exact .inr λhb=>hs.extsep id _ x hH rfl hx (.inl hb)
   ·exact .inl hv
  ·simp only[JbU]at hv
   split at hv
   ·rename_i hB;subst hB;simpa [World.cell?,hb]using hv
   ·exact hs.imm B i v hv
  ·simp only[JbU]at hv
   split at hv
   ·exact Bl _ v hv
   ·exact hs.one B i v hv
 ·obtain⟨p1,q1,MP⟩:=JaM hk;rcases MP with ⟨_,rfl⟩|⟨Ai,rfl⟩
  ·cases ha
  rw[JbK]at ha;exact hs.extsep k p1 x' q1 ha Aw
 ·rcases ho with h|⟨k,o,x',hk,ha,Aw,hB⟩
  ·exact .inl h
  ·obtain⟨p1,q1,MP⟩:=JaM hk;rcases MP with ⟨_,rfl⟩|⟨Ai,rfl⟩
   ·cases ha
   rw[JbK]at ha;exact .inr ⟨k,p1,x',q1,ha,Aw,hB⟩
 ·simp only[JbU]at hv
  split at hv
  ·rename_i hB;subst hB;exact .inr (.inl (.inr ⟨id,_,x,hH,rfl,hx,rfl⟩))
  ·exact .inl hv
theorem ok_freeze{id:Nat}(hH:H[id]? = some (.arr z els))(hc:Jq els=true)(h:Ok P E n0 N Q k (JK id z els T) (KC id z els H)):Ok P E n0 N Q k T H:=by
 intro m w a b cs kr rest hp hd hk;obtain⟨imm',hs,he,hf⟩:=Sim.freeze (n0:=n0) hp.sim hH hc;have hT:J7 m.own imm' (JK id z els T) a.tmps.toList:=by
  have ht:=hp.tmps;rw[XK]at ht|-;refine⟨by rw[Jcc];exact ht.1,λi c v C8 hv=>?_⟩;rw[JhO]at C8
  cases bi:T[i]? with
  |none=>simp[bi]at C8
  |some c0=>simp[bi]at C8;subst C8;exact hf _ _ (ht.2 i c0 v bi hv)
 exact Reach.step (.refl _ _) he (h { m with imm:=imm' } w a b cs kr rest ⟨hs,hT,by simpa [KC]using hp.long⟩ (hd.ext he) hk)
theorem CallsC.freeze{args:Lu}(h:CallsC P E f args H R)(hR:∀v H',R v H'->∃id z els,H'[id]? = some (.arr z els)/\Jq els=true/\R' (frz id z els v) (KC id z els H')):CallsC P E f args H R':=by intro m w vs hs hv;refine(h m w vs hs hv).mono ?_;rintro e w' ⟨r,m',v,H',h1,h2,h3,h4,h5⟩;obtain⟨id,z,els,g1,g2,g3⟩:=hR _ _ h5;obtain⟨imm',AB,he,hf⟩:=Sim.freeze (n0:=H.length) h3 g1 g2;exact⟨r,_,_,_,h1,h2.trans he,AB,hf _ _ h4,g3⟩
theorem Sim.back{w':World}{m':Bk}(hs:Sim E m H w)(Af:Ext n0 { own:=[],imm:=m.imm,ext:=λ_=>False } [] w m' H' w')(AB:Sim Env.none m' H' w') :
  Sim E { m with imm:=m'.imm } H w'/\∀n1,Ext n1 m H w { m with imm:=m'.imm } H w':=by
 have Cc:∀B,¬owned { own:=[],imm:=m.imm,ext:=λ_=>False } [] B:=by
  rintro B (h|⟨k,o,x,hk,_⟩)
  ·exact h
  ·simp at hk
 have IU:∀B,B<w.heap.size->w'.heap[B]? = w.heap[B]?:=λB hB=>Af.frame B hB (Cc B)
 have hi:KJ m.imm m'.imm:=Af.imm;have DU:∀B i v,m'.imm B i=some v->m.imm B i=some v\/w.heap.size<=B:=λB i v hv=>by
  rcases Af.newImm B i v hv with h|h|h
  ·exact .inl h
  ·exact absurd h (Cc B)
  ·exact .inr h
 refine⟨⟨hs.len,λk o x hk hx=>?_,AB.imm,AB.one,hs.sep,λk o x hk Am hx i Dq=>?_,λk s b hk=>?_,hs.extsep,λB hB=>Gt (hs.extlt B hB) Af.size,AB.gl.1,hs.gl.2⟩,λn1=>⟨Af.size,λB hB _=>IU B hB,hi,λB ho=>.inl ho,λB i v hv=>?_,λ_ _ _ h=>h,λh=>h,Af.same⟩⟩
 ·by_cases Am:o.alive=true
  ·exact KO (KZ.refl _) hi (λ_=>IU _ (Yq hs hk Am hx)) (hs.obj k o x hk hx)
  ·cases o <;> simp[CObj.alive]at Am <;> trivial
 ·cases hv:m'.imm x.B i with
  |none=>rfl
  |some v=>
   rcases DU _ _ _ hv with h|h
   ·rw[hs.ro k o x hk Am hx i Dq]at h;cases h
   ·have:=Yq hs hk Am hx;omega
 ·exact E.stable _ _ _ _ _ _ _ (hs.ext k s b hk) (λB hB=>IU B (hs.extlt B hB)) Af.size hi (λB i v hv=>by
   rcases DU B i v hv with h|h
   ·exact .inl h
   ·exact .inr λhb=>by have:=hs.extlt B (.inl hb);omega) AB.imm AB.one
 ·rcases DU B i v hv with h|h
  ·exact .inl h
  ·exact .inr (.inr h)
theorem Sim.nothing(hs:Sim E m H w):Sim Env.none { own:=[],imm:=m.imm,ext:=λ_=>False } [] w:=⟨rfl,sM,hs.imm,hs.one,sM,sM,sM,sM,λB h=>hs.gl.1.lt (h.resolve_left id),hs.gl.1,sM⟩
theorem CallsC.frame{args:Lu}{R':CV->Prop}(h:CallsC P Env.none f args [] R)(ha:Jk args=true)(hR:∀v H',R v H'->v.closed=true/\R' v):CallsC P E f args H λv H'=>R' v/\H'=H:=by intro m w vs hs hv;refine(h _ w vs hs.nothing (K5 _ _ ha hv)).mono ?_;rintro e w' ⟨r,m',v,H',rfl,Af,AB,hrel,SN⟩;obtain⟨Az,jl⟩:=hR _ _ SN;obtain⟨h1,h2⟩:=hs.back Af AB;exact⟨r,{ m with imm:=m'.imm },v,H,rfl,h2 _,h1,Qt v r Az hrel,jl,rfl⟩
def Fn (P:Program)(f:Nat)(args:Lu)(v:CV):Prop:=∀(E:Env) (H:Lv),Pure P E f args H v
theorem JhQ{args:Lu}(h:CallsC P Env.none f args [] λv' _=>v'=v)(ha:Jk args=true)(hv:v.closed=true):Fn P f args v:=λE H=>h.frame ha λv' _ Pq=>by subst Pq;exact⟨hv,rfl⟩
theorem Jb{args:Lu}(hF:Jd P f=some F)(ha:Jk args=true)(hv:v.closed=true)(h:∀n,vrun0 P Env.none 0 ⟨n,false⟩ (retQ F.results λv' _=>v'=v) [.code F.body] (args++GH (F.ntmps-args.length) .un) []):Fn P f args v:=JhQ (Ki hF h) ha hv
theorem JU(Ah:Fn P f (as.map (Kg T)) v)(h:KD P E n0 N Q (.ops l::k) (put T d v) H):Ok P E n0 N Q (.ops (⟨d,.call f as,none⟩::l)::k) T H:=JaZ (Ah E H) h
theorem Ka(hg:GOk T g)(Ah:Fn P f (as.map (Kg T)) v)(h:KD P E n0 N Q (.ops l::k) (put T d v) H):Ok P E n0 N Q (.ops (⟨d,.call f as,g⟩::l)::k) T H:=vr_pureg hg (Ah E H) h
def IArg.rd:IArg->LB
 |.s n=>[n]
 |.c _=>[]
def rdL:LP->LB
 |[]=>[]
 |x::l=>x.rd++rdL l
def rdO:Option IArg->LB
 |none=>[]
 |some x=>x.rd
def rdP:List (Nat×Nat×IArg)->LB
 |[]=>[]
 |(_,_,x)::l=>x.rd++rdP l
def rdE:List (Nat×IArg)->LB
 |[]=>[]
 |(_,x)::l=>x.rd++rdE l
def IOp.rd:IOp->LB
 |.mv a=>a.rd
 |.pick c a b=>c.rd++(a.rd++b.rd)
 |.alloc _=>[]
 |.box a=>a.rd
 |.build _ ps=>rdP ps
 |.bslice _ _ _ ps=>rdE ps
 |.load _ _ a=>a.rd
 |.store _ a v=>a.rd++v.rd
 |.bin _ _ x y=>x.rd++y.rd
 |.eqs _ _ x y=>x.rd++y.rd
 |.not x=>x.rd
 |.neg x=>x.rd
 |.conv _ x=>x.rd
 |.mkfn _ l1 l2=>rdL l1++rdL l2
 |.mkmap=>[]
 |.mkslice _ _ _ l c=>l.rd++c.rd
 |.slice _ x lo hi mx=>x.rd++(rdO lo++(rdO hi++rdO mx))
 |.faddr _ x=>x.rd
 |.field _ _ _ x=>x.rd
 |.iaddr _ x i=>x.rd++i.rd
 |.indexS x i=>x.rd++i.rd
 |.lookup _ _ _ m k=>m.rd++k.rd
 |.mapset _ m k v=>m.rd++(k.rd++v.rd)
 |.len _ x=>x.rd
 |.append _ _ s x=>s.rd++x.rd
 |.clear _ x=>x.rd
 |.extract x _=>x.rd
 |.nchk x=>x.rd
 |.sliceS x lo hi=>x.rd++(rdO lo++rdO hi)
 |.mmx _ x y=>x.rd++y.rd
 |.copy _ x y=>x.rd++y.rd
 |.call _ as=>rdL as
 |.callv x as=>x.rd++rdL as
def agree (l:LB)(T T':Lu):Prop:=∀s∈l,T.getD s .un=T'.getD s .un
theorem Jj {a b:LB}(h:agree (a++b) T T'):agree a T T'/\agree b T T':=⟨λs hs=>h s (by simp[hs]),λs hs=>h s (by simp[hs])⟩
theorem Jy(h:agree x.rd T T'):Kg T x=Kg T' x:=by
 cases x with
 |s n=>exact h n (by simp[IArg.rd])
 |c v=>rfl
theorem Xi:∀{l:LP},agree (rdL l) T T'->l.map (Kg T)=l.map (Kg T')
 |[],_=>rfl
 |x::l,h=>by simp only[rdL]at h;simp only[GK,Jy (Jj h).1,Xi (Jj h).2]
theorem Jbv:∀{ps:List (Nat×Nat×IArg)}{c:Lu},agree (rdP ps) T T'->XR T c ps=XR T' c ps
 |[],_,_=>rfl
 |(off,n,x)::ps,c,h=>by
  simp only[rdP]at h;simp only[XR,Jy (Jj h).1]
  split
  ·rfl
  ·split
   ·exact Jbv (Jj h).2
   ·rfl
theorem Jc1:∀{ps:List (Nat×IArg)}{c:LQ},agree (rdE ps) T T'->X7 T z c ps=X7 T' z c ps
 |[],_,_=>rfl
 |(i,x)::ps,c,h=>by
  simp only[rdE]at h;simp only[X7,Jy (Jj h).1]
  split
  ·rfl
  ·split
   ·exact Jc1 (Jj h).2
   ·rfl
theorem Jcl {d:Int}{x:Option IArg}(h:agree (rdO x) T T'):X9 T d x=X9 T' d x:=by
 cases x with
 |none=>rfl
 |some x=>simp only[X9,Jy (T:=T) (T':=T') (x:=x) h]
theorem agree_hi{x:Option IArg}(h:agree (rdO x) T T'):exHi T v x=exHi T' v x:=by
 cases x with
 |none=>rfl
 |some x=>simp only[exHi,Jy (T:=T) (T':=T') (x:=x) h]
theorem agree_mx {x:Option IArg}(h:agree (rdO x) T T'):exMx T x=exMx T' x:=by
 cases x with
 |none=>rfl
 |some x=>simp only[exMx,Jy (T:=T) (T':=T') (x:=x) h]
theorem QG(h:agree op.rd T T'):exec op T H=exec op T' H:=by
 cases op <;> simp only[IOp.rd]at h <;> simp only[exec]
 case mv a=>rw[Jy h]
 case pick c a b=>rw[Jy (Jj h).1,Jy (Jj (Jj h).2).1,Jy (Jj (Jj h).2).2]
 case box a=>rw[Jy h]
 case build z ps=>rw[Jbv h]
 case bslice z n zero ps=>rw[Jc1 h]
 case load=>rw[Jy h]
 case store=>rw[Jy (Jj h).1,Jy (Jj h).2]
 case bin=>rw[Jy (Jj h).1,Jy (Jj h).2]
 case eqs=>rw[Jy (Jj h).1,Jy (Jj h).2]
 case not=>rw[Jy h]
 case neg=>rw[Jy h]
 case conv=>rw[Jy h]
 case mkfn=>rw[Xi (Jj h).1,Xi (Jj h).2]
 case mkslice=>rw[Jy (Jj h).1,Jy (Jj h).2]
 case slice=>rw[Jy (Jj h).1,Jcl (Jj (Jj h).2).1,agree_hi (Jj (Jj (Jj h).2).2).1,agree_mx (Jj (Jj (Jj h).2).2).2]
 case faddr=>rw[Jy h]
 case field=>rw[Jy h]
 case iaddr=>rw[Jy (Jj h).1,Jy (Jj h).2]
 case indexS=>rw[Jy (Jj h).1,Jy (Jj h).2]
 case lookup=>rw[Jy (Jj h).1,Jy (Jj h).2]
 case mapset=>rw[Jy (Jj h).1,Jy (Jj (Jj h).2).1,Jy (Jj (Jj h).2).2]
 case len=>rw[Jy h]
 case append=>rw[Jy (Jj h).1,Jy (Jj h).2]
 case clear=>rw[Jy h]
 case extract=>rw[Jy h]
 case nchk=>rw[Jy h]
 case sliceS x lo hi=>
  rw[Jy (Jj h).1]
  split
  ·rw[Jcl (Jj (Jj h).2).1,Jcl (Jj (Jj h).2).2]
  ·rfl
 case mmx=>rw[Jy (Jj h).1,Jy (Jj h).2]
 case copy=>rw[Jy (Jj h).1,Jy (Jj h).2]
def FV (op:IOp)(T:Lu)(v:CV):Prop:=Jk (op.rd.map λs=>T.getD s .un)=true/\v.closed=true/\∃c v0 H0 id z els,exec op T []=some (c,v0,H0)/\c.holds/\H0[id]? = some (.arr z els)/\Jq els=true/\v=frz id z els v0
theorem FV.congr(h:agree op.rd T T')(hv:FV op T v):FV op T' v:=by
 obtain⟨h1,h2,c,v0,H0,id,z,els,h3,h4⟩:=hv;refine⟨?_,h2,c,v0,H0,id,z,els,by rw[<-QG h];exact h3,h4⟩;rw[<-h1]
 congr 1
 exact Hz λs hs=>(h s hs).symm
def IOper.rd (io:IOper):LB:=(match io.guard with|some (g,_)=>[g]|none=>[])++io.op.rd
section
variable (P:Program)(E:Env)
def Val (io:IOper)(T:Lu)(H:Lv)(v:CV):Prop:=
 (∃g want,io.guard=some (g,want)/\(T.getD g .un=.bool (!want)\/T.getD g .un=.tup [])/\v=.tup [])\/
 (GOk T io.guard/\((∃c,exec io.op T H=some (c,v,H)/\c.holds)\/(∃f as,io.op=.call f as/\Pure P E f (as.map (Kg T)) H v)\/FV io.op T v))
end
section
variable{io:IOper}
theorem Val.congr (h:agree io.rd T T')(hv:Val P E io T H v):Val P E io T' H v:=by
 obtain⟨d,op,g⟩:=io;have hg:=(Jj h).1;have ho:=(Jj h).2;rcases hv with ⟨s,want,h1,h2,h3⟩|⟨h1,h2⟩
 ·simp only at h1;subst h1;exact .inl ⟨s,want,rfl,by rw[<-hg s sM];exact h2,h3⟩
 ·refine .inr ⟨?_,?_⟩
  ·rcases h1 with h1|⟨s,want,h1,h4⟩
   ·exact .inl h1
   ·simp only at h1;subst h1;exact .inr ⟨s,want,rfl,by rw[<-hg s sM];exact h4⟩
  ·rcases h2 with ⟨c,h5,h6⟩|⟨f,as,h5,h6⟩|h5
   ·exact .inl ⟨c,by rw[<-QG ho];exact h5,h6⟩
   ·simp only at h5;subst h5;exact .inr (.inl ⟨f,as,rfl,by rw[<-Xi ho];exact h6⟩)
   ·exact .inr (.inr (h5.congr ho))
def Jcy (rd:LB)(T:Lu):Nat->Lu
 |0=>[]
 |n+1=>Jcy rd T n++[if rd.contains n then T.getD n .un else .un]
theorem X5 (rd:LB)(T:Lu):∀n,(Jcy rd T n).length=n
 |0=>rfl
 |n+1=>by simp[Jcy,X5 rd T n]
theorem Jdk (rd:LB)(T:Lu):∀n i,i<n->(Jcy rd T n)[i]? = some (if rd.contains i then T.getD i .un else .un)
 |n+1,i,h=>by
  rw[Jcy];by_cases hi:i<n
  ·rw[Gv (by rw[X5];exact hi)];exact Jdk rd T n i hi
  ·have:i=n:=om
   subst this;rw[Gq (by rw[X5];exact Gd _),X5,Nat.sub_self];rfl
theorem onlyAt_agree (rd:LB)(T:Lu):agree rd T (Jcy rd T T.length):=by
 intro s hs;by_cases h:s<T.length
 ·have h1:=Jdk rd T T.length s h;have h2:rd.contains s=true:=by simpa using hs
  rw[h2,if_pos rfl]at h1;simp only[Gc,h1,Gp]
 ·have h1:(Jcy rd T T.length)[s]? = none:=Gh (by rw[X5];omega);have h2:T[s]? = none:=Gh om;simp only[Gc,h1,h2]
theorem onlyAt_rels {rd:LB}{T:Lu}{vs:LH}{imm:Nat->Nat->LG}(hc:Jk (rd.map λs=>T.getD s .un)=true)(h:J7 own imm T vs):J7 own' imm (Jcy rd T T.length) vs:=by
 rw[XK]at h|-;refine⟨by rw[X5];exact h.1,λi c v C8 hv=>?_⟩;have hi:i<T.length:=by have:=(Gg.1 C8).1;rwa [X5]at this
 rw[Jdk rd T _ i hi]at C8
 cases C8
 by_cases hm:rd.contains i=true
 ·rw[if_pos hm];refine Qt _ _ ?_ (h.2 i _ v (by rw[Gb hi,Gc,Gb hi];rfl) hv);have Ay:i∈rd:=by simpa using hm
  obtain⟨j,hj⟩:=List.getElem?_of_mem (Hy (f:=λs=>T.getD s .un) Ay);exact YX hc j _ hj
 ·rw[if_neg hm];simp only[rel]
theorem ok_fv(hg:GOk T g)(hv:FV op T v)(h:Ok P E n0 N Q (.ops l::k) (put T d v) H):Ok P E n0 N Q (.ops (⟨d,op,g⟩::l)::k) T H:=by obtain⟨Az,fI,c,v0,H0,id,z,els,he,hc,hH,aW,fH⟩:=hv;intro m w a b cs kr rest hp hd hk;obtain⟨ops,i,is,kr',o,rfl,ho,FN,AC⟩:=JbG hk;obtain⟨hw,BR,Bc⟩:=JaY FN hg hp.tmps;have gX:Pre Env.none 0 { own:=[],imm:=m.imm,ext:=λ_=>False } [] w (Jcy op.rd T T.length) a:=⟨hp.sim.nothing,onlyAt_rels Az hp.tmps,GA _⟩;obtain⟨m1,w1,r,nx,Ak,Dt,Af,C9,hrel,_⟩:=JgC Bc (by rw[<-QG (onlyAt_agree op.rd T)];exact he) hc gX;obtain⟨imm',AB,BZ,hf⟩:=Sim.freeze (n0:=0) C9 hH aW;obtain⟨g1,g2⟩:=hp.sim.back (Af.trans BZ) AB;have hr:=Qt (own':=m.own) v r fI (by rw[fH];exact hf _ _ hrel);have Al:=Jc9 (b:=b) (cs:=cs) (is:=is) (kr:=kr'++rest) ho hw (semAt_plain Bc) Ak Dt;rw[BR]at Al;refine Reach.step (.one Al) (g2 n0) (h _ w1 _ b cs (.inRegion ops is::kr') rest (Jdg g1 (KY (KZ.refl _) (Af.trans BZ).imm _ _ hp.tmps) hp.long hr) ?_ AC);rw[put_defers];exact hd.ext (g2 n0)
theorem Val.ok(hv:Val P E io T H v)(h:Ok P E n0 N Q (.ops l::k) (put T io.dst v) H):Ok P E n0 N Q (.ops (io::l)::k) T H:=by
 obtain⟨d,op,g⟩:=io;rcases hv with ⟨s,want,h1,h2,h3⟩|⟨h1,h2⟩
 ·subst h3;exact JeX h1 h2 h
 ·rcases h2 with ⟨c,h5,h6⟩|⟨f,as,h5,h6⟩|h5
  ·exact JeY h1 h5 h6 h
  ·simp only at h5;subst h5;exact Jdl h1 h6 λv' H' ⟨hv,hH⟩=>by rw[hv,hH];exact h
  ·exact ok_fv h1 h5 h
end
def Q6 (l:LD)(i:Nat):IOper:=l.getD i ⟨none,.mv (.c .un),none⟩
inductive Sched (n:Nat)(es:List LB):(Nat->Bool)->LB->Prop
 |nil {S:Nat->Bool}:(∀i,i<n->S i=false->∃e∈es.getD i [],S e=false)->Sched n es S []
 |cons {S:Nat->Bool} {i:Nat} {is:LB}:i<n->S i=false->(∀e∈es.getD i [],S e=true)->Sched n es (λj=>S j || j == i) is->Sched n es S (i::is)
theorem edges_get {ops:Array Oper}{o:Oper}(h:ops[i]? = some o):(ops.toList.map Jbo).getD i []=Jbo o:=by
 have:ops.toList[i]? = some o:=by simpa using h
 simp[Ha,this]
theorem JeS {o:Oper}{listed:Array Bool}:(o.after.all λe=>!Region.binds .any e || listed.getD e.on false)=true↔∀e∈Jbo o,listed.getD e false=true:=by
 rw[Array.all_eq_true_iff_forall_mem];unfold Jbo
 constructor
 ·intro h e he;simp only[GL,G9]at he;obtain⟨x,⟨h1,h2⟩,rfl⟩:=he;have:=h x (by simpa using h1);simpa [h2]using this
 ·intro h x hx;by_cases hb:Region.binds .any x=true
  ·have:=h x.on (by simp only[GL,G9];exact⟨x,⟨by simpa using hx,hb⟩,rfl⟩);simpa [hb]using this
  ·simp[hb]
theorem listed_set {listed:Array Bool}(hi:i<listed.size):(λj=>(listed.setIfInBounds i true).getD j false)=λj=>listed.getD j false || j == i:=by
 funext j
 simp only[Gs,Array.getElem?_setIfInBounds];by_cases h:i=j
 ·subst h;simp[hi]
 ·have:(j == i)=false:=by simpa using λe=>h e.symm
  simp[h,this]
theorem Jg9 (ops:Array Oper):∀(fuel t:Nat) (listed:Array Bool),listed.size=ops.size->listed.toList.count false<=fuel->
  Sched ops.size (ops.toList.map Jbo) (λi=>listed.getD i false) (Region.linearise.go .any ops fuel t listed []):=by
 intro fuel
 induction fuel with
 |zero=>
  intro t listed hs hc;simp only[Region.linearise.go,H5];refine .nil λi hi hS=>?_
  have Ab:i<listed.size:=om
  have:listed.toList.count false=0:=om
  rw[List.count_eq_zero]at this;have hm:listed[i]∈listed.toList:=sM
  have:listed[i]≠false:=λe=>this (e▸hm)
  simp only[Gs,Gf Ab,Gp]at hS;exact absurd hS this
 |succ fuel ih=>
  intro t listed hs hc;simp only[Region.linearise.go];generalize Cz:(Gi ops.size).filter (λi=>!listed.getD i true && ((ops[i]?).map (·.after.all λe=>!Region.binds .any e || listed.getD e.on false)).getD false)=rs;have Ay:∀i,i∈rs↔i<ops.size/\listed.getD i false=false/\∀e∈(ops.toList.map Jbo).getD i [],listed.getD e false=true:=by
   intro i;rw[<-Cz,G9,Gx]
   constructor
   ·rintro⟨h1,h2⟩;simp only[Ga,GY]at h2;have ho:ops[i]? = some ops[i]:=Gf h1;have hl:listed[i]? = some (listed[i]' om):=Gf om;refine⟨h1,?_,?_⟩
    ·have:=h2.1;simp only[Gs,hl,Gp]at this|-;exact this
    ·rw[edges_get ho];have:=h2.2;simp only[ho,G6,Gp]at this;exact JeS.1 this
   ·rintro⟨h1,h2,h3⟩;have ho:ops[i]? = some ops[i]:=Gf h1;have hl:listed[i]? = some (listed[i]' om):=Gf om;refine⟨h1,?_⟩;simp only[Ga,GY];refine⟨?_,?_⟩
    ·simp only[Gs,hl,Gp]at h2|-;exact h2
    ·simp only[ho,G6,Gp];rw[edges_get ho]at h3;exact JeS.2 h3
  cases hi:rs[t % rs.length]? with
  |none=>
   have AY:rs=[]:=by
    cases hr:rs with
    |nil=>rfl
    |cons x xs=>
     rw[hr]at hi;have Ab:t % (x::xs).length<(x::xs).length:=Nat.mod_lt _ sM;rw[Gb Ab]at hi
     cases hi
   simp only[H5];refine .nil λi hi hS=>?_
   refine Ld λhn=>?_
   have:i∈rs:=(Ay i).2 ⟨hi,hS,λe he=>by
    cases h:listed.getD e false with
    |true=>rfl
    |false=>exact absurd ⟨e,he,h⟩ hn⟩
   rw[AY]at this;cases this
  |some i=>
   simp only;rw[linearise_go_acc,List.reverse_singleton,List.singleton_append];obtain⟨h1,h2,h3⟩:=(Ay i).1 (Gl hi);refine .cons h1 h2 h3 ?_;have Ab:i<listed.size:=om
   have:=ih (t / rs.length) (listed.setIfInBounds i true) (by simpa using hs) (by
    have Eo:=List.count_set (a:=true) (b:=false) (l:=listed.toList) (i:=i) (by simpa using Ab);simp only[Lc,Eo];have:listed.toList[i]'(by simpa using Ab)=false:=by simp only[Gs,Gf Ab,Gp]at h2;simpa using h2
    have e1:(listed.toList[i]'(by simpa using Ab) == false)=true:=by rw[this];rfl
    have e2:(true == false)=false:=rfl;have e3:listed.toList.count false<=fuel+1:=hc;rw[if_pos e1,e2];simp only[GX,if_false];omega)
   rwa [listed_set Ab]at this
def tst (l:LD)(v:Nat->CV)(T:Lu):Nat->Lu
 |0=>T
 |j+1=>put (tst l v T j) (Q6 l j).dst (v j)
def ordered (l:LD)(es:List LB):Bool:=
 (Gi l.length).all λj=>(es.getD j []).all (λe=>e<j) && (Gi l.length).all λi=>i == j || match (Q6 l i).dst with
  |none=>true
  |some s=>!((Q6 l j).dst == some s) && (!((Q6 l j).rd.contains s) || (es.getD j []).contains i || (es.getD i []).contains j)
structure Ordered (l:LD)(es:List LB):Prop where
 lt:∀j,j<l.length->∀e∈es.getD j [],e<j
 uniq:∀i j s,i<l.length->j<l.length->(Q6 l i).dst=some s->(Q6 l j).dst=some s->i=j
 ord:∀i j s,i<l.length->j<l.length->i≠j->(Q6 l i).dst=some s->s∈(Q6 l j).rd->i∈es.getD j []\/j∈es.getD i []
theorem Jcx(h:ordered l es=true):Ordered l es:=by
 simp only[ordered,GG,Gx,Ga,decide_eq_true_eq]at h;refine⟨λj hj=>(h j hj).1,λi j s hi hj h1 h2=>?_,λi j s hi hj Ai h1 h2=>?_⟩
 ·have:=(h j hj).2 i hi;rw[h1]at this;by_cases he:i=j
  ·exact he
  ·simp[he,h2]at this
 ·have:=(h j hj).2 i hi;rw[h1]at this;simp only[Gz,beq_iff_eq,Ai,false_or,Ga,GQ,GY]at this;rcases this.2 with (h3|h3)|h3
  ·have:=GQ.2 h2;rw[this]at h3;cases h3
  ·exact .inl h3
  ·exact .inr h3
theorem Jf7:(put T d v).length=T.length:=by cases d <;> simp[put]
theorem Jam{v:Nat->CV}:∀j,(tst l v T j).length=T.length
 |0=>rfl
 |j+1=>by rw[tst,Jf7,Jam j]
theorem Jd7{s:Nat}:(put T d v).getD s .un=if d=some s/\s<T.length then v else T.getD s .un:=by
 cases d with
 |none=>simp[put]
 |some d=>
  simp only[put,Gc,Gw,GV];by_cases h:d=s
  ·subst h;by_cases hl:d<T.length <;> simp[hl]
  ·simp[h]
theorem Ja2{v:Nat->CV}{s:Nat}:∀j,(∀i,i<j->(Q6 l i).dst≠some s)->(tst l v T j).getD s .un=T.getD s .un
 |0,_=>rfl
 |j+1,h=>by rw[tst,Jd7,if_neg (λhh=>h j (GN j) hh.1)];exact Ja2 j λi hi=>h i (Hl hi)
theorem tst_at{v:Nat->CV}{s:Nat}(hd:(Q6 l i).dst=some s)(hs:s<T.length):∀j,i<j->(∀i',i' < j->(Q6 l i').dst=some s->i'=i)->(tst l v T j).getD s .un=v i
 |0,h,_=>om
 |j+1,h,hu=>by
  rw[tst,Jd7,Jam];by_cases hj:(Q6 l j).dst=some s
  ·have:=hu j (GN j) hj;subst this;rw[if_pos ⟨hj,hs⟩]
  ·rw[if_neg (λhh=>hj hh.1)];have:i≠j:=λe=>hj (e▸hd)
   exact tst_at hd hs j om λi' Dc=>hu i' (Hl Dc)
structure At (l:LD)(v:Nat->CV)(T:Lu)(S:Nat->Bool)(T':Lu):Prop where
 len:T'.length=T.length
 out:∀s,(∀i,i<l.length->S i=true->(Q6 l i).dst≠some s)->T'.getD s .un=T.getD s .un
 inn:∀i s,i<l.length->S i=true->(Q6 l i).dst=some s->s<T.length->T'.getD s .un=v i
section
variable{v:Nat->CV}
theorem At.agree (ho:Ordered l es){S:Nat->Bool}(hA:At l v T S T')(Az:∀i,i<l.length->S i=true->∀e∈es.getD i [],S e=true){j:Nat}(hj:j<l.length)(hS:S j=false)(hr:∀e∈es.getD j [],S e=true):agree (Q6 l j).rd (tst l v T j) T':=by
 intro s hs;by_cases Ab:s<T.length
 ·by_cases Fj:∃i,i<l.length/\(Q6 l i).dst=some s
  ·obtain⟨i,hi,hd⟩:=Fj;have hu:∀i',i' < l.length->(Q6 l i').dst=some s->i'=i:=λi' Dc DD=>ho.uniq i' i s Dc hi DD hd
   rcases Nat.lt_trichotomy i j with h|h|h
   ·have AQ:i∈es.getD j []:=by
     rcases ho.ord i j s hi hj om hd hs with h1|h1
     ·exact h1
     ·have:=ho.lt i hi j h1;omega
    rw[hA.inn i s hi (hr i AQ) hd Ab];exact tst_at hd Ab j h λi' Dc DD=>hu i' om DD
   ·subst h;rw[hA.out s λi' Dc UF DD=>by have:=hu i' Dc DD;subst this;rw[hS]at UF;cases UF];exact Ja2 i λi' Dc DD=>by have:=hu i' om DD;omega
   ·have AQ:j∈es.getD i []:=by
     rcases ho.ord i j s hi hj om hd hs with h1|h1
     ·have:=ho.lt j hj i h1;omega
     ·exact h1
    rw[hA.out s λi' Dc UF DD=>by have:=hu i' Dc DD;subst this;have:=Az i' Dc UF j AQ;rw[hS]at this;cases this]
    exact Ja2 j λi' Dc DD=>by have:=hu i' om DD;omega
  ·rw[hA.out s λi hi _ hd=>Fj ⟨i,hi,hd⟩];exact Ja2 j λi hi hd=>Fj ⟨i,om,hd⟩
 ·have e1:(tst l v T j).getD s .un=.un:=by rw[Gc,Gh (by rw[Jam];omega)];rfl
  have e2:T'.getD s .un=.un:=by rw[Gc,Gh (by rw[hA.len];omega)];rfl
  rw[e1,e2]
theorem At.step (ho:Ordered l es){S:Nat->Bool}(hA:At l v T S T'){j:Nat}(hj:j<l.length)(hS:S j=false):At l v T (λi=>S i || i == j) (put T' (Q6 l j).dst (v j)):=by
 refine⟨by rw[Jf7,hA.len],λs hs=>?_,λi s hi EO hd Ab=>?_⟩
 ·rw[Jd7,if_neg (λhh=>hs j hj sM hh.1)];exact hA.out s λi hi EO=>hs i hi (by simp[EO])
 ·rw[Jd7,hA.len];by_cases Cv:i=j
  ·subst Cv;rw[if_pos ⟨hd,Ab⟩]
  ·rw[if_neg λhh=>Cv (ho.uniq i j s hi hj hd hh.1)];have:S i=true:=by simpa [Cv]using EO
   exact hA.inn i s hi this hd Ab
theorem At.all (ho:Ordered l es){S:Nat->Bool}(hA:At l v T S T')(hS:∀i,i<l.length->S i=true):T'=tst l v T l.length:=by
 apply GD;intro s;by_cases Ab:s<T.length
 ·have key:T'.getD s .un=(tst l v T l.length).getD s .un:=by
   by_cases Fj:∃i,i<l.length/\(Q6 l i).dst=some s
   ·obtain⟨i,hi,hd⟩:=Fj;rw[hA.inn i s hi (hS i hi) hd Ab];exact(tst_at hd Ab _ hi λi' Dc DD=>ho.uniq i' i s Dc hi DD hd).symm
   ·rw[hA.out s λi hi _ hd=>Fj ⟨i,hi,hd⟩];exact(Ja2 _ λi hi hd=>Fj ⟨i,hi,hd⟩).symm
  have h1:s<T'.length:=by rw[hA.len];exact Ab
  have h2:s<(tst l v T l.length).length:=by rw[Jam];exact Ab
  rw[Gb h1,Gb h2];simpa [Gc,Gb h1,Gb h2]using key
 ·rw[Gh (by rw[hA.len];omega),Gh (by rw[Jam];omega)]
theorem any_order (ho:Ordered l es)(hv:∀j,j<l.length->Val P E (Q6 l j) (tst l v T j) H (v j))(AA:Ok P E n0 N Q k (tst l v T l.length) H){S:Nat->Bool}{is:LB}(h:Sched l.length es S is) :
  ∀T',(∀i,i<l.length->S i=true->∀e∈es.getD i [],S e=true)->At l v T S T'->Ok P E n0 N Q (.ops (is.map (Q6 l))::k) T' H:=by
 induction h with
 |nil hn=>
  rename_i S;intro T' Az hA;have Aj:∀i,i<l.length->S i=true:=by
   intro i
   induction i using GZ with
   |_ i ih=>
    intro hi
    cases hS:S i with
    |true=>rfl
    |false=>obtain⟨e,he,Ou⟩:=hn i hi hS;have Ab:=ho.lt i hi e he;have:=ih e Ab om;rw[this]at Ou;cases Ou
  rw[hA.all ho Aj];exact JbH AA
 |cons hi hS hr _ ih=>
  rename_i S i is Ex;intro T' Az hA;refine Val.ok ((hv i hi).congr (hA.agree ho Az hi hS hr)) (ih _ (λj hj bq e he=>?_) (hA.step ho hi hS));simp only[Gz,beq_iff_eq]at bq|-;rcases bq with h|h
  ·exact .inl (Az j hj h e he)
  ·subst h;exact .inl (hr e he)
theorem ok_dreg (hm:P.follows .mixedOrders=true)(AP:ordered l es=true)(hv:∀j,j<l.length->Val P E (Q6 l j) (tst l v T j) H (v j))(AA:Ok P E n0 N Q k (tst l v T l.length) H):Ok P E n0 N Q (.code (.dreg l es)::k) T H:=by
 intro m w a b cs kr rest hp hd hk;simp only[YY]at hk;obtain⟨c',kr',rfl,hc,AC⟩:=hk;obtain⟨id,ops,rfl,h1,rfl⟩:=JhF hc;obtain⟨hl,hg⟩:=XT _ _ h1;have CE:ops.size=l.length:=by simpa using hl.symm
 have BA:=Jg9 ops ops.size (w.tape w.drawn (.order b.fn id)) (Gn ops.size false) sM sM;have Al:=stepR_region_draw (P:=P) (b:=b) (a:=a) (k:=kr'++rest) (cs:=cs) (w:=w) (ops:=ops) (id:=id);simp only[Region.schedule,hm,GM,if_true,Region.linearise]at Al;generalize Region.linearise.go .any ops ops.size (w.tape w.drawn (.order b.fn id)) (Gn ops.size false) []=is at BA Al;have DL:(λi=>(Gn ops.size false).getD i false)=λ_=>false:=by
  funext i
  simp only[Gs,Hd]
  split <;> rfl
 rw[DL,CE]at BA;have Dv:∀i∈is,i<l.length:=by
  clear Al;generalize (λ_=>false:Nat->Bool)=S at BA
  induction BA with
  |nil _=>intro i hi;cases hi
  |cons h _ _ _ ih=>intro i hi;exact(Gm.1 hi).elim (λh'=>by subst h';exact h) (ih i)
 have Ak:=any_order (n0:=n0) (N:=N) (Q:=Q) (k:=k) (Jcx AP) hv AA BA T (λ_ _ h=>by cases h) ⟨rfl,λ_ _=>rfl,λ_ _ _ h=>by cases h⟩;have AB:Sim E m H { w with drawn:=w.drawn+1 }:=hp.sim.congr rfl;have hx:Ext n0 m H w m H { w with drawn:=w.drawn+1 }:=Ext.congr rfl ⟨rfl,rfl,rfl⟩;refine Reach.step (.one Al) hx (Ak m _ a b cs (.inRegion ops is::kr') rest ⟨AB,hp.tmps,hp.long⟩ (hd.ext hx) ?_);simp only[YY];refine⟨ops,is,kr',rfl,⟨sM,λj i hj=>?_⟩,AC⟩;have hi:=Dv i (Gl hj);obtain⟨io,h2,h3⟩:=hg i (ops[i]' om) sM;exact⟨ops[i]' om,io,Gf om,by simp[hj,Q6,Gc,h2],h3⟩
end
def heapy:IOp->Bool
 |.bslice _ _ _ _=>true
 |.box _=>true
 |_=>false
def dexec (op:IOp)(T:Lu)(H:Lv):Option (Cond×CV×Lv):=if heapy op then none else exec op T H
section
variable (P:Program)(E:Env)(n0:Nat)(N:Fr)(Q:Exit->Lu->Lv->Prop)
def vdr (k:LM):LD->Lu->Lv->Prop
 |[],T,H=>KD P E n0 N Q k T H
 |⟨d,op,none⟩::l,T,H=>match dexec op T H with
  |some (c,v,H')=>H'=H/\c.holds/\vdr k l (put T d v) H
  |none=>∃v,Val P E ⟨d,op,none⟩ T H v/\vdr k l (put T d v) H
 |⟨d,op,some (s,want)⟩::l,T,H=>match T.getD s .un with
  |.bool t=>(t=want->match dexec op T H with
   |some (c,v,H')=>H'=H/\c.holds/\vdr k l (put T d v) H
   |none=>∃v,Val P E ⟨d,op,some (s,want)⟩ T H v/\vdr k l (put T d v) H)/\(t=(!want)->vdr k l (put T d (.tup [])) H)
  |.tup []=>vdr k l (put T d (.tup [])) H
  |_=>False
def vdrC (k:LM)(io:IOper)(l:LD)(T:Lu)(H:Lv):Prop:=∃v,Val P E io T H v/\vdr P E n0 N Q k l (put T io.dst v) H
def vdrR (r:Option (Cond×CV×Lv))(d:Option Nat)(op:IOp)(g:Option (Nat×Bool))(k:LM)(l:LD)(T:Lu)(H:Lv):Prop:=
 match r with
 |some (c,v,H')=>H'=H/\c.holds/\vdr P E n0 N Q k l (put T d v) H
 |none=>vdrC P E n0 N Q k ⟨d,op,g⟩ l T H
end
theorem vd_nil:vdr P E n0 N Q k [] T H=KD P E n0 N Q k T H:=propext Gj
theorem vd_op:vdr P E n0 N Q k (⟨d,op,none⟩::l) T H=vdrR P E n0 N Q (dexec op T H) d op none k l T H:=propext Gj
theorem vd_gop{s:Nat}{want:Bool}:vdr P E n0 N Q k (⟨d,op,some (s,want)⟩::l) T H=XI (T.getD s .un) want (vdrR P E n0 N Q (dexec op T H) d op (some (s,want)) k l T H) (vdr P E n0 N Q k l (put T d (.tup [])) H):=propext Gj
theorem vdrR_some{c:Cond}:vdrR P E n0 N Q (some (c,v,H')) d op g k l T H=(H'=H/\c.holds/\vdr P E n0 N Q k l (put T d v) H):=propext Gj
theorem vdrR_none:vdrR P E n0 N Q none d op g k l T H=vdrC P E n0 N Q k ⟨d,op,g⟩ l T H:=propext Gj
theorem vdr_look{H':Lv}(hT:T=T')(hH:H=H'):vdr P E n0 N Q k l T H=vdr P E n0 N Q k l T' H':=by rw[hT,hH]
theorem vdrR_look {r r':Option (Cond×CV×Lv)}(h:r=r'):vdrR P E n0 N Q r d op g k l T H=vdrR P E n0 N Q r' d op g k l T H:=by rw[h]
attribute [congr] vdr_look vdrR_look
theorem vdr_vals:∀(l:LD) (T:Lu),vdr P E n0 N Q k l T H->∃v:Nat->CV,(∀j,j<l.length->Val P E (Q6 l j) (tst l v T j) H (v j))/\KD P E n0 N Q k (tst l v T l.length) H
 |[],T,h=>⟨λ_=>.un,sM,h⟩
 |io::l,T,h=>by
  have Fj:∃v0,Val P E io T H v0/\vdr P E n0 N Q k l (put T io.dst v0) H:=by
   obtain⟨d,op,g⟩:=io;have cs:∀g,GOk T g->vdrR P E n0 N Q (dexec op T H) d op g k l T H->∃v0,Val P E ⟨d,op,g⟩ T H v0/\vdr P E n0 N Q k l (put T d v0) H:=by
    intro g hg h;unfold vdrR at h
    split at h
    ·rename_i c v H' he;obtain⟨rfl,hc,h⟩:=h;have Et:exec op T H'=some (c,v,H'):=by
      unfold dexec at he
      split at he
      ·cases he
      ·exact he
     exact⟨v,.inr ⟨hg,.inl ⟨c,Et,hc⟩⟩,h⟩
    ·exact h
   cases g with
   |none=>rw[vd_op]at h;exact cs none (.inl rfl) h
   |some g=>
    obtain⟨s,want⟩:=g;rw[vd_gop]at h;unfold XI at h
    split at h
    ·rename_i t ht;by_cases EK:t=want
     ·exact cs _ (.inr ⟨s,want,rfl,by rw[ht,EK]⟩) (h.1 EK)
     ·have e:t = !want:=by cases t <;> cases want <;> simp_all
      exact⟨.tup [],.inl ⟨s,want,rfl,.inl (by rw[ht,e]),rfl⟩,h.2 e⟩
    ·rename_i ht;exact⟨.tup [],.inl ⟨s,want,rfl,.inr ht,rfl⟩,h⟩
    ·exact h.elim
  obtain⟨v0,h1,h2⟩:=Fj;obtain⟨v,h3,h4⟩:=vdr_vals l _ h2
  let v':Nat->CV:=λj=>match j with|0=>v0|j+1=>v j
  have key:∀j,tst (io::l) v' T (j+1)=tst l v (put T io.dst v0) j:=by
   intro j
   induction j with
   |zero=>rfl
   |succ j ih=>rw[tst,ih];rfl
  refine⟨v',λj hj=>?_,?_⟩
  ·cases j with
   |zero=>exact h1
   |succ j=>rw[key];exact h3 j (by simpa using hj)
  ·rw[GJ,key];exact h4
theorem JQ (hm:P.follows .mixedOrders=true)(AP:ordered l es=true)(h:vdr P E n0 N Q k l T H):Ok P E n0 N Q (.code (.dreg l es)::k) T H:=by obtain⟨v,h1,h2⟩:=vdr_vals l T h;exact ok_dreg hm AP h1 (JD _ _ _ h2)
theorem Kc(hg:GOk T g)(Ah:Fn P f (as.map (Kg T)) v)(h:vdr P E n0 N Q k l (put T d v) H):vdrC P E n0 N Q k ⟨d,.call f as,g⟩ l T H:=⟨v,.inr ⟨hg,.inr (.inl ⟨f,as,rfl,Ah E H⟩)⟩,h⟩
attribute [go_sem] dexec heapy
attribute [go_sem] vd_nil vd_op vd_gop vdrR_some vdrR_none
structure Went (bs:Nat->Prop)(imm:Nat->Nat->LG)(w:World)(bs':Nat->Prop)(imm':Nat->Nat->LG)(w':World):Prop where
 size:w.heap.size<=w'.heap.size
 frame:∀B,B<w.heap.size->¬bs B->w'.heap[B]? = w.heap[B]?
 grow:KJ imm imm'
 newImm:∀B i v,imm' B i=some v->imm B i=some v\/bs B\/w.heap.size<=B
 newBs:∀B,bs' B->bs B\/w.heap.size<=B
 bslt:∀B,bs' B->B<w'.heap.size
 valid:∀B i v,imm' B i=some v->w'.cell? ⟨B,i,none⟩=some v
 one:∀B i v,imm' B i=some v->v.oneCell'=true
 same:w'.os=w.os/\w'.output=w.output/\w'.tape=w.tape
def JfF (P:Program)(E:Env)(l:Nat)(xs:LQ):Prop:=
 ∀s bs imm w x (vs:LJ),E.X s true bs imm w->(∀B i v,imm B i=some v->w.cell? ⟨B,i,none⟩=some v)->(∀B i v,imm B i=some v->v.oneCell'=true)->(∀B,bs B->B<w.heap.size)->xs[s]? = some x->J7 [] imm x vs.toList->
  ∃fn tmps assign body,(Instr.yield l vs).run P w=.ok (.round l fn tmps assign body) w/\
   RoundIn (WF none) 0 P l fn tmps assign body w λe w'=>∃b bs' imm',e=.returned (.bool b)/\E.X (s+1) b bs' imm' w'/\Went bs imm w bs' imm' w'
section
variable{b:Frame}{cs:List Frame}
theorem Sim.went {bs':Nat->Prop}{imm':Nat->Nat->LG}{w':World}{s s':Nat}{c c':Bool}(hs:Sim E m H w)(hH:H[i]? = some (.ext s c))(hu:∀k s b,H[k]? = some (.ext s b)->k=i)(hx:E.X s' c' bs' imm' w')(hw:Went m.ext m.imm w bs' imm' w') :
  Sim E { own:=m.own,imm:=imm',ext:=bs' } (H.set i (.ext s' c')) w'/\Ext n0 m H w { own:=m.own,imm:=imm',ext:=bs' } (H.set i (.ext s' c')) w':=by
 have Ab:i<H.length:=(Gg.1 hH).1;have key:∀(k:Nat) o,(H.set i (.ext s' c'))[k]? = some o->(k=i/\o=.ext s' c')\/(k≠i/\H[k]? = some o):=by
  intro k o hk;rw[Gw]at hk
  split at hk
  ·rename_i e;subst e;simp[]at hk;exact .inl ⟨rfl,hk.symm⟩
  ·rename_i e;exact .inr ⟨λh=>e h.symm,hk⟩
 have alive:∀(k:Nat) o,(H.set i (.ext s' c'))[k]? = some o->o.alive=true->H[k]? = some o:=by
  intro k o hk ha;rcases key k o hk with ⟨_,rfl⟩|⟨_,h⟩
  ·cases ha
  ·exact h
 have notbs:∀(k:Nat) o x,H[k]? = some o->o.alive=true->m.own[k]? = some x->¬bs' x.B:=by
  intro k o x hk ha hx hb;rcases hw.newBs _ hb with h|h
  ·exact hs.extsep k o x hk ha hx (.inl h)
  ·have:=Yq hs hk ha hx;omega
 refine⟨⟨by simp[hs.len],λk o x hk hx=>?_,hw.valid,hw.one,λk k' o o' x x' hk AC ha AX hx Aw hB=>hs.sep k k' o o' x x' (alive _ _ hk ha) (alive _ _ AC AX) ha AX hx Aw hB,λk o x hk ha hx j hj=>?_,λk t d hk=>?_,λk o x hk ha hx h=>h.elim (notbs k o x (alive _ _ hk ha) ha hx) (λh=>hs.extsep k o x (alive _ _ hk ha) ha hx (.inr h)),λB hB=>hB.elim (hw.bslt B) (λhB=>Gt (hs.gl.1.lt hB) hw.size),hs.gl.1.mono λB hB=>hw.frame B (hs.gl.1.lt hB) (λh=>hs.gl.2 B h hB),λB hB h=>(hw.newBs B hB).elim (λh1=>hs.gl.2 B h1 h) (λh1=>by have:=hs.gl.1.lt h;omega)⟩,
  ⟨hw.size,λB hB hn=>hw.frame B hB λh=>hn (.inl h),hw.grow,λB ho=>?_,λB j v hv=>?_,λ_ _ _ h=>h,λh=>h,hw.same⟩⟩
 ·rcases key k o hk with ⟨_,rfl⟩|⟨_,h⟩
  ·trivial
  ·by_cases ha:o.alive=true
   ·exact KO (KZ.refl _) hw.grow (λ_=>hw.frame _ (Yq hs h ha hx) (λhb=>hs.extsep k o x h ha hx (.inl hb))) (hs.obj k o x h hx)
   ·cases o <;> simp[CObj.alive]at ha <;> trivial
 ·cases hv:imm' x.B j with
  |none=>exact hv
  |some v=>
   have h:=alive _ _ hk ha;rcases hw.newImm _ _ _ hv with h1|h1|h1
   ·rw[hs.ro k o x h ha hx j hj]at h1;cases h1
   ·exact absurd (.inl h1) (hs.extsep k o x h ha hx)
   ·have:=Yq hs h ha hx;omega
 ·rcases key k _ hk with ⟨_,h⟩|⟨Ai,h⟩
  ·cases h;exact hx
  ·exact absurd (hu _ _ _ h) Ai
 ·rcases ho with h|⟨k,o,x,hk,ha,hx,hB⟩
  ·rcases hw.newBs _ h with h1|h1
   ·exact .inl (.inl h1)
   ·exact .inr h1
  ·exact .inl (.inr ⟨k,o,x,alive _ _ hk ha,ha,hx,hB⟩)
 ·rcases hw.newImm _ _ _ hv with h1|h1|h1
  ·exact .inl h1
  ·exact .inr (.inl (.inl h1))
  ·exact .inr (.inr h1)
theorem step_round {ops:Array Oper}{is:LB}{o:Oper}{a:Act}{kr:List Item}{l fn:Nat}{tmps:LJ}{assign body:Code}{R:Ending->World->Prop}(ho:ops[i]? = some o)(hw:Region.wanted o (yielded ops a.tmps)=true)(IB:o.semAt b.roundOf a.eval=execOp a.eval o)(Ak:(execOp a.eval o).run P w=.ok (.round l fn tmps assign body) w)
  (Ah:RoundIn (WF none) 0 P l fn tmps assign body w R) (hR:∀e w',R e w'->∃r,e=.returned r):∃r w',R (.returned r) w'/\Steps P (lone (b.atR a (.inRegion ops (i::is)::kr)) cs w) (lone (b.atR (a.put o.dst r) (.inRegion ops is::kr)) cs w'):=by
 have hg:=stepGR_op (P:=P) (b:=b) (k:=kr) (cs:=cs) (w:=w) (rest:=is) ho hw;rw[IB]at hg;have AA:∀v,(b.atR a (.inRegion ops (i::is)::kr)).finish v=b.atR (a.put o.dst v) (.inRegion ops is::kr):=by intro v;rw[Frame.finish_atR,ho];rfl
 obtain⟨e,w'',SS,Bt⟩:=Ah.2 (b.atR a (.inRegion ops (i::is)::kr)) cs (JeE _ _);have DC:Go.step P (lone (b.atR a (.inRegion ops (i::is)::kr)) cs w)=.next (lone (Frame.round l fn tmps assign body .normal) (b.atR a (.inRegion ops (i::is)::kr)::cs) w):=step_lone_go (by rw[hg];simp[stepG.apply,Ak,Frame.atR])
 obtain⟨r,rfl⟩:=hR e w'' SS;refine⟨r,w'',SS,.head DC ?_⟩;rw[<-AA];exact StepsIn.steps Bt
theorem ok_yield{l s:Nat}(hg:GOk T g)(hx:Kg T x=.yld l)(hy:JfF P E l xs)(hH:H[i]? = some (.ext s true))(hu:∀k s b,H[k]? = some (.ext s b)->k=i)
  (Fy:xs[s]? = some (as.map (Kg T))) (Az:Jk (as.map (Kg T))=true) (h:∀c,Ok P E n0 N Q (.ops lst::k) (put T d (.bool c)) (H.set i (.ext (s+1) c))):Ok P E n0 N Q (.ops (⟨d,.callv x as,g⟩::lst)::k) T H:=by
 intro m w a b cs kr rest hp hd hk;obtain⟨ops,j,is,kr',o,rfl,ho,FN,AC⟩:=JbG hk;obtain⟨hw,BR,Bc⟩:=JaY FN hg hp.tmps;obtain⟨cl,xo,Px,Cy,PW,has⟩:=Jgn Bc;have hr:=JZ (a:=a) hp.tmps PW;rw[hx]at hr;simp only[rel]at hr;obtain⟨fn,tmps,assign,body,Ak,Cn⟩:=hy s m.ext m.imm w _ (cl.args.map a.eval) (hp.sim.ext i s true hH) hp.sim.imm hp.sim.one (λB hB=>hp.sim.extlt B (.inl hB)) Fy (K5 _ _ Az (by simpa using JbP hp.tmps has));have Rq:(execOp a.eval o).run P w=.ok (.round l fn tmps assign body) w:=by simp only[execOp,Px,resolve,Cy,hr,Deferred.ofValue,Sem.run_bind,Sem.run_pure,Result.andThen_ok,invoke];simpa using Ak
 obtain⟨r,w',⟨c,bs',imm',he,hX,MZ⟩,Bt⟩:=step_round (b:=b) (cs:=cs) (is:=is) (kr:=kr'++rest) ho hw (semAt_plain Bc) Rq Cn (λe w' ⟨c,_,_,h,_⟩=>⟨_,h⟩)
 cases he
 rw[BR]at Bt;obtain⟨C9,Af⟩:=Sim.went (n0:=n0) hp.sim hH hu hX MZ;refine Reach.step Bt Af (h c _ w' _ b cs (.inRegion ops is::kr') rest (Jdg C9 (KY (KZ.refl _) MZ.grow _ _ hp.tmps) (by simpa using hp.long) (by simp[rel])) ?_ AC);rw[put_defers];exact hd.ext Af
end
def pset:Lu->LB->Lu->Lu
 |T,p::ps,c::cs=>pset (T.set p c) ps cs
 |T,[],_=>T
 |T,_,[]=>T
theorem pset_rels{imm:Nat->Nat->LG}:∀(ps:LB) (cs:Lu) (vs:LH) (T:Lu) (tmps:LJ),J7 own imm T tmps.toList->J7 own imm cs vs->
  J7 own imm (pset T ps cs) ((ps.zip vs).foldl (λ(t:LJ) (p:Nat×Value)=>t.setIfInBounds p.1 p.2) tmps).toList
 |[],cs,vs,T,tmps,h,_=>by cases cs <;> simpa [pset]using h
 |p::ps,[],vs,T,tmps,h,hc=>by simp only[J7]at hc;subst hc;simpa [pset]using h
 |p::ps,c::cs,vs,T,tmps,h,hc=>by simp only[J7]at hc;obtain⟨r,rs,rfl,h1,h2⟩:=hc;simp only[pset,List.zip_cons_cons,List.foldl_cons];refine pset_rels ps cs rs _ _ ?_ h2;rw[Lc];exact rels_set h p h1
theorem Sim.grow (hs:Sim E m H w){imm':Nat->Nat->LG}{w':World}(hf:∀B,owned m H B\/B<gN->w'.heap[B]? = w.heap[B]?)(BP:w.heap.size<=w'.heap.size)(hi:KJ m.imm imm')(hn:∀B i v,imm' B i=some v->m.imm B i=some v\/¬owned m H B)
  (hv:∀B i v,imm' B i=some v->w'.cell? ⟨B,i,none⟩=some v) (h1:∀B i v,imm' B i=some v->v.oneCell'=true):Sim E { own:=m.own,imm:=imm',ext:=m.ext } H w':=by
 refine⟨hs.len,λk o x hk hx=>?_,hv,h1,hs.sep,λk o x hk ha hx i Dq=>?_,λk s b hk=>?_,hs.extsep,λB hB=>Gt (hs.extlt B hB) BP,hs.gl.1.mono λB hB=>hf B (.inr hB),hs.gl.2⟩
 ·by_cases ha:o.alive=true
  ·exact KO (KZ.refl _) hi (λ_=>hf _ (.inl (.inr ⟨k,o,x,hk,ha,hx,rfl⟩))) (hs.obj k o x hk hx)
  ·cases o <;> simp[CObj.alive]at ha <;> trivial
 ·cases hv:imm' x.B i with
  |none=>exact hv
  |some v=>
   rcases hn _ _ _ hv with h|h
   ·rw[hs.ro k o x hk ha hx i Dq]at h;cases h
   ·exact absurd (.inr ⟨k,o,x,hk,ha,hx,rfl⟩) h
 ·exact E.stable _ _ _ _ _ _ _ (hs.ext k s b hk) (λB hB=>hf B (hB.imp_left .inl)) BP hi (λB i v hv=>(hn B i v hv).imp_right λh hb=>h (.inl hb)) hv h1
def OutX (P:Program)(E:Env)(n0:Nat)(N:Fr)(Q:Exit->Lu->Lv->Prop)(k:LM)(T:Lu)(I:Nat->Lv->Prop)(own0:LC)(imm0:Nat->Nat->LG)(n1 L D:Nat)(rc:LoopState->Option Code->Loop)(s:Nat)(b:Bool)(bs:Nat->Prop)(imm:Nat->Nat->LG)(w:World):Prop:=
 ∃(own:LC) (ex:Nat->Prop) (Hs:Lv),Sim E ⟨own,imm,ex⟩ Hs w/\(∀B,owned ⟨own,imm,ex⟩ Hs B->bs B)/\bs L/\bs D/\¬owned ⟨own,imm,ex⟩ Hs L/\¬owned ⟨own,imm,ex⟩ Hs D/\w.heap[D]? = some (.deferred (some []))/\
  KZ own0 own/\KJ imm0 imm/\n1<=Hs.length/\
  (b=true->I s Hs/\w.heap[L]? = some (.loop (rc .ready none)))/\(b=false->∃c ic,JM P c=some ic/\Ok P E n0 N Q (.code ic::k) T Hs/\w.heap[L]? = some (.loop (rc .done (some c))))
def OutE (P:Program)(E:Env)(n0:Nat)(N:Fr)(Q:Exit->Lu->Lv->Prop)(k:LM)(T:Lu)(I:Nat->Lv->Prop)(own0:LC)(imm0:Nat->Nat->LG)(n1 L D:Nat)(rc:LoopState->Option Code->Loop):Env where
 X:=OutX P E n0 N Q k T I own0 imm0 n1 L D rc
 stable:=by rintro s b bs imm imm' w w' ⟨own,ex,Hs,h1,h2,h3,h4,h5,h6,h7,h8,h9,EP,UN,UM⟩ hf BP hi hn hv ho;refine⟨own,ex,Hs,h1.grow (λB hB=>hf B (hB.imp_left (h2 B))) BP hi (λB i v hv=>(hn B i v hv).imp_right λh hb=>h (h2 B hb)) hv ho,h2,h3,h4,h5,h6,(hf D (.inl h4)).trans h7,h8,h9.trans hi,EP,λhb=>⟨(UN hb).1,(hf L (.inl h3)).trans (UN hb).2⟩,λhb=>?_⟩;obtain⟨c,ic,a1,a2,a3⟩:=UM hb;exact⟨c,ic,a1,a2,(hf L (.inl h3)).trans a3⟩
def Iter (P:Program)(g:Nat)(l1 l2:Lu)(xs:LQ):Prop:=∀E l,JfF P E l xs->CallsC P E g (l1 ++ .yld l::l2) [.ext 0 true] λ_ H'=>H'[0]? = some (.ext xs.length true)\/∃s,H'[0]? = some (.ext s false)
def asgQ (K:Lu->Lv->Prop):Exit->Lu->Lv->Prop
 |.normal,T,H=>K T H
 |_,_,_=>False
def roundQ (P:Program)(E:Env)(n0:Nat)(N:Fr)(Q:Exit->Lu->Lv->Prop)(k:LM)(T:Lu)(I:Lv->Prop):Exit->Lu->Lv->Prop
 |.normal,_,H=>I H
 |.ret,_,H=>Ok P E n0 N Q (.code .ret::k) T H
 |.exit id,_,H=>Ok P E n0 N Q (.code (.exit id)::k) T H
 |_,_,_=>False
theorem fenced_eq (ro:Option Nat):(Machine.fenced P (WF none))=Machine.fenced P (WF ro):=by
 funext mm
 exact propext ⟨λ_=>Jbm P ro mm,λ_=>Jbm P none mm⟩
theorem Jgo (l:Nat):(WF none).inRound l=WF (some l):=rfl
theorem round_ok{x:ICode}{ca cb:Code}{I:Nat->Lv->Prop}{own0:LC}{imm0:Nat->Nat->LG}{tmps:LJ}{fn L D:Nat}(aX:JM P ca=some x)(FP:JM P cb=some y)(RP:own0.length=H.length)(hT:J7 own0 imm0 T tmps.toList)
  (Fy:∀c∈xs,c.length=ps.length) (Cn:∀s Hs c,I s Hs->xs[s]? = some c->Ok P E H.length ⟨0,true⟩ (asgQ λT2 H2=>Ok P E H.length ⟨0,true⟩ (roundQ P E n0 N Q k T (I (s+1))) [.code y] T2 H2) [.code x] (pset T ps c) Hs) :
  JfF P (OutE P E n0 N Q k T I own0 imm0 H.length L D λst pe=>{ state:=st,pending:=pe,fn,tmps,params:=ps.toArray,assign:=ca,body:=cb,defers:=D }) L xs:=by
 intro s bs imm w xv vs hX FX Bl I1 hx hr;obtain⟨own,ex,Hs,h1,h2,h3,h4,h5,h6,h7,h8,h9,EP,UN,_⟩:=hX;obtain⟨hI,hl⟩:=UN rfl;have Iz:vs.size=ps.length:=by have:=Ke hr;rw[Fy _ (Gl hx)]at this;simpa using this.symm
 have eD:L≠D:=by intro e;rw[e,h7]at hl;cases hl
 refine⟨fn,_,ca,cb,run_yield hl (by simpa using Iz),roundIn_of_wpIn trivial ?_⟩;intro b2 k2 cs2 gJ _ _;have Ep:YY P [.code x] [.code ca]:=by simp only[YY];exact⟨ca,[],rfl,aX,rfl⟩
 have az:YY P [.code y] [.code cb]:=by simp only[YY];exact⟨cb,[],rfl,FP,rfl⟩
 have fQ:=pset_rels ps xv vs.toList T tmps (KY h8 h9 _ _ hT) (KY (KZ.nil _) (KJ.refl _) _ _ hr);obtain⟨e,a1,w1,m1,T1,H1,AZ,Z5,aS,Mx,SH⟩:=Cn s Hs xv hI hx ⟨own,imm,ex⟩ w { tmps:=(ps.toArray.zip vs).foldl (λ(t:LJ) (p:Nat×Value)=>t.setIfInBounds p.1 p.2) tmps,defers:=[] } b2 cs2 [.code ca] k2
  ⟨h1,by
   have e1:(ps.toArray.zip vs).foldl (λ(t:LJ) (p:Nat×Value)=>t.setIfInBounds p.1 p.2) tmps=(ps.zip vs.toList).foldl (λ(t:LJ) (p:Nat×Value)=>t.setIfInBounds p.1 p.2) tmps:=by rw[<-Array.foldl_toList];simp
   rw[e1];exact fQ,EP⟩ (JdW.nil _ _ (λh=>by cases h) _ _ _ (GA _)) Ep
 have dZ:L<w.heap.size:=I1 L h3;have eX:D<w.heap.size:=I1 D h4
 cases e with
 |normal=>
  simp only[asgQ]at Mx;refine⟨.normal,a1,w1,?_,by rw[Jgo,<-fenced_eq];exact SH⟩;have FD:w1.heap[L]? = some _:=(AZ.frame L dZ h5).trans hl;have aR:w1.heap[D]? = some _:=(AZ.frame D eX h6).trans h7;have OU:¬owned m1 H1 L:=λh=>(AZ.newOwn L h).elim h5 (λh=>by omega)
  have RO:¬owned m1 H1 D:=λh=>(AZ.newOwn D h).elim h6 (λh=>by omega)
  refine⟨_,run_beginRound FD rfl,?_⟩;intro b3 k3 cs3 gI _ _;have IC:=Z5.sim.putDef (ob:=.loop { state:=.busy,pending:=none,fn,tmps,params:=ps.toArray,assign:=ca,body:=cb,defers:=D }) FD (by intro c e f h;cases h) OU;have Sv:JdW ⟨0,true⟩ b3 m1 H1 (w1.putObj L (.loop { state:=.busy,pending:=none,fn,tmps,params:=ps.toArray,assign:=ca,body:=cb,defers:=D })) a1.defers:=by
   obtain⟨_,_,Ds,e1,e2,e3⟩:=aS;refine⟨λh=>(by cases h),GA _,Ds,e1,e2,λD' PR=>?_⟩;obtain⟨f1,f2,f3⟩:=e3 D' PR;have Ai:D'≠L:=by intro e;rw[e,FD]at f2;cases f2
   exact⟨f1,(World.putObj_heap_other Ai).trans f2,f3⟩
  obtain⟨e2,a2,w3,m2,T2,H2,BM,Z4,aQ,D6,SG⟩:=Mx m1 _ a1 b3 cs3 [.code cb] k3 ⟨IC,Z5.tmps,Z5.long⟩ Sv az;refine⟨e2,a2,w3,?_,by rw[Jgo,<-fenced_eq];exact SG⟩;have Ud:L<w1.heap.size:=Gt dZ AZ.size;have ER:(w1.putObj L (.loop { state:=.busy,pending:=none,fn,tmps,params:=ps.toArray,assign:=ca,body:=cb,defers:=D })).heap.size=w1.heap.size:=World.putObj_size;have ML:w3.heap[L]? = some (.loop { state:=.busy,pending:=none,fn,tmps,params:=ps.toArray,assign:=ca,body:=cb,defers:=D }):=(BM.frame L (by rw[ER];exact Ud) OU).trans (World.putObj_heap_same Ud);have bL:w3.heap[D]? = some (.deferred (some [])):=(BM.frame D (by rw[ER];exact Gt eX AZ.size) RO).trans ((World.putObj_heap_other (Ne.symm eD)).trans aR);have RN:¬owned m2 H2 L:=λh=>(BM.newOwn L h).elim OU (λh=>by omega)
  have ah:¬owned m2 H2 D:=λh=>by
   rcases BM.newOwn D h with h|h
   ·exact RO h
   ·have:=AZ.size;omega
  have fin:∀(jump:Option Code),(jump=none->I (s+1) H2)->(∀c,jump=some c->∃ic,JM P c=some ic/\Ok P E n0 N Q (.code ic::k) T H2)->
    ∃v w',(Instr.endRound L jump).run P w3=.ok v w'/\∃b bs' imm',Ending.returned v=.returned (.bool b)/\OutX P E n0 N Q k T I own0 imm0 H.length L D (λst pe=>{ state:=st,pending:=pe,fn,tmps,params:=ps.toArray,assign:=ca,body:=cb,defers:=D }) (s+1) b bs' imm' w'/\Went bs imm w bs' imm' w':=by
   intro jump Fa D8;have Pt:=Z4.sim.putDef (ob:=.loop { state:=if jump.isNone then .ready else .done,pending:=jump,fn,tmps,params:=ps.toArray,assign:=ca,body:=cb,defers:=D }) ML (by intro c e f h;cases h) RN;have Uc:L<w3.heap.size:=(Gy.1 ML).1;have Rb:w.heap.size<=w3.heap.size:=Gu AZ.size (by have:=BM.size;omega);refine⟨_,_,run_endRound jump ML,jump.isNone,λB=>bs B\/owned m2 H2 B,m2.imm,rfl,⟨m2.own,m2.ext,H2,Pt,λB hB=>.inr hB,.inl h3,.inl h4,RN,ah,(World.putObj_heap_other (Ne.symm eD)).trans bL,λk x hk=>?_,(h9.trans AZ.imm).trans BM.imm,Z4.long,λhb=>?_,λhb=>?_⟩,⟨?_,λB hB I8=>?_,AZ.imm.trans BM.imm,λB i v hv=>?_,λB hB=>?_,λB hB=>?_,Pt.imm,Pt.one,?_⟩⟩
   ·have Ab:k<H.length:=by rw[<-RP];exact(Gg.1 hk).1
    exact BM.base k x Ab (AZ.base k x Ab (h8 k x hk))
   ·have:jump=none:=by cases jump with|none=>rfl|some c=>cases hb
    subst this;exact⟨Fa rfl,World.putObj_heap_same Uc⟩
   ·cases jump with
    |none=>cases hb
    |some c=>obtain⟨ic,g1,g2⟩:=D8 c rfl;exact⟨c,ic,g1,g2,World.putObj_heap_same Uc⟩
   ·rw[World.putObj_size];exact Rb
   ·have fo:B≠L:=λe=>I8 (e▸h3)
    have Ij:¬owned ⟨own,imm,ex⟩ Hs B:=λh=>I8 (h2 B h)
    have aj:¬owned m1 H1 B:=λh=>(AZ.newOwn B h).elim Ij (λh=>by omega)
    rw[World.putObj_heap_other fo,BM.frame B (by rw[ER];exact Gt hB AZ.size) aj,World.putObj_heap_other fo,AZ.frame B hB Ij]
   ·rcases BM.newImm B i v hv with h|h|h
    ·rcases AZ.newImm B i v h with h|h|h
     ·exact .inl h
     ·exact .inr (.inl (h2 B h))
     ·exact .inr (.inr h)
    ·rcases AZ.newOwn B h with h|h
     ·exact .inr (.inl (h2 B h))
     ·exact .inr (.inr h)
    ·exact .inr (.inr (by rw[ER]at h;exact Gu AZ.size h))
   ·rcases hB with h|h
    ·exact .inl h
    ·rcases BM.newOwn B h with h|h
     ·rcases AZ.newOwn B h with h|h
      ·exact .inl (h2 B h)
      ·exact .inr h
     ·exact .inr (by rw[ER]at h;exact Gu AZ.size h)
   ·rw[World.putObj_size];rcases hB with h|h
    ·exact Gt (I1 B h) Rb
    ·exact owned_lt Z4.sim h
   ·obtain⟨a1',b1',c1'⟩:=AZ.same;obtain⟨a2',b2',c2'⟩:=BM.same;exact⟨a2'.trans a1',b2'.trans b1',c2'.trans c1'⟩
  cases e2 with
  |normal=>exact fin none (λ_=>D6) (λc h=>by cases h)
  |ret=>exact fin (some .ret) (λh=>by cases h) (λc h=>by cases h;exact⟨.ret,by simp[JM],D6⟩)
  |exit id=>exact fin (some (.exit id)) (λh=>by cases h) (λc h=>by cases h;exact⟨.exit id,by simp[JM],D6⟩)
  |goto l=>exact D6.elim
  |panic ch=>exact D6.elim
  |outgrown=>exact D6.elim
 |ret=>exact Mx.elim
 |exit id=>exact Mx.elim
 |goto l=>exact Mx.elim
 |panic ch=>exact Mx.elim
 |outgrown=>exact Mx.elim
theorem ok_rfunc {f:IArg}{x:ICode}{g:Nat}{fn:Func}(I:Nat->Lv->Prop) (OJ:N.rnd=false) (hf:Kg T f=.fn g l1 l2) (CF:Jk l1=true) (CR:Jk l2=true) (Bq:P.funcs[g]? = some fn) (DI:fn.body.isSome=true) (EY:fn.name≠ "runtime.NumGoroutine")
  (Ma:Iter P g l1 l2 xs) (Fy:∀c∈xs,c.length=ps.length) (h0:I 0 H) (Cn:∀s Hs c,I s Hs->xs[s]? = some c->Ok P E H.length ⟨0,true⟩ (asgQ λT2 H2=>Ok P E H.length ⟨0,true⟩ (roundQ P E n0 N Q k T (I (s+1))) [.code y] T2 H2) [.code x] (pset T ps c) Hs)
  (BS:∀H',I xs.length H'->Ok P E n0 N Q k T H'):Ok P E n0 N Q (.code (.rfunc f ps x y)::k) T H:=by
 intro m w a b cs kr rest hp hd hk;simp only[YY]at hk;obtain⟨c',kr',rfl,hc,AC⟩:=hk;obtain⟨g0,qs,ca,cb,rfl,FK,Dr,aX,FP⟩:=inv_rfunc hc;have Rv:b.roundOf=none:=hd.1 OJ;have hr:=JZ (a:=a) hp.tmps FK;rw[hf]at hr;simp only[rel]at hr;obtain⟨vs1,vs2,hv,CB,CJ⟩:=hr;have Rw:qs=ps.toArray:=by rw[<-Dr]
 generalize hD:w.heap.size=D at *;generalize I7:(λ(st:LoopState) (pe:Option Code)=>({ state:=st,pending:=pe,fn:=b.fn,tmps:=a.tmps,params:=ps.toArray,assign:=ca,body:=cb,defers:=D }:Loop))=rc;generalize PP:(w.alloc (.deferred (some []))).alloc (.loop (rc .ready none))=W1;have he:(Instr.enterLoop b.fn a.tmps qs ca cb b.roundOf).run P w=.ok (D+1,[{ target:=.collected D,args:=#[] }]) W1:=by rw[Rv,<-PP,<-I7,Rw,<-hD];exact run_enterLoop_outer _ _ _ _ _
 have FY:W1.heap.size=D+2:=by rw[<-PP];simp[hD]
 have Fe:∀B,B<D->W1.heap[B]? = w.heap[B]?:=by
  intro B hB;have e:W1.heap=(w.heap.push (.deferred (some []))).push (.loop (rc .ready none)):=by rw[<-PP];rfl
  rw[e,GU,GU,if_neg (by simp[hD];omega),iN7]
 have fe:W1.heap[D]? = some (.deferred (some [])):=by
  have e:W1.heap=(w.heap.push (.deferred (some []))).push (.loop (rc .ready none)):=by rw[<-PP];rfl
  rw[e,GU,GU,if_neg (by simp[hD]),if_pos hD.symm]
 have Ue:W1.heap[D+1]? = some (.loop (rc .ready none)):=by
  rw[<-PP];have:=World.alloc_heap_new (w.alloc (.deferred (some []))) (.loop (rc .ready none))
  rwa [World.size_alloc,hD]at this
 have OI:W1.os=w.os/\W1.output=w.output/\W1.tape=w.tape:=by rw[<-PP];exact⟨rfl,rfl,rfl⟩
 have CL:∀B,owned m H B->B<D:=λB h=>by rw[<-hD];exact owned_lt hp.sim h
 have AO:∀B,B<gN->B<D:=λB h=>by rw[<-hD];exact hp.sim.gl.1.lt h
 have Og:∀B i v,m.imm B i=some v->W1.cell? ⟨B,i,none⟩=some v:=λB i v hv=>(cell?_congr (Fe B (by rw[<-hD];exact Jgp hp.sim hv))).trans (hp.sim.imm B i v hv)
 have EL:Sim E m H W1:=hp.sim.grow (λB h=>Fe B (h.elim (CL B) (AO B))) om (KJ.refl _) (λB i v h=>.inl h) Og hp.sim.one;have RP:m.own.length=H.length:=hp.sim.len;have hy:JfF P (OutE P E n0 N Q k T I m.own m.imm H.length (D+1) D rc) (D+1) xs:=by rw[<-I7];exact round_ok aX FP RP hp.tmps Fy Cn
 have BB:(resolve a.eval (rangeCall g0 (D+1)) 0).run P W1=.ok { target:=.fn (.func g) vs2,args:=vs1 ++ #[.func (.yield (D+1)) #[] #[]] } W1:=by simp only[resolve,hv];simp[Deferred.ofValue,Act.eval]
 have Aa:(invoke (.fn (.func g) vs2) (vs1 ++ #[.func (.yield (D+1)) #[] #[]])).run P W1=.ok (.enter g (vs1 ++ #[.func (.yield (D+1)) #[] #[]]++vs2)) W1:=by simp only[invoke];exact Ja5 Bq DI EY
 have DC:=stepR_rangeFunc (P:=P) (b:=b) (a:=a) (k:=kr'++rest) (cs:=cs) (w:=w) he BB Aa
 let bs0:Nat->Prop:=λB=>owned m H B\/B=D+1\/B=D
 have jb:OutX P E n0 N Q k T I m.own m.imm H.length (D+1) D rc 0 true bs0 m.imm W1:=⟨m.own,m.ext,H,EL,λB h=>.inl h,.inr (.inl rfl),.inr (.inr rfl),λh=>by have:=CL _ h;omega,λh=>by have:=CL _ h;omega,fe,KZ.refl _,KJ.refl _,Gd _,λ_=>⟨h0,Ue⟩,λh=>by cases h⟩
 have Rn:Sim (OutE P E n0 N Q k T I m.own m.imm H.length (D+1) D rc) { own:=[⟨0,0,0,0⟩],imm:=m.imm,ext:=bs0 } [.ext 0 true] W1:=by
  refine⟨rfl,λk o x hk hx=>?_,Og,hp.sim.one,λk k' o o' x x' hk AC ha=>?_,λk o x hk ha=>?_,λk s b hk=>?_,λk o x hk ha=>?_,λB hB=>?_,EL.gl.1,λB hB h=>?_⟩
  ·cases k with
   |zero=>simp at hk;subst hk;trivial
   |succ k=>simp at hk
  ·cases k with
   |zero=>simp at hk;subst hk;cases ha
   |succ k=>simp at hk
  ·cases k with
   |zero=>simp at hk;subst hk;cases ha
   |succ k=>simp at hk
  ·cases k with
   |zero=>simp at hk;obtain⟨rfl,rfl⟩:=hk;exact jb
   |succ k=>simp at hk
  ·cases k with
   |zero=>simp at hk;subst hk;cases ha
   |succ k=>simp at hk
  ·rcases hB with (h|h|h)|h
   ·have:=CL _ h;omega
   ·omega
   ·omega
   ·have:=AO _ h;omega
  ·rcases hB with hb|hb|hb
   ·exact owned_gl hp.sim hb h
   ·have:=AO _ h;omega
   ·have:=AO _ h;omega
 have BI:J7 [⟨0,0,0,0⟩] m.imm (l1 ++ .yld (D+1)::l2) (vs1 ++ #[Value.func (Fn.yield (D+1)) #[] #[]]++vs2).toList:=by simp only[Array.toList_append,HZ];refine Q9 (K5 _ _ CF CB) ?_;simp only[J7,rel,H6,H8];exact⟨_,_,rfl,rfl,K5 _ _ CR CJ⟩
 obtain⟨e,w3,fr,⟨r,m',v,H',rfl,Af,U8,_,hR⟩,Bt,_,EZ⟩:=(Ma _ _ hy _ W1 _ Rn BI).2 (b.atR { a with defers:=[{ target:=.collected D,args:=#[] }]++a.defers } (.inRangeFunc (D+1)::(kr'++rest))::cs) (JeE _ _);have Cc:∀B,owned { own:=[⟨0,0,0,0⟩],imm:=m.imm,ext:=bs0 } [.ext 0 true] B->bs0 B:=by
  rintro B (h|⟨k,o,x,hk,ha,_⟩)
  ·exact h
  ·cases k with
   |zero=>simp at hk;subst hk;cases ha
   |succ k=>simp at hk
 have fin:∀(s:Nat) (c:Bool),H'[0]? = some (.ext s c)->(c=true->s=xs.length)->Reach P E n0 N Q b rest cs m H w (lone (b.atR a (.code (.rangeFunc g0 qs ca cb)::(kr'++rest))) cs w):=by
  intro s c DF Eo;obtain⟨own,ex,Hs,g1,g2,g3,g4,g5,g6,g7,g8,g9,g10,g11,g12⟩:=U8.ext 0 s c DF;have go:∀(st:LoopState) (pe:Option Code) (kk:LM) (krr:List Item),st≠.busy->w3.heap[D+1]? = some (.loop (rc st pe))->Ok P E n0 N Q kk T Hs->YY P kk krr->krr++rest=(pe.map Item.code).toList++(kr'++rest)->
    Reach P E n0 N Q b rest cs m H w (lone (b.atR a (.code (.rangeFunc g0 qs ca cb)::(kr'++rest))) cs w):=by
   intro st pe kk krr Al hl Ao BC Ep;have Cz:(rc st pe).state=st:=by rw[<-I7]
   have gH:(rc st pe).pending=pe:=by rw[<-I7]
   have CP:(Instr.endLoop (D+1)).run P w3=.ok pe (w3.putObj (D+1) (.loop { rc st pe with state:=.exhausted })):=by have h:=run_endLoop (P:=P) hl (by rw[Cz];exact Al);rw[h];simp only[gH]
   have SA:=stepR_endRangeFunc (P:=P) (b:=b) (a:={ a with defers:=[{ target:=.collected D,args:=#[] }]++a.defers }) (k:=kr'++rest) (cs:=cs) CP;have Pt:=g1.putDef (ob:=.loop { rc st pe with state:=.exhausted }) hl (by intro c e f h;cases h) g5;have Iz:=Af.size;have FL:Ext n0 m H w ⟨own,m'.imm,ex⟩ Hs (w3.putObj (D+1) (.loop { rc st pe with state:=.exhausted })):=by
    refine⟨by rw[World.putObj_size];omega,λB hB I8=>?_,Af.imm,λB hB=>?_,λB i v hv=>?_,λk x hk hx=>g8 k x hx,λ_=>?_,?_⟩
    ·have jR:B<D:=om
     rw[World.putObj_heap_other om,Af.frame B om (λh=>
      (Cc B h).elim I8 (λh=>
      h.elim (λh=>by omega) (λh=>by omega))),Fe B jR]
    ·rcases Af.newOwn B (.inl (g2 B hB)) with h|h
     ·rcases Cc B h with h|h|h
      ·exact .inl h
      ·exact .inr om
      ·exact .inr om
     ·exact .inr om
    ·rcases Af.newImm B i v hv with h|h|h
     ·exact .inl h
     ·rcases Cc B h with h|h|h
      ·exact .inr (.inl h)
      ·exact .inr (.inr om)
      ·exact .inr (.inr om)
     ·exact .inr (.inr om)
    ·exact Gu hp.long (Gu g10 (Nat.le_of_eq g1.len.symm))
    ·obtain⟨s1,s2,s3⟩:=OI;obtain⟨t1,t2,t3⟩:=Af.same;exact⟨t1.trans s1,t2.trans s2,t3.trans s3⟩
   have jd:J7 own m'.imm T a.tmps.toList:=KY g8 Af.imm _ _ hp.tmps;have R3:n0<=Hs.length:=Gu hp.long g10;have iR:JdW N b ⟨own,m'.imm,ex⟩ Hs (w3.putObj (D+1) (.loop { rc st pe with state:=.exhausted })) ([{ target:=.collected D,args:=#[] }]++a.defers):=by
    obtain⟨q1,q2,Ds,q3,q4,q5⟩:=hd;have Ab:∀D'∈Ds,D' < D:=λD' h=>by rw[<-hD];exact(Gy.1 (q5 D' h).2.1).1
    refine⟨q1,Gu q2 FL.size,D::Ds,by rw[q3];rfl,List.nodup_cons.2 ⟨λh=>Nat.lt_irrefl _ (Ab D h),q4⟩,λD' PR=>?_⟩;rcases Gm.1 PR with rfl|h
    ·exact⟨om,(World.putObj_heap_other om).trans g7,g6⟩
    ·obtain⟨r1,r2,r3⟩:=q5 D' h;have:=Ab D' h;exact⟨r1,(FL.frame D' om r3).trans r2,λho=>(FL.newOwn D' ho).elim r3 (λh=>by omega)⟩
   refine Reach.step (.head DC (Steps.trans (StepsIn.steps Bt) (.head (step_leave_returned EZ) ?_))) FL (Ao ⟨own,m'.imm,ex⟩ _ { a with defers:=[{ target:=.collected D,args:=#[] }]++a.defers } b cs krr rest ⟨Pt,jd,R3⟩ iR BC);rw[finish_atR_inRangeFunc,Ep];exact .one SA
  cases c with
  |true=>obtain⟨hI,hl⟩:=g11 rfl;exact go .ready none k kr' sM hl (BS Hs (Eo rfl▸hI)) AC sM
  |false=>obtain⟨c,ic,q1,q2,q3⟩:=g12 rfl;exact go .done (some c) (.code ic::k) (.code c::kr') sM q3 q2 (by simp only[YY];exact⟨c,kr',rfl,q1,AC⟩) sM
 rcases hR with h|⟨s,h⟩
 ·exact fin _ _ h λ_=>rfl
 ·exact fin _ _ h λh=>by cases h
theorem vr_yield{l s:Nat}(hg:GOk T g)(hx:Kg T x=.yld l)(hy:JfF P E l xs)(hH:H[i]? = some (.ext s true))(hu:∀k s b,H[k]? = some (.ext s b)->k=i)
  (Fy:xs[s]? = some (as.map (Kg T))) (Az:Jk (as.map (Kg T))=true) (h:∀c,KD P E n0 N Q (.ops lst::k) (put T d (.bool c)) (H.set i (.ext (s+1) c))):Ok P E n0 N Q (.ops (⟨d,.callv x as,g⟩::lst)::k) T H:=
 ok_yield hg hx hy hH hu Fy Az λc=>JD _ _ _ (h c)
def Jen (P:Program)(E:Env)(n0:Nat)(N:Fr)(Q:Exit->Lu->Lv->Prop)(k:LM)(T:Lu)(I:Lv->Prop)(e:Exit)(_:Lu)(H:Lv):Prop:=
 match e with
 |.normal=>I H
 |.ret=>Q .ret T H
 |.exit id=>Jc4 P E n0 N Q (Ym id k) id T H
 |_=>False
theorem JfI:Jen P E n0 N Q k T I .normal T' H=I H:=rfl
theorem vroundQ_ret:Jen P E n0 N Q k T I .ret T' H=Q .ret T H:=rfl
theorem vroundQ_exit{id:Nat}:Jen P E n0 N Q k T I (.exit id) T' H=Jc4 P E n0 N Q (Ym id k) id T H:=rfl
theorem asgQ_normal {K:Lu->Lv->Prop}:asgQ K .normal T H=K T H:=rfl
theorem fn_of_row{args:Lu}(h:CallsC P Env.none f args [] λv H'=>(els=[]/\v=.nils)\/∃id,H'[id]? = some (.arr z els)/\∃cap,v=.slc id 0 els.length cap)(ha:Jk args=true)(hc:Jq els=true):Fn P f args (.rslc z els none):=by
 refine JhQ ?_ ha rfl;intro m w vs hs hv;refine(h m w vs hs hv).mono ?_;rintro e w' ⟨r,m',v,H',h1,h2,h3,h4,⟨rfl,rfl⟩|⟨id,g1,cap,rfl⟩⟩
 ·exact⟨r,m',_,H',h1,h2,h3,wk.nils _ _ _ h4,rfl⟩
 ·obtain⟨imm',AB,he,hf⟩:=Sim.freeze (n0:=([]:Lv).length) h3 g1 hc;refine⟨r,_,_,_,h1,h2.trans he,AB,hf _ _ h4,?_⟩;simp[frz]
theorem getElem?_app_len {g l:Lv}:(g++l)[g.length]? = l[0]?:=by rw[Gq (Gd _)];simp
theorem getElem?_app_add {g l:Lv}:(g++l)[g.length+n]? = l[n]?:=by rw[Gq (Hm _ _)];congr 1;omega
theorem set_app_len {g l:Lv}{x:CObj}:(g++l).set g.length x=g++l.set 0 x:=by rw[Ht _ _ (Gd _)];simp
theorem set_app_add {g l:Lv}{x:CObj}:(g++l).set (g.length+n) x=g++l.set n x:=by rw[Ht _ _ (Hm _ _)];congr 2;omega
theorem vr_fv(hg:GOk T g) (hx:Kg T x=.fn f l1 l2) (hF:Jd P f=some F) (EY:(P.funcs[f]?.map (·.name))≠some "runtime.NumGoroutine")
  (Ah:Fn P f (l1++as.map (Kg T)++l2) v) (h:KD P E n0 N Q (.ops l::k) (put T d v) H):Ok P E n0 N Q (.ops (⟨d,.callv x as,g⟩::l)::k) T H:=by
 have Bq:∃fn,P.funcs[f]? = some fn/\fn.body.isSome=true:=by
  unfold Jd at hF
  split at hF
  ·rename_i fn Bq
   split at hF
   ·rename_i c hb;exact⟨fn,Bq,by rw[hb];rfl⟩
   ·cases hF
  ·cases hF
 obtain⟨fn,Bq,DI⟩:=Bq;exact Jhx hg hx Bq DI (λe=>EY (by rw[Bq,<-e];rfl)) (Ah E H) λv' H' ⟨h1,h2⟩=>by rw[h1,h2];exact JD _ _ _ h
theorem Je{id:Nat}(hH:H[id]? = some (.arr z els))(hc:Jq els=true)(h:KD P E n0 N Q k (JK id z els T) (KC id z els H)):Ok P E n0 N Q k T H:=ok_freeze hH hc (JD _ _ _ h)
attribute [go_sem] getElem?_app_len getElem?_app_add set_app_len set_app_add HZ List.length_append JfI vroundQ_ret vroundQ_exit asgQ_normal pset
def Jl (id:Nat):LB->Nat->Option Nat
 |[],_=>none
 |k::ρ,i=>if k=id then some i else Jl id ρ (i+1)
mutual
def ren (ρ:LB):CV->CV
 |.slc j off len cap=>match Jl j ρ 0 with|some j'=>.slc j' off len cap|none=>.un
 |.ptr j i off=>match Jl j ρ 0 with|some j'=>.ptr j' i off|none=>.un
 |.map j=>match Jl j ρ 0 with|some j'=>.map j'|none=>.un
 |.fn f l1 l2=>.fn f (JG ρ l1) (JG ρ l2)
 |.iface t c=>.iface t (ren ρ c)
 |.agg l=>.agg (JG ρ l)
 |.tup l=>.tup (JG ρ l)
 |c=>c
def JG (ρ:LB):Lu->Lu
 |[]=>[]
 |c::cs=>ren ρ c::JG ρ cs
end
theorem Jf2 {id:Nat}:∀(ρ:LB) (i j:Nat),Jl id ρ i=some j->i<=j/\ρ[j-i]? = some id
 |[],_,_,h=>by simp[Jl]at h
 |k::ρ,i,j,h=>by
  simp only[Jl]at h
  split at h
  ·rename_i hk
   cases h;simp[hk]
  ·obtain⟨h1,h2⟩:=Jf2 ρ (i+1) j h;refine⟨om,?_⟩;rw[show j-i=(j-(i+1))+1 by omega];simpa using h2
theorem JbE {id j:Nat}(h:Jl id ρ 0=some j):ρ[j]? = some id:=by simpa using (Jf2 ρ 0 j h).2
mutual
theorem Jhn {own own':LC}{imm:Nat->Nat->LG}{ρ:LB}(ho:∀(j:Nat) id,ρ[j]? = some id->own'[j]? = own[id]?):∀(c:CV) (v:Value),rel own imm c v->rel own' imm (ren ρ c) v
 |.un,_,_=>by simp only[ren,rel]
 |.bool _,_,h=>by simp only[ren,rel]at h|-;exact h
 |.int _ _,_,h=>by simp only[ren,rel]at h|-;exact h
 |.str _,_,h=>by simp only[ren,rel]at h|-;exact h
 |.nilp,_,h=>by simp only[ren,rel]at h|-;exact h
 |.ptr j i off,v,h=>by
  simp only[ren]
  split
  ·rename_i j' hj;simp only[rel]at h|-;obtain⟨x,hx,e⟩:=h;exact⟨x,(ho j' j (JbE hj)).trans hx,e⟩
  ·simp only[rel]
 |.rptr cs,v,h=>by simp only[ren,rel]at h|-;exact h
 |.nils,_,h=>by simp only[ren,rel]at h|-;exact h
 |.slc j off len cap,v,h=>by
  simp only[ren]
  split
  ·rename_i j' hj;simp only[rel]at h|-;obtain⟨x,a,c,hx,e⟩:=h;exact⟨x,a,c,(ho j' j (JbE hj)).trans hx,e⟩
  ·simp only[rel]
 |.rslc z' e cap,v,h=>by simp only[ren,rel]at h|-;exact h
 |.nilm,_,h=>by simp only[ren,rel]at h|-;exact h
 |.map j,v,h=>by
  simp only[ren]
  split
  ·rename_i j' hj;simp only[rel]at h|-;obtain⟨x,hx,e⟩:=h;exact⟨x,(ho j' j (JbE hj)).trans hx,e⟩
  ·simp only[rel]
 |.fn f l1 l2,_,h=>by simp only[ren,rel]at h|-;obtain⟨vs1,vs2,e,h1,h2⟩:=h;exact⟨vs1,vs2,e,JaH ho l1 _ h1,JaH ho l2 _ h2⟩
 |.yld _,_,h=>by simp only[ren,rel]at h|-;exact h
 |.nilf,_,h=>by simp only[ren,rel]at h|-;exact h
 |.iface _ c,_,h=>by simp only[ren,rel]at h|-;obtain⟨r,e,h1⟩:=h;exact⟨r,e,Jhn ho c _ h1⟩
 |.nili,_,h=>by simp only[ren,rel]at h|-;exact h
 |.agg l,_,h=>by simp only[ren,rel]at h|-;obtain⟨vs,e,h1⟩:=h;exact⟨vs,e,JaH ho l _ h1⟩
 |.tup l,_,h=>by simp only[ren,rel]at h|-;obtain⟨vs,e,h1⟩:=h;exact⟨vs,e,JaH ho l _ h1⟩
theorem JaH {own own':LC}{imm:Nat->Nat->LG}{ρ:LB}(ho:∀(j:Nat) id,ρ[j]? = some id->own'[j]? = own[id]?):∀(l:Lu) (vs:LH),J7 own imm l vs->J7 own' imm (JG ρ l) vs
 |[],vs,h=>by simp only[JG,J7]at h|-;exact h
 |c::cs,vs,h=>by simp only[JG,J7]at h|-;obtain⟨r,rs,e,h1,h2⟩:=h;exact⟨r,rs,e,Jhn ho c _ h1,JaH ho cs _ h2⟩
end
def Xn (ρ:LB):CObj->CObj
 |.arr z e=>.arr z (e.map (JG ρ))
 |.map kvs=>.map (kvs.map λp=>(ren ρ p.1,ren ρ p.2))
 |o=>o
def KE (ρ:LB)(H:Lv):Lv:=ρ.map λid=>Xn ρ (H.getD id .dead)
structure RenOk (ρ:LB)(n0:Nat)(H:Lv):Prop where
 nodup:ρ.Nodup
 lt:∀id∈ρ,id<H.length
 base:∀k,k<n0->ρ[k]? = some k
theorem JeG:∀(l:Lu),(JG ρ l).length=l.length
 |[]=>rfl
 |_::cs=>by simp[JG,JeG cs]
theorem renL_get:∀(l:Lu) (i:Nat),(JG ρ l)[i]? = (l[i]?).map (ren ρ)
 |[],_=>by simp[JG]
 |c::cs,0=>by simp[JG]
 |c::cs,i+1=>by simp[JG,renL_get cs i]
theorem XD(o:CObj):(Xn ρ o).alive=o.alive:=by cases o <;> rfl
theorem Jd5{k:Nat}{o:CObj}(hl:∀id∈ρ,id<H.length)(h:(KE ρ H)[k]? = some o):∃id o0,ρ[k]? = some id/\H[id]? = some o0/\o=Xn ρ o0:=by
 simp only[KE,Gr]at h
 cases hk:ρ[k]? with
 |none=>simp[hk]at h
 |some id=>have Ab:=hl id (Gl hk);simp[hk,Gc,Gb Ab]at h;exact⟨id,H[id],rfl,Gb Ab,h.symm⟩
theorem relO_ren{imm:Nat->Nat->LG}{es:LQ}{R:Nat->LG}(hf:∀c v,rel own imm c v->rel own' imm (ren ρ c) v)(h:relO own imm zz es R o):relO own' imm zz (es.map (JG ρ)) R o:=by
 intro j e he;rw[Gr]at he
 cases IX:es[j]? with
 |none=>simp[IX]at he
 |some e0=>
  simp[IX]at he;subst he;obtain⟨h1,h2⟩:=h j e0 IX;refine⟨by rw[JeG];exact h1,λt c hc=>?_⟩;rw[renL_get]at hc
  cases ht:e0[t]? with
  |none=>simp[ht]at hc
  |some c0=>simp[ht]at hc;subst hc;obtain⟨r,h3,h4⟩:=h2 t c0 ht;exact⟨r,h3,hf _ _ h4⟩
theorem Sim.ren(hs:Sim E m H w)(hr:RenOk ρ n0 H)(hn:n0<=H.length) :
  ∃own',Sim E { m with own:=own' } (KE ρ H) w/\Ext n0 m H w { m with own:=own' } (KE ρ H) w/\(∀c v,rel m.own m.imm c v->rel own' m.imm (ren ρ c) v)/\∀l vs,J7 m.own m.imm l vs->J7 own' m.imm (JG ρ l) vs:=by
 let own':LC:=ρ.map λid=>m.own.getD id ⟨0,0,0,0⟩
 have ho:∀(j:Nat) id,ρ[j]? = some id->own'[j]? = m.own[id]?:=by
  intro j id hj;have Ab:id<m.own.length:=by rw[hs.len];exact hr.lt id (Gl hj)
  simp[own',hj,Gc,Gb Ab]
 have hf:∀c v,rel m.own m.imm c v->rel own' m.imm (Go.Cm.ren ρ c) v:=Jhn ho;have key:∀(k:Nat) o x,(KE ρ H)[k]? = some o->own'[k]? = some x->∃id o0,ρ[k]? = some id/\H[id]? = some o0/\o=Xn ρ o0/\m.own[id]? = some x:=by intro k o x hk hx;obtain⟨id,o0,h1,h2,h3⟩:=Jd5 hr.lt hk;exact⟨id,o0,h1,h2,h3,(ho k id h1).symm.trans hx⟩
 refine⟨own',⟨by simp[own',KE],λk o x hk hx=>?_,hs.imm,hs.one,λk k' o o' x x' hk AC ha AX hx Aw hB=>?_,λk o x hk ha hx=>?_,λk s b hk=>?_,λk o x hk ha hx=>?_,hs.extlt,hs.gl⟩,⟨Gd _,λ_ _ _=>rfl,KJ.refl _,λB hB=>.inl ?_,λB i v hv=>.inl hv,λk x hk hx=>?_,λ_=>?_,rfl,rfl,rfl⟩,hf,JaH ho⟩
 ·obtain⟨id,o0,h1,h2,rfl,h4⟩:=key k o x hk hx;have:=hs.obj id o0 x h2 h4
  cases o0 with
  |arr z' es=>obtain⟨a1,c,el,a2,a3,a4,a5,a6⟩:=this;exact⟨a1,c,el,a2,a3,by simpa using a4,relO_ren hf a5,a6⟩
  |map kvs=>
   obtain⟨es,clock,a1,a2,a3⟩:=this;refine⟨es,clock,a1,by simpa using a2,λi k v e hk he=>?_⟩;rw[Gr]at hk
   cases Ch:kvs[i]? with
   |none=>simp[Ch]at hk
   |some p=>simp[Ch]at hk;obtain⟨rfl,rfl⟩:=hk;have:=a3 i p.1 p.2 e Ch he;exact⟨hf _ _ this.1,hf _ _ this.2⟩
  |dead=>trivial
  |ext s b=>trivial
 ·obtain⟨id,o0,h1,h2,rfl,h4⟩:=key k o x hk hx;obtain⟨id',o0',DN,FU,rfl,Uj⟩:=key k' o' x' AC Aw;rw[XD]at ha AX;have:=hs.sep id id' o0 o0' x x' h2 FU ha AX h4 Uj hB;subst this;exact(List.getElem?_inj (Gg.1 h1).1 hr.nodup).1 (h1.trans DN.symm)
 ·obtain⟨id,o0,h1,h2,rfl,h4⟩:=key k o x hk hx;rw[XD]at ha;exact hs.ro id o0 x h2 ha h4
 ·obtain⟨id,o0,h1,h2,h3⟩:=Jd5 hr.lt hk;have:o0=.ext s b:=by cases o0 <;> simp[Xn]at h3;simp[h3]
  subst this;exact hs.ext id s b h2
 ·obtain⟨id,o0,h1,h2,rfl,h4⟩:=key k o x hk hx;rw[XD]at ha;exact hs.extsep id o0 x h2 ha h4
 ·rcases hB with h|⟨k,o,x,hk,ha,hx,hB⟩
  ·exact .inl h
  ·obtain⟨id,o0,h1,h2,rfl,h4⟩:=key k o x hk hx;rw[XD]at ha;exact .inr ⟨id,o0,x,h2,ha,h4,hB⟩
 ·exact(ho k k (hr.base k hk)).trans hx
 ·cases n0 with
  |zero=>exact GA _
  |succ n=>have:=(Gg.1 (hr.base n (GN n))).1;simp[own'];omega
def Jde (ρ:LB)(n0 len:Nat):Bool:=decide ρ.Nodup && ρ.all (λid=>decide (id<len)) && (Gi n0).all (λk=>ρ[k]? == some k)
theorem Q7(h:Jde ρ n0 H.length=true):RenOk ρ n0 H:=by simp only[Jde,Ga,decide_eq_true_eq,GG,Gx,beq_iff_eq]at h;exact⟨h.1.1,h.1.2,h.2⟩
theorem Jga(hr:RenOk ρ n0 H)(h:Ok P E n0 N Q k (JG ρ T) (KE ρ H)):Ok P E n0 N Q k T H:=by
 intro m w a b cs kr rest hp hd hk;obtain⟨own',hs,he,_,hT⟩:=Sim.ren (n0:=n0) hp.sim hr hp.long;have Ad:n0<=(KE ρ H).length:=by
  cases n0 with
  |zero=>exact GA _
  |succ n=>have:=(Gg.1 (hr.base n (GN n))).1;simp[KE];omega
 exact Reach.step (.refl _ _) he (h { m with own:=own' } w a b cs kr rest ⟨hs,hT _ _ hp.tmps,Ad⟩ (hd.ext he) hk)
theorem Js {x:ICode}{σ:Type}(I:σ->Prop)(inv:σ->Lu)(hp:σ->Lv)(μ:σ->Nat)(s0:σ)(ρ0:LB)(h0:I s0)(M8:Jde ρ0 n0 H.length=true)(hT:forget (JG ρ0 T) (inv s0))(hH:KE ρ0 H=hp s0)
  (hb:∀s,I s->KD P E n0 N (Jeo P E n0 N Q k λT' H'=>∃s' ρ,I s'/\μ s' < μ s/\Jde ρ n0 H'.length=true/\KE ρ H'=hp s'/\forget (JG ρ T') (inv s')) [.code x] (inv s) (hp s)):Ok P E n0 N Q (.code (.loop x)::k) T H:=by
 refine ok_loop (I:=λs T H=>I s/\∃ρ,RenOk ρ n0 H/\wks (JG ρ T) (inv s)/\KE ρ H=hp s) μ s0 ⟨h0,ρ0,Q7 M8,YF hT,hH⟩ ?_;rintro s T H ⟨hs,ρ,hr,hw,hH⟩;refine Jga hr (Qm hw ?_);rw[hH];refine(JD _ _ _ (hb s hs)).mono λe T' H' hq=>Jdy (λT2 H2 h2=>?_) hq
 obtain⟨s',ρ',AB,Ab,h3,h4,hf⟩:=h2;exact⟨s',⟨AB,ρ',Q7 h3,YF hf,h4⟩,Ab⟩
def gp:List (Nat×CV)->Nat->Lu
 |[],n=>GH n .un
 |(g,v)::l,n=>GH g .un++v::gp l n
def Qr (id:Nat)(els:LQ):CV:=match els with
 |[]=>.nils
 |_::_=>.slc id 0 els.length none
def Xm (z:Nat)(els:LQ):CObj:=match els with
 |[]=>.dead
 |_::_=>.arr z els
theorem Ya {id:Nat}:Qr id []=.nils:=rfl
theorem JaF:Xm z []=.dead:=rfl
theorem YL {id:Nat}{e:Lu}:Qr id (e::els)=.slc id 0 (els.length+1) none:=rfl
theorem Ja7{e:Lu}:Xm z (e::els)=.arr z (e::els):=rfl
theorem Jae {id:Nat}(h:els≠[]):Qr id els=.slc id 0 els.length none:=by cases els <;> simp_all [Qr]
theorem YM(h:els≠[]):Xm z els=.arr z els:=by cases els <;> simp_all [Xm]
theorem KM {id:Nat}{e:Lu}{l:LQ}:Qr id (els++e::l)=.slc id 0 (els.length+(l.length+1)) none:=by rw[Jae sM];simp
theorem KN{e:Lu}{l:LQ}:Xm z (els++e::l)=.arr z (els++e::l):=YM sM
theorem Jo:Xn ρ (.arr z els)=.arr z (els.map (JG ρ)):=rfl
theorem Jho{kvs:List (CV×CV)}:Xn ρ (.map kvs)=.map (kvs.map λp=>(ren ρ p.1,ren ρ p.2)):=rfl
theorem Jn:Xn ρ .dead=.dead:=rfl
theorem Qw(hc:els.map (JG ρ)=els):Xn ρ (Xm z els)=Xm z els:=by
 cases els with
 |nil=>rfl
 |cons e l=>simp only[Xm,Xn];rw[hc]
mutual
theorem YD {ρ:LB}:∀(c:CV),c.closed=true->ren ρ c=c
 |.un,_=>rfl
 |.bool _,_=>rfl
 |.int _ _,_=>rfl
 |.str _,_=>rfl
 |.nilp,_=>rfl
 |.ptr _ _ _,h=>by simp[CV.closed]at h
 |.rptr _,_=>rfl
 |.nils,_=>rfl
 |.slc _ _ _ _,h=>by simp[CV.closed]at h
 |.rslc _ _ _,_=>rfl
 |.nilm,_=>rfl
 |.map _,h=>by simp[CV.closed]at h
 |.fn f l1 l2,h=>by simp only[CV.closed,Ga]at h;simp only[ren,Q8 l1 h.1,Q8 l2 h.2]
 |.yld _,_=>rfl
 |.nilf,_=>rfl
 |.iface t c,h=>by simp only[CV.closed]at h;simp only[ren,YD c h]
 |.nili,_=>rfl
 |.agg l,h=>by simp only[CV.closed]at h;simp only[ren,Q8 l h]
 |.tup l,h=>by simp only[CV.closed]at h;simp only[ren,Q8 l h]
theorem Q8 {ρ:LB}:∀(l:Lu),Jk l=true->JG ρ l=l
 |[],_=>rfl
 |c::cs,h=>by simp only[Jk,Ga]at h;simp only[JG,YD c h.1,Q8 cs h.2]
end
theorem Jc:∀{els:LQ},Jq els=true->els.map (JG ρ)=els
 |[],_=>rfl
 |e::l,h=>by simp only[Jq,Ga]at h;simp only[GK,Q8 e h.1,Jc h.2]
theorem vr_ren (ρ:LB)(hr:Jde ρ n0 H.length=true)(h:KD P E n0 N Q k (JG ρ T) (KE ρ H)):Ok P E n0 N Q k T H:=Jga (Q7 hr) (JD _ _ _ h)
theorem CallsC.ren{args:Lu}(h:CallsC P E f args H R)(hR:∀v H',R v H'->∃ρ,Jde ρ H.length H'.length=true/\R' (ren ρ v) (KE ρ H')):CallsC P E f args H R':=by
 intro m w vs hs hv;refine(h m w vs hs hv).mono ?_;rintro e w' ⟨r,m',v,H',h1,h2,h3,h4,h5⟩;obtain⟨ρ,g1,g2⟩:=hR _ _ h5;have Ad:H.length<=H'.length:=by have:=h2.long (by rw[hs.len];exact Gd _);rw[h3.len]at this;exact this
 obtain⟨own',AB,he,hf,_⟩:=Sim.ren (n0:=H.length) h3 (Q7 g1) Ad;exact⟨r,_,_,_,h1,h2.trans he,AB,hf _ _ h4,g2⟩
theorem Sim.pad (hs:Sim E m H w):Sim E { m with own:=m.own++[⟨0,0,0,0⟩] } (H++[.dead]) w/\KZ m.own (m.own++[⟨0,0,0,0⟩])/\Ext n0 m H w { m with own:=m.own++[⟨0,0,0,0⟩] } (H++[.dead]) w:=by
 have ho:=KZ.append m.own [⟨0,0,0,0⟩];have key:∀(k:Nat) o x,(H++[CObj.dead])[k]? = some o->o≠.dead->(m.own++[⟨0,0,0,0⟩])[k]? = some x->H[k]? = some o/\m.own[k]? = some x:=by
  intro k o x hk hd hx;by_cases Ab:k<H.length
  ·rw[Gv Ab]at hk;rw[Gv (by rw[hs.len];exact Ab)]at hx;exact⟨hk,hx⟩
  ·rw[Gq om]at hk
   cases hj:k-H.length with
   |zero=>rw[hj]at hk;simp at hk;exact absurd hk.symm hd
   |succ j=>rw[hj]at hk;simp at hk
 have al:∀o:CObj,o.alive=true->o≠.dead:=by rintro o h rfl;simp[CObj.alive]at h
 refine⟨⟨by simp[hs.len],λk o x hk hx=>?_,hs.imm,hs.one,λk k' o o' x x' hk AC ha AX hx Aw hB=>?_,λk o x hk ha hx=>?_,λk s b hk=>?_,λk o x hk ha hx=>?_,hs.extlt,hs.gl⟩,ho,
  ⟨Gd _,λ_ _ _=>rfl,KJ.refl _,λB hB=>.inl ?_,λB i v hv=>.inl hv,λk x _ hx=>ho _ _ hx,λh=>by simp;omega,rfl,rfl,rfl⟩⟩
 ·by_cases hd:o=.dead
  ·subst hd;trivial
  ·obtain⟨h1,h2⟩:=key k o x hk hd hx;exact KO ho (KJ.refl _) (λ_=>rfl) (hs.obj k o x h1 h2)
 ·obtain⟨h1,h2⟩:=key k o x hk (al o ha) hx;obtain⟨h3,h4⟩:=key k' o' x' AC (al o' AX) Aw;exact hs.sep k k' o o' x x' h1 h3 ha AX h2 h4 hB
 ·obtain⟨h1,h2⟩:=key k o x hk (al o ha) hx;exact hs.ro k o x h1 ha h2
 ·have Ab:k<H.length:=by
   refine Ld λAb=>?_
   rw[Gq om]at hk
   cases hj:k-H.length with
   |zero=>rw[hj]at hk;simp at hk
   |succ j=>rw[hj]at hk;simp at hk
  rw[Gv Ab]at hk;exact hs.ext k s b hk
 ·obtain⟨h1,h2⟩:=key k o x hk (al o ha) hx;exact hs.extsep k o x h1 ha h2
 ·rcases hB with h|⟨k,o,x,hk,ha,hx,hB⟩
  ·exact .inl h
  ·obtain⟨h1,h2⟩:=key k o x hk (al o ha) hx;exact .inr ⟨k,o,x,h1,ha,h2,hB⟩
theorem YJ (h:KD P E n0 N Q k T (H++[.dead])):Ok P E n0 N Q k T H:=by intro m w a b cs kr rest hp hd hk;obtain⟨hs,ho,he⟩:=Sim.pad (n0:=n0) hp.sim;exact Reach.step (.refl _ _) he (JD _ _ _ h _ w a b cs kr rest ⟨hs,KY ho (KJ.refl _) _ _ hp.tmps,by have:=hp.long;simp;omega⟩ (hd.ext he) hk)
theorem exAppend_row{id:Nat}{x:Lu}(hH:H[id]? = some (Xm z els)) :
  K9 z bytes H (Qr id els) (x::xs)=some (JA (els.length+(xs.length+1)) bytes,.slc H.length 0 (els.length+(xs.length+1)) none,H.set id .dead++[.arr z (els++x::xs)]):=by
 cases els with
 |nil=>
  have Ab:=(Gg.1 hH).1;have:H.set id .dead=H:=by
   refine GD λi=>?_
   rw[Gw]
   split
   ·rename_i h;subst h;rw[hH];simp[Xm]
   ·rfl
  simp[K9,Qr,this]
 |cons e l=>simp only[Xm]at hH;simp[K9,Qr,hH]
def Jej (els:LQ):Option Nat:=match els with
 |[]=>some 0
 |_::_=>none
def deadE (z:Nat)(els:LQ):CObj:=match els with
 |[]=>.arr z []
 |_::_=>.dead
def condE (els:LQ)(n:Nat)(c:Cond):Cond:=match els with
 |[]=>.and (.le 1 (0+n)) c
 |_::_=>c
theorem condE_holds{c:Cond}:(condE els (n+1) c).holds=c.holds:=by
 cases els with
 |nil=>simp[condE,Cond.holds]
 |cons e l=>rfl
theorem Yz {e:Lu}{l:LQ}:Jej (els++e::l)=none:=by cases els <;> rfl
theorem exAppend_E{id:Nat}{x:Lu}(hH:H[id]? = some (.arr z els))(hn:n=els.length) :
  K9 z bytes H (.slc id 0 n (Jej els)) (x::xs)=some (condE els (xs.length+1) (JA (els.length+(xs.length+1)) bytes),.slc H.length 0 (els.length+(xs.length+1)) none,H.set id (deadE z els)++[.arr z (els++x::xs)]):=by
 subst hn
 cases els with
 |nil=>
  have Ab:=(Gg.1 hH).1;have:H.set id (.arr z [])=H:=by
   refine GD λi=>?_
   rw[Gw]
   split
   ·rename_i h;subst h;rw[hH]
   ·rfl
  simp[K9,Jej,deadE,condE,hH,this]
 |cons e l=>simp[K9,Jej,deadE,condE,hH]
mutual
theorem X6 {id z:Nat}{els:LQ}:∀(c:CV),c.closed=true->frz id z els c=c
 |.un,_=>rfl
 |.bool _,_=>rfl
 |.int _ _,_=>rfl
 |.str _,_=>rfl
 |.nilp,_=>rfl
 |.ptr _ _ _,h=>by simp[CV.closed]at h
 |.rptr _,_=>rfl
 |.nils,_=>rfl
 |.slc _ _ _ _,h=>by simp[CV.closed]at h
 |.rslc _ _ _,_=>rfl
 |.nilm,_=>rfl
 |.map _,h=>by simp[CV.closed]at h
 |.fn f l1 l2,h=>by simp only[CV.closed,Ga]at h;simp only[frz,QP l1 h.1,QP l2 h.2]
 |.yld _,_=>rfl
 |.nilf,_=>rfl
 |.iface t c,h=>by simp only[CV.closed]at h;simp only[frz,X6 c h]
 |.nili,_=>rfl
 |.agg l,h=>by simp only[CV.closed]at h;simp only[frz,QP l h]
 |.tup l,h=>by simp only[CV.closed]at h;simp only[frz,QP l h]
theorem QP {id z:Nat}{els:LQ}:∀(l:Lu),Jk l=true->JK id z els l=l
 |[],_=>rfl
 |c::cs,h=>by simp only[Jk,Ga]at h;simp only[JK,X6 c h.1,QP cs h.2]
end
theorem Jgt{args:Lu}(h:CallsC P Env.none f args [] λv H'=>∃id,v=Qr id els/\H'[id]? = some (Xm z els))(ha:Jk args=true)(hc:Jq els=true):Fn P f args (.rslc z els none):=by
 refine fn_of_row (h.mono λv H' ⟨id,h1,h2⟩=>?_) ha hc
 cases els with
 |nil=>exact .inl ⟨rfl,h1⟩
 |cons e l=>exact .inr ⟨id,h2,none,h1⟩
theorem Jgu{args:Lu}(h:CallsC P Env.none f args [] λv H'=>∃id off len cap es,v=.slc id off len cap/\H'[id]? = some (.arr z es)/\off+len<=es.length/\(es.drop off).take len=els/\Jq es=true)(ha:Jk args=true):Fn P f args (.rslc z els none):=by
 refine JhQ ?_ ha rfl;have h2:=h.freeze (R':=λv H'=>v=.rslc z els none) λv H' ⟨id,off,len,cap,es,h1,h2,h5,h4,h3⟩=>⟨id,z,es,h2,h3,by rw[h1];simp[frz,h4,h5]⟩
 exact h2
attribute [go_sem high] exAppend_E
attribute [go_sem] condE_holds exAppend_row gp List.length_set
section
variable{a:Act}{o:Oper}
theorem invo_bin {op:Op}{b:BinOp}{tk:TK}{i j:IArg}(h:XV P op=some (.bin b tk i j)):∃t d x y ty,op=.binOp b t x y ty/\P.underlying t=some d/\tk=XX d/\JP x=some i/\JP y=some j:=by
 unfold XV at h
 split at h
 all_goals (repeat' split at h)
 all_goals first
  |(cases h;done)
  |(obtain⟨_,_,h9⟩:=YP h;cases h9;done)
  |skip
 cases h
 exact⟨_,_,_,_,_,rfl,‹_›,rfl,‹_›,‹_›⟩
theorem eqnil_good {i:IArg}(Ac:XV P o.op=some (.bin .eql .slice i (.c .nils)))(hx:Kg T i=.rslc z [] none)(hp:Pre E n0 m H w T a):∃b:Bool,Good P E n0 m H w (execOp a.eval o) (.bool b) H:=by
 obtain⟨t,d,x,y,ty,ho,hd,Cg,Dq,fD⟩:=invo_bin Ac;obtain⟨e,rfl⟩:=XJ Cg.symm;have h1:=JZ hp.tmps Dq;have h2:=JZ hp.tmps fD;rw[hx]at h1;rw[aget_c]at h2;simp only[rel]at h1 h2;have key:∀u:Value,(∃p,u=.slice p 0 0)\/(∃p q r,u=.slice (some p) q r)->∃b:Bool,∀w,(binOp .eql t u (.slice none 0 0)).run P w=.ok (.bool b) w:=by
  rintro u (⟨p,rfl⟩|⟨p,q,r,rfl⟩)
  ·cases p with
   |none=>obtain⟨r,hr,_,_,Ak⟩:=eqv (P:=P) (op:=.eql) (t:=t) (b:=true) (v:=.bool true) (c:=.tt) (own:=[]) (imm:=λ_ _=>none) (z:=.slice none 0 0) (z':=.slice none 0 0) (λn w=>by simp only[Op.equalIn,Sem.run_bind,run_underlying hd,Result.andThen_ok];rfl) rfl rfl rfl sM sM;simp only[rel]at hr;subst hr;exact⟨true,Ak⟩
   |some p=>obtain⟨r,hr,_,_,Ak⟩:=eqv (P:=P) (op:=.eql) (t:=t) (b:=false) (v:=.bool false) (c:=.tt) (own:=[]) (imm:=λ_ _=>none) (z:=.slice (some p) 0 0) (z':=.slice none 0 0) (λn w=>by simp only[Op.equalIn,Sem.run_bind,run_underlying hd,Result.andThen_ok];rfl) rfl rfl rfl sM sM;simp only[rel]at hr;subst hr;exact⟨false,Ak⟩
  ·obtain⟨r',hr,_,_,Ak⟩:=eqv (P:=P) (op:=.eql) (t:=t) (b:=false) (v:=.bool false) (c:=.tt) (own:=[]) (imm:=λ_ _=>none) (z:=.slice (some p) q r) (z':=.slice none 0 0) (λn w=>by simp only[Op.equalIn,Sem.run_bind,run_underlying hd,Result.andThen_ok];rfl) rfl rfl rfl sM sM;simp only[rel]at hr;subst hr;exact⟨false,Ak⟩
 have hu:(∃p,a.eval x=.slice p 0 0)\/(∃p q r,a.eval x=.slice (some p) q r):=by
  rcases h1 with ⟨_,_,b,hb⟩|⟨B,o1,c,hb,_⟩
  ·exact .inl ⟨b,hb⟩
  ·exact .inr ⟨_,_,_,hb⟩
 obtain⟨b,Ak⟩:=key _ hu;refine⟨b,JE (r:=.bool b) hp.sim ?_ (by simp only[rel])⟩;have Uv:∀cs ds,¬(a.eval x=.agg cs/\a.eval y=.agg ds):=by rintro cs ds ⟨_,h⟩;rw[h2]at h;cases h
 have af:¬(a.eval x=.nilIface/\a.eval y=.nilIface):=by rintro⟨_,h⟩;rw[h2]at h;cases h
 simp only[execOp,ho,Sem.run_bind,JcO .eql t x y _ _ w Uv af,Result.andThen_ok,Sem.run_pure];rw[h2,Ak w];rfl
theorem ok_eqnil{i:IArg}(hx:Kg T i=.rslc z [] none)(h:∀b,KD P E n0 N Q (.ops l::k) (put T d (.bool b)) H):Ok P E n0 N Q (.ops (⟨d,.bin .eql .slice i (.c .nils),none⟩::l)::k) T H:=by
 intro m w a b cs kr rest hp hd hk;obtain⟨ops,j,is,kr',o,rfl,ho,FN,AC⟩:=JbG hk;obtain⟨hw,BR,Bc⟩:=JaY FN (.inl rfl) hp.tmps;obtain⟨bb,m',w',r,nx,Ak,Dt,Af,C9,hrel,CL⟩:=eqnil_good Bc hx hp;have Al:=Jc9 (b:=b) (cs:=cs) (is:=is) (kr:=kr'++rest) ho hw (semAt_plain Bc) Ak Dt;rw[BR]at Al;have Ad:n0<=H.length:=by rw[<-C9.len];exact Af.long (by rw[hp.sim.len];exact hp.long)
 refine Reach.step (.one Al) Af ((JD _ _ _ (h bb)) m' w' _ b cs (.inRegion ops is::kr') rest (Jdg C9 (KY CL Af.imm _ _ hp.tmps) Ad hrel) ?_ AC);rw[put_defers];exact hd.ext Af
end
end Go.Cm
section
open Go.ChangeShapes Go.WideShapes Go.RowKit
namespace Go.Cm
variable {W W':World}{B base d i:Nat}{imm:Nat->Nat->LG}{T:TypeId->Prop}{t:TypeId}{k:IntKind}{l:Lu}
def immW (W:World)(B i:Nat):LG:=match W.cell? ⟨B,i,none⟩ with
 |some v=>if v.oneCell'=true then some v else none
 |none=>none
theorem immW_some{v:Value}(h:immW W B i=some v):W.cell? ⟨B,i,none⟩=some v/\v.oneCell'=true:=by
 unfold immW at h
 split at h
 ·split at h
  ·cases h;exact⟨‹_›,‹_›⟩
  ·cases h
 ·cases h
theorem immW_mk{v:Value}(h:W.cell? ⟨B,i,none⟩=some v)(h1:v.oneCell'=true):immW W B i=some v:=by simp[immW,h,h1]
theorem sim_start (W:World)(hg:GLw W):Sim Env.none { own:=[],imm:=immW W,ext:=λ_=>False } [] W:=⟨rfl,sM,λB i v h=>(immW_some h).1,λB i v h=>(immW_some h).2,sM,sM,sM,sM,λB h=>hg.lt (h.resolve_left id),hg,sM⟩
theorem one_of_rel {own:LC}{c:CV}{v:Value}(h:c.oneCell=true)(hr:rel own imm c v):v.oneCell'=true:=by
 cases c <;> simp[CV.oneCell]at h <;> simp only[rel]at hr
 case bool=>subst hr;rfl
 case int=>subst hr;rfl
 case str=>subst hr;rfl
 case nilp=>subst hr;rfl
 case ptr=>obtain⟨x,_,rfl⟩:=hr;rfl
 case rptr=>obtain⟨B,o,rfl,_⟩:=hr;rfl
 case nils=>subst hr;rfl
 case slc=>obtain⟨x,a,c,_,rfl,_⟩:=hr;rfl
 case rslc=>rcases hr with ⟨_,_,b,rfl⟩|⟨B,o,c,rfl,_⟩ <;> rfl
 case nilm=>subst hr;rfl
 case map=>obtain⟨x,_,rfl⟩:=hr;rfl
 case fn=>obtain⟨a,b,rfl,_⟩:=hr;rfl
 case yld=>subst hr;rfl
 case nilf=>subst hr;rfl
 case iface=>obtain⟨r,rfl,_⟩:=hr;rfl
 case nili=>subst hr;rfl
def Jbd (P:Program):Nat->TypeId->Bool
 |0,_=>false
 |d+1,t=>match P.underlying t with
  |some .bool=>true
  |some (.int _)=>true
  |some .string=>true
  |some (.slice e)=>Jbd P d e && decide (0<P.cellsOf e)
  |some (.struct fs)=>fs.toList.all λf=>Jbd P d f.type
  |_=>false
def fits (P:Program):Nat->TypeId->Lu->Prop
 |0,_,_=>False
 |d+1,t,l=>match P.underlying t with
  |some .bool=>∃b,l=[.bool b]
  |some (.int k)=>∃x,l=[.int k x]/\InR k x
  |some .string=>∃s,l=[.str s]/\s.size<=maxLen
  |some (.slice e)=>∃els,l=[.rslc (P.cellsOf e) els none]/\els.length<=maxLen/\∀x∈els,fits P d e x
  |some (.struct fs)=>∃ls:LQ,l=ls.flatten/\ls.length=fs.size/\∀(i:Nat) f li,fs[i]? = some f->ls[i]? = some li->fits P d f.type li
  |_=>False
theorem JbQ:∀{l:Lu},Xk l=true↔∀c∈l,c.oneCell=true
 |[]=>by simp[Xk]
 |c::l=>by simp[Xk,JbQ (l:=l)]
theorem JdF {own:LC}:∀(sizes:LB) (cs:LH) (ls:LQ),cs.length=sizes.sum->ls.length=sizes.length->
  (∀(j:Nat) n li,sizes[j]? = some n->ls[j]? = some li->J7 own imm li ((cs.drop (sizes.take j).sum).take n))->J7 own imm ls.flatten cs
 |[],cs,ls,h1,h2,_=>by have:ls=[]:=G7 h2;subst this;have:cs=[]:=G7 (by simpa using h1);subst this;simp[J7]
 |n::sizes,cs,[],_,h2,_=>by simp at h2
 |n::sizes,cs,l::ls,h1,h2,h=>by
  simp only[Lb]at h1;have e:cs=cs.take n++cs.drop n:=(List.take_append_drop n cs).symm;have h3:=h 0 n l rfl rfl;simp only[H9,List.sum_nil,La]at h3;have ih:=JdF sizes (cs.drop n) ls (by rw[List.length_drop];omega) (by simpa using h2) (λj m li hj hl=>by have:=h (j+1) m li (by simpa using hj) (by simpa using hl);simp only[Hw,Lb]at this;rw[List.drop_drop];exact this)
  rw[e,List.flatten_cons];exact Q9 h3 ih
section
variable {H:Type}{enc:TypeId×Value->H}{P:Program}{IY:Bool}
theorem cells?_get{a:Addr}{n:Nat}{cs:LH}(h:W.cells? base a n=some cs):cs.length=n/\∀t,t<n->W.cell? (a.add t)=cs[t]?:=by
 unfold World.cells? at h
 split at h
 ·have hl:=mapM_some_length h;refine⟨by simpa using hl,λt ht=>mapM_some_get h t t (by simp[ht])⟩
 ·cases h
theorem Jeu(K:Kids P T):∀(d:Nat) (t:TypeId) (cs:LH) (x:DataW H×List MemPlace) (fuel:Nat),T t->Jbd P d t=true->
  DataW.trod enc P W 0 (λ_=>true) IY fuel t cs=some x->∃l,J7 [] (immW W) l cs/\Xk l=true/\fits P d t l
 |0,_,_,_,_,_,h,_=>by simp[Jbd]at h
 |d+1,t,cs,x,fuel,hT,hp,h=>by
  unfold Jbd at hp
  split at hp
  ·rename_i ht;obtain⟨b,rfl,_⟩:=DataW.trod_bool ht h;exact⟨[.bool b],by simp[J7,rel],rfl,by simp[fits,ht]⟩
  ·rename_i k ht;obtain⟨n,rfl,_,hw⟩:=DataW.trod_int ht h;refine⟨[.int k n],by simp[J7,rel],rfl,?_⟩;simp only[fits,ht];refine⟨n,rfl,?_⟩;simp only[Lit.wf,Ga,decide_eq_true_eq]at hw;exact⟨hw.1,hw.2⟩
  ·rename_i ht;obtain⟨s,rfl,_,hs⟩:=DataW.trod_string ht h;exact⟨[.str s],by simp[J7,rel],rfl,by simp[fits,ht];exact hs⟩
  ·rename_i e ht;simp only[Ga,decide_eq_true_eq]at hp;obtain⟨gW,hz⟩:=hp;have jc:=K.slice hT ht;rcases DataW.trod_slice ht h with ⟨rfl,_⟩|⟨a,len,cap,elems,rest,n,rfl,rfl,_,_,DV,MI,Fq,he,hr,_⟩
   ·refine⟨[.rslc (P.cellsOf e) [] none],by simp[J7,rel],rfl,?_⟩;simp only[fits,ht];exact⟨[],rfl,sM,sM⟩
   ·have hr:=hr rfl;have key:∀i,i<len->∃li,(∃csi,W.cells? 0 (a.add (i*P.cellsOf e)) (P.cellsOf e)=some csi/\J7 [] (immW W) li csi)/\Xk li=true/\fits P d e li:=by intro i hi;have h1:=he i hi;rw[Gb om]at h1;obtain⟨csi,h2,h3⟩:=Hq.1 h1;obtain⟨li,g1,g2,g3⟩:=Jeu K d e csi _ n jc gW h3;exact⟨li,⟨csi,h2,g1⟩,g2,g3⟩
    have keyC:∃F:Nat->Lu,∀i,i<len->(∃csi,W.cells? 0 (a.add (i*P.cellsOf e)) (P.cellsOf e)=some csi/\J7 [] (immW W) (F i) csi)/\Xk (F i)=true/\fits P d e (F i):=by refine⟨λi=>if hi:i<len then Lf (key i hi) else [],λi hi=>?_⟩;simp only[dif_pos hi];exact Le (key i hi)
    obtain⟨F,hF⟩:=keyC;refine⟨[.rslc (P.cellsOf e) ((Gi len).map F) none],?_,rfl,?_⟩
    ·simp only[J7];refine⟨_,_,rfl,?_,rfl⟩;simp only[rel];by_cases DF:cap=0
     ·subst DF;have:len=0:=om
      subst this;exact .inl ⟨.inl trivial,rfl,_,rfl⟩
     ·have OL:∃b off,a=⟨b,off,none⟩:=by
       have ED:∃v,W.cell? a=some v:=by
        by_cases A9:len=0
        ·subst A9;have h1:=hr.2 0 om;rw[Gb om]at h1;obtain⟨csi,h2,_⟩:=Hq.1 h1;obtain⟨h3,h4⟩:=cells?_get h2;have h5:=h4 0 hz;rw[Gb om]at h5;exact⟨_,by simpa [Addr.add]using h5⟩
        ·obtain⟨csi,h2,_⟩:=(hF 0 om).1;obtain⟨h3,h4⟩:=cells?_get h2;have h5:=h4 0 hz;rw[Gb om]at h5;exact⟨_,by simpa [Addr.add]using h5⟩
       obtain⟨v,hv⟩:=ED;obtain⟨b,off,spot⟩:=a;have Rf:spot=none:=World.cell?_spot hv;subst Rf;exact⟨b,off,rfl⟩
      obtain⟨b,off,rfl⟩:=OL;refine .inr ⟨b,off,cap,sM,by simpa using DV,sM,?_⟩;rw[Qs];intro j el hj;have A8:j<len:=by have:=(Gg.1 hj).1;simpa using this
      simp[A8]at hj;subst hj;obtain⟨⟨csi,h2,h3⟩,h4,_⟩:=hF j A8;obtain⟨h5,h6⟩:=cells?_get h2;have Ad:=Ke h3;refine⟨by rw[Ad,h5],λt c hc=>?_⟩;obtain⟨v,hv,hrel⟩:=Yv h3 hc;have CG:t<P.cellsOf e:=by have:=(Gg.1 hv).1;omega
      have h7:=h6 t CG;rw[hv]at h7;rw[Go.WideShapes.add_plain,Go.WideShapes.add_plain]at h7;refine⟨v,immW_mk h7 (one_of_rel (JbQ.1 h4 c (Gl hc)) hrel),hrel⟩
    ·simp only[fits,ht];refine⟨_,rfl,by simp;omega,λy hy=>?_⟩;obtain⟨i,hi,rfl⟩:=GL.1 hy;exact(hF i (Gx.1 hi)).2.2
  ·rename_i fs ht;obtain⟨xs,n,rfl,rfl,Ad,Fy,hf⟩:=DataW.trod_struct ht h;obtain⟨Dz,Aq,Il⟩:=K.struct hT ht;rw[GG]at hp;have key:∀(i:Nat) f,fs[i]? = some f->∃li,J7 [] (immW W) li ((cs.drop f.offset).take (P.cellsOf f.type))/\Xk li=true/\fits P d f.type li:=by intro i f hi;have h1:=hf i f hi;have Ab:i<fs.size:=(Gy.1 hi).1;rw[Gb om]at h1;have hm:f∈fs.toList:=Gl (by rw[GR];exact hi);exact Jeu K d f.type _ _ n (Dz f hm) (hp f hm) h1
   have keyC:∃F:Nat->Lu,∀(i:Nat) f,fs[i]? = some f->J7 [] (immW W) (F i) ((cs.drop f.offset).take (P.cellsOf f.type))/\Xk (F i)=true/\fits P d f.type (F i):=by
    refine⟨λi=>if hi:i<fs.size then Lf (key i fs[i] (Gf hi)) else [],λi f hi=>?_⟩;have Ab:i<fs.size:=(Gy.1 hi).1;simp only[dif_pos Ab];have:=Le (key i fs[i] (Gf Ab));rw[Gf Ab]at hi
    cases hi
    exact this
   obtain⟨F,hF⟩:=keyC;refine⟨((Gi fs.size).map F).flatten,?_,?_,?_⟩
   ·refine JdF (fs.toList.map λf=>P.cellsOf f.type) cs _ (by rw[Ad,Aq]) sM (λj n li hj hl=>?_);rw[Gr]at hj
    cases UB:fs.toList[j]? with
    |none=>simp[UB]at hj
    |some f=>
     simp[UB]at hj;subst hj;have Sd:fs[j]? = some f:=by rw[<-GR];exact UB
     have Ab:j<fs.size:=(Gy.1 Sd).1;simp[Ab]at hl;subst hl;have h1:=(hF j f Sd).1;rw[Il j f UB]at h1;rw[<-List.map_take];exact h1
   ·rw[JbQ];intro c hc;obtain⟨l1,FD,CF⟩:=List.mem_flatten.1 hc;obtain⟨i,hi,rfl⟩:=GL.1 FD;rw[Gx]at hi;exact JbQ.1 (hF i fs[i] (Gf hi)).2.1 c CF
   ·simp only[fits,ht];refine⟨_,rfl,sM,λi f li hi hl=>?_⟩;have Ab:i<fs.size:=(Gy.1 hi).1;simp[Ab]at hl;subst hl;exact(hF i f hi).2.2
  ·simp at hp
def JaN (P:Program)(d:Nat)(t:TypeId)(c:CV):Prop:=match P.underlying t with
 |some (.struct _)=>∃l,c=.agg l/\fits P d t l
 |_=>fits P d t [c]
def fitsAll (P:Program)(d:Nat):List TypeId->Lu->Prop
 |[],l=>l=[]
 |t::ts,l=>∃c cs,l=c::cs/\JaN P d t c/\fitsAll P d ts cs
theorem trod_top(K:Kids P T){v:Value}{dd:DataW H}{p:List MemPlace}(hT:T t)(hp:Jbd P d t=true)(hv:Value.okWide P W .any base t v)
  (h:DataW.Trod enc P W 0 (λ_=>true) IY t v dd p):∃c,rel [] (immW W) c v/\JaN P d t c:=by
 obtain⟨fuel,hf⟩:=h;obtain⟨l,h1,h2,h3⟩:=Jeu K d t _ _ fuel hT hp hf
 cases d with
 |zero=>simp[Jbd]at hp
 |succ d=>
  have one:∀w:Value,w=v->v.cells=#[v]->(∀fs,P.underlying t≠some (.struct fs))->∃c,rel [] (immW W) c v/\JaN P (d+1) t c:=by
   intro w _ hc aa;rw[hc]at h1;simp only[J7]at h1
   cases l with
   |nil=>simp[J7]at h1
   |cons c l=>
    simp only[J7]at h1;obtain⟨r,rs,e,g1,g2⟩:=h1;simp at e;obtain⟨rfl,rfl⟩:=e;have:l=[]:=G7 (by rw[Ke g2];rfl);subst this;refine⟨c,g1,?_⟩;unfold JaN
    split
    ·rename_i fs En;exact absurd En (aa fs)
    ·exact h3
  have EW:=hp;unfold Jbd at hp
  split at hp
  ·rename_i ht;obtain⟨b,rfl⟩:=okWide_bool ht hv;exact one _ rfl rfl (by rw[ht];simp)
  ·rename_i k ht;obtain⟨b,rfl⟩:=okWide_int ht hv;exact one _ rfl rfl (by rw[ht];simp)
  ·rename_i ht;obtain⟨b,rfl⟩:=okWide_string ht hv;exact one _ rfl rfl (by rw[ht];simp)
  ·rename_i e ht;obtain⟨a,b,c,rfl⟩:=okWide_slice ht hv;exact one _ rfl rfl (by rw[ht];simp)
  ·rename_i fs ht;obtain⟨cs,rfl,_⟩:=okWide_struct ht hv;refine⟨.agg l,?_,?_⟩
   ·simp only[rel];exact⟨cs,rfl,h1⟩
   ·simp only[JaN,ht];exact⟨l,rfl,h3⟩
  ·simp at hp
theorem trod_all(K:Kids P T):∀{ts:List TypeId}{vs:LH}{ds:List (DataW H)}{p:List MemPlace},(∀t∈ts,T t/\Jbd P d t=true)->
  (∀(j:Nat) t v,ts[j]? = some t->vs[j]? = some v->Value.okWide P W .any base t v)->DataW.TrodAll enc P W 0 (λ_=>true) IY ts vs ds p->∃l,J7 [] (immW W) l vs/\fitsAll P d ts l
 |[],[],[],_,_,_,_=>⟨[],by simp[J7],rfl⟩
 |t::ts,v::vs,dd::ds,_,hT,hv,⟨p,q,h1,h2,_⟩=>by obtain⟨c,g1,g2⟩:=trod_top K (hT t sM).1 (hT t sM).2 (hv 0 t v rfl rfl) h1;obtain⟨l,g3,g4⟩:=trod_all K (λt ht=>hT t (by simp[ht])) (λj t v hj UW=>hv (j+1) t v (by simpa using hj) (by simpa using UW)) h2;exact⟨c::l,by simp only[J7];exact⟨v,vs,rfl,g1,g3⟩,c,l,rfl,g2,g4⟩
 |[],[],_::_,_,_,_,h=>h.elim
 |[],_::_,_,_,_,_,h=>by cases h
 |_::_,[],_,_,_,_,h=>by cases h
 |_::_,_::_,[],_,_,_,h=>h.elim
theorem Jcn{sp:Nat->Bool}:∀{ts:List TypeId}{vs:LH}{ds:List (DataW H)}{p:List MemPlace},DataW.TrodAll enc P W 0 sp IY ts vs ds p->(∀x∈p,W.sameAt W' x)->DataW.TrodAll enc P W' 0 sp IY ts vs ds p
 |[],[],[],_,h,_=>h
 |t::ts,v::vs,dd::ds,_,⟨p,q,⟨n,h1⟩,h2,e⟩,hs=>by subst e;exact⟨p,q,⟨n,DataW.trod_carry n _ _ _ h1 λx hx=>hs x (List.mem_append_left _ hx)⟩,Jcn h2 λx hx=>hs x (List.mem_append_right _ hx),rfl⟩
 |[],[],_::_,_,h,_=>h.elim
 |[],_::_,_,_,h,_=>by cases h
 |_::_,[],_,_,h,_=>by cases h
 |_::_,_::_,[],_,h,_=>h.elim
theorem Jht {f:Func}{s:ChangeSpec}{apart fresh Dn again:Bool}{W:World}{args:LJ}{v:Value}{ds gs:List (DataW H)}{before pa pv:List MemPlace}
  (hW:DataW.Whole enc P f.params.toList s.vars apart W args.toList ds gs before)
  (BB:∀(b:Nat) (sp:Nat->Bool) (hd:Bool),DataW.TrodAll enc P W' b sp hd f.resultTypes.toList (v.resultList f.resultTypes.size) (s.fn H (ds++gs)).results [])
  (Ee:∀sp:Nat->Bool,(∀p∈before,sp p.block=true)->DataW.TrodAll enc P W' 0 sp true f.params.toList args.toList (s.fn H (ds++gs)).args pa)
  (Ew:∀sp:Nat->Bool,(∀p∈before,sp p.block=true)->DataW.TrodVars enc P W' sp s.vars (s.fn H (ds++gs)).vars pv)
  (Dr:before=pa++pv) (hb:Below W.heap.size W W')
  (Ao:∀(j:Nat) (t:TypeId) (r:Value),f.resultTypes[j]? = some t->(v.resultList f.resultTypes.size)[j]? = some r->Value.okWide P W' .any 0 t r) :
  s.post enc P f apart fresh Dn again W args v W':=by
 have Ab:∀p∈before,p.block<W.heap.size:=λp hp=>hW.lt p hp
 have IK:∀p∈before,(λb=>decide (b<W.heap.size)) p.block=true:=λp hp=>by simpa using Ab p hp
 refine⟨ds,gs,before,[],pa,pv,hW,BB _ _ _,Ee _ IK,Ew _ IK,World.keptBut_mono (λp hp=>⟨hp,?_⟩) (hb.frame (·∈before)),λ_=>?_⟩
 ·rw[Dr,List.mem_append]at hp;exact Or.inr hp
 ·obtain⟨_,_,_,_,_,hz,hn⟩:=hW;refine⟨Ao,_,_,([]++pa)++pv,⟨[]++pa,pv,trodAll_append (Ee _ (λ_ _=>rfl)) (BB _ _ _),Ew _ (λ_ _=>rfl),rfl,?_,?_⟩,?_⟩
  ·intro b off hp;have AQ:MemPlace.cell b off∈before:=by rw[Dr];simpa using hp
   rw[hb.frozen (Ab _ AQ)];exact hz b off AQ
  ·intro ha;have:=hn ha;rw[Dr]at this;simpa using this
  ·intro p hp _;rw[Dr];simpa using hp
theorem law_contract {f:Nat}{fn:Func}{s:ChangeSpec}{bt:TypeId}(hl:laidOutB P=true)(hm:mapsRowed P=true)
  (hz:((Gi P.types.size).all λt=>match P.underlying t with|some (.slice e)=>decide (0<P.cellsOf e)|_=>true)=true)
  (dN:P.underlying bt=some .bool) (BB:fn.resultTypes=#[bt]) (Ew:s.vars=[]) (Eg:∀ds:List (DataW H),ds.length=fn.params.size->(s.fn H ds).results=[.lit (.bool true)]/\(s.fn H ds).args=ds/\(s.fn H ds).vars=[])
  (AJ:(fn.params.toList.all λt=>decide (t<P.types.size) && Jbd P d t)=true)
  (law:∀l:Lu,fitsAll P d fn.params.toList l->Fn P f l (.bool true))
  (W:World) (base:Nat) (args:LJ) (ds gs:List (DataW H)) (before:List MemPlace) (FX:∀(j:Nat) t v,fn.params[j]? = some t->args[j]? = some v->Value.okWide P W .any base t v)
  (hW:DataW.Whole enc P fn.params.toList s.vars false W args.toList ds gs before) (hg:GLw W) :
  Calls P f args W λe W'=>∃v,e=.returned v/\s.post enc P fn false true false false W args v W':=by
 have K:=kids_rows hl hm;have Sb:=slices_full_of P hz;rw[GG]at AJ;have hT:∀t∈fn.params.toList,t<P.types.size/\Jbd P d t=true:=λt ht=>by simpa using AJ t ht
 have dO:=hW;obtain⟨p,q,hA,hV,rfl,kD,F6⟩:=hW;rw[Ew]at hV;obtain⟨rfl,rfl⟩:=trodVars_none hV;obtain⟨l,h1,h2⟩:=trod_all (d:=d) (base:=base) K hT (λj t v hj UW=>FX j t v (by rw[<-GR];exact hj) (by rw[<-GR];exact UW)) hA;have hc:=law l h2 Env.none [] _ W args (sim_start W hg) h1;refine(hc.calls λk=>JeE none k).mono ?_;rintro e W' ⟨r,m',v,H',rfl,Af,hs,hrel,rfl,rfl⟩;simp only[rel]at hrel;subst hrel;have Cc:∀B,¬owned { own:=[],imm:=immW W,ext:=λ_=>False } [] B:=by
  rintro B (h|⟨k,o,x,hk,_⟩)
  ·exact h
  ·simp at hk
 have hb:Below W.heap.size W W':=⟨Af.same.1,Af.same.2.2,Af.same.2.1,Af.size,λk hk=>Af.frame k hk (Cc k)⟩;have Ab:∀x∈p++[],x.block<W.heap.size:=λx hx=>dO.lt x hx
 have AU:ds.length=fn.params.size:=by have:=(trodAll_length hA).2;simpa using this
 obtain⟨EL,IC,U8⟩:=Eg (ds++[]) (by simpa using AU);refine⟨_,rfl,Jht (pa:=p) (pv:=[]) dO (λ_ _ _=>?_) (λsp U7=>?_) (λ_ _=>?_) sM hb (ok_one BB rfl (okWide_bool_mk dN _))⟩
 ·rw[BB,EL];exact trodAll_cons_mk (shut_bool dN _) trodAll_mk0
 ·rw[IC,List.append_nil];exact DataW.TrodAll.respare K Sb (λt ht=>(hT t ht).1) (Jcn hA λx hx=>hb.same (Ab x (by simpa using hx))) (λx hx=>U7 x (by simpa using hx))
 ·rw[Ew,U8];rfl
theorem fits_int(ht:P.underlying t=some (.int k))(h:fits P d t l):∃x,l=[.int k x]/\InR k x:=by
 cases d with
 |zero=>exact h.elim
 |succ d=>simpa only[fits,ht]using h
theorem fits_str(ht:P.underlying t=some .string)(h:fits P d t l):∃b,l=[.str b]/\b.size<=maxLen:=by
 cases d with
 |zero=>exact h.elim
 |succ d=>simpa only[fits,ht]using h
theorem Jdt{e:TypeId}(ht:P.underlying t=some (.slice e))(h:fits P (d+1) t l):∃els,l=[.rslc (P.cellsOf e) els none]/\els.length<=maxLen/\∀x∈els,fits P d e x:=by simpa only[fits,ht]using h
theorem fits_struct2{f0 f1:Field}(ht:P.underlying t=some (.struct #[f0,f1]))(h:fits P (d+1) t l):∃a b,l=a++b/\fits P d f0.type a/\fits P d f1.type b:=by
 simp only[fits,ht]at h;obtain⟨ls,rfl,hl,hf⟩:=h
 match ls,hl with
 |[a,b],_=>exact⟨a,b,sM,hf 0 f0 a rfl rfl,hf 1 f1 b rfl rfl⟩
theorem top_int{c:CV}(ht:P.underlying t=some (.int k))(h:JaN P d t c):∃x,c=.int k x/\InR k x:=by
 simp only[JaN,ht]at h;obtain⟨x,h1,h2⟩:=fits_int ht h
 cases h1
 exact⟨x,rfl,h2⟩
end
end Go.Cm
end
namespace Go.Cm
variable {a f i n n0 z:Nat}{b:Bool}{v x:CV}{H H':Lv}{l:LD}{es es':List LB}{P:Program}{E:Env}{N:Fr}{Q:Exit->Lu->Lv->Prop}{T T' l1 l2 zero:Lu}{k:LM}{io:IOper}{r r':Option (Cond×CV×Lv)}{op:IOp}{bs:LK}{d:Option Nat}{K:Lu->Lv->Prop}{ps:List (Nat×IArg)}{g:Option (Nat×Bool)}{as xs:LP}{F:IFunc}{al:List (Nat×CV)}{R:CV->Lv->Prop}
inductive Foot where
 |all
 |on (l:LB)
def Foot.has:Foot->Nat->Prop
 |.all,_=>True
 |.on l,x=>x∈l
def Foot.meets:Foot->Foot->Bool
 |.all,.all=>true
 |.all,.on l=>!l.isEmpty
 |.on l,.all=>!l.isEmpty
 |.on l,.on l'=>l.any λx=>l'.contains x
theorem Foot.meets_of {a b:Foot}{x:Nat}(ha:a.has x)(hb:b.has x):a.meets b=true:=by
 cases a <;> cases b <;> simp only[Foot.has,Foot.meets]at *
 ·rename_i l;cases l <;> simp_all
 ·rename_i l;cases l <;> simp_all
 ·exact H7.2 ⟨x,ha,by simpa using hb⟩
def hat (H:Lv):Nat->Option CObj×Nat
 |0=>(none,H.length)
 |i+1=>(H[i]?,0)
theorem Jai(h:∀x,hat H x=hat H' x):H=H':=GD λi=>by have:=h (i+1);simpa [hat]using this
def Xo (fs:List (Foot×Foot))(i:Nat):Foot×Foot:=fs.getD i (.all,.all)
section
variable (P:Program)(E:Env)
structure HS (io:IOper)(T:Lu)(H:Lv)(v:CV)(H':Lv)(f:Foot×Foot):Prop where
 out:∀x,¬f.2.has x->hat H' x=hat H x
 run:∀T2 H2,agree io.rd T T2->(∀x,f.1.has x->hat H2 x=hat H x)->∃H2',(∀x,f.2.has x->hat H2' x=hat H' x)/\(∀x,¬f.2.has x->hat H2' x=hat H2 x)/\
  ∀(n0:Nat) (N:Fr) (Q:Exit->Lu->Lv->Prop) (k:LM) (l:LD),Ok P E n0 N Q (.ops l::k) (put T2 io.dst v) H2'->Ok P E n0 N Q (.ops (io::l)::k) T2 H2
end
def Qf (l:LD)(es:List LB)(fs:List (Foot×Foot)):Bool:=ordered l es && (Gi l.length).all λi=>(Gi l.length).all λj=>i == j || !((Xo fs i).2.meets (Xo fs j).1 || (Xo fs i).2.meets (Xo fs j).2) || (es.getD j []).contains i || (es.getD i []).contains j
structure OrderedH (l:LD)(es:List LB)(fs:List (Foot×Foot)):Prop where
 base:Ordered l es
 ord:∀i j x,i<l.length->j<l.length->i≠j->(Xo fs i).2.has x->((Xo fs j).1.has x\/(Xo fs j).2.has x)->i∈es.getD j []\/j∈es.getD i []
theorem Jaf{fs:List (Foot×Foot)}(h:Qf l es fs=true):OrderedH l es fs:=by
 simp only[Qf,Ga,GG,Gx]at h;refine⟨Jcx h.1,λi j x hi hj Ai h1 h2=>?_⟩;have h3:=h.2 i hi j hj;have hm:((Xo fs i).2.meets (Xo fs j).1 || (Xo fs i).2.meets (Xo fs j).2)=true:=by
  rcases h2 with h2|h2
  ·rw[Foot.meets_of h1 h2];rfl
  ·rw[Foot.meets_of h1 h2,Hg]
 have OT:(i == j)=false:=by simpa using Ai
 rw[hm,OT]at h3;simp only[Hf,He,Gz,GQ]at h3;exact h3
def AtH (l:LD)(fs:List (Foot×Foot))(hh:Nat->Lv)(S:Nat->Bool)(H:Lv):Prop:=∀x m,m<=l.length->(∀i,i<l.length->(Xo fs i).2.has x->(S i=true↔i<m))->hat H x=hat (hh m) x
section
variable{fs:List (Foot×Foot)}{v:Nat->CV}{hh:Nat->Lv}
theorem Jed (hv:∀j,j<l.length->HS P E (Q6 l j) (tst l v T j) (hh j) (v j) (hh (j+1)) (Xo fs j)){x:Nat}:∀d,a+d<=l.length->(∀i,a<=i->i<a+d->¬(Xo fs i).2.has x)->hat (hh (a+d)) x=hat (hh a) x
 |0,_,_=>rfl
 |d+1,h,hn=>by
  have h1:=(hv (a+d) om).out x (hn (a+d) om om);have h2:=Jed hv d om λi hi Dc=>hn i hi om
  rw[<-h2];exact h1
theorem JgI (ho:OrderedH l es fs)(hv:∀j,j<l.length->HS P E (Q6 l j) (tst l v T j) (hh j) (v j) (hh (j+1)) (Xo fs j))(AA:Ok P E n0 N Q k (tst l v T l.length) (hh l.length)){S:Nat->Bool}{is:LB}(h:Sched l.length es S is) :
  ∀T' H',(∀i,i<l.length->S i=true->∀e∈es.getD i [],S e=true)->At l v T S T'->AtH l fs hh S H'->Ok P E n0 N Q (.ops (is.map (Q6 l))::k) T' H':=by
 induction h with
 |nil hn=>
  rename_i S;intro T' H' Az hA hB;have Aj:∀i,i<l.length->S i=true:=by
   intro i
   induction i using GZ with
   |_ i ih=>
    intro hi
    cases hS:S i with
    |true=>rfl
    |false=>obtain⟨e,he,Ou⟩:=hn i hi hS;have Ab:=ho.base.lt i hi e he;have:=ih e Ab om;rw[this]at Ou;cases Ou
  have hH:H'=hh l.length:=Jai λx=>hB x l.length (Gd _) λi hi _=>⟨λ_=>hi,λ_=>Aj i hi⟩
  rw[hA.all ho.base Aj,hH];exact JbH AA
 |cons hi hS hr _ ih=>
  rename_i S j is Ex;intro T' H' Az hA hB;have key:∀i,i<l.length->i≠j->∀x,(Xo fs i).2.has x->((Xo fs j).1.has x\/(Xo fs j).2.has x)->(S i=true↔i<j):=by
   intro i Ae Ai x h1 h2;have h3:=ho.ord i j x Ae hi Ai h1 h2
   constructor
   ·intro EO;rcases h3 with h3|h3
    ·exact ho.base.lt j hi i h3
    ·have:=Az i Ae EO j h3;rw[hS]at this;cases this
   ·intro Ab;rcases h3 with h3|h3
    ·exact hr i h3
    ·have:=ho.base.lt i Ae j h3;omega
  obtain⟨H2',g1,g2,g3⟩:=(hv j hi).run T' H' (hA.agree ho.base Az hi hS hr) (λx hx=>hB x j om λi Ae hw=>by
   by_cases Cv:i=j
   ·subst Cv;rw[hS];simp
   ·exact key i Ae Cv x hw (.inl hx))
  refine g3 n0 N Q k _ (ih _ _ (λi Ae EO e he=>?_) (hA.step ho.base hi hS) ?_)
  ·simp only[Gz,beq_iff_eq]at EO|-;rcases EO with h|h
   ·exact .inl (Az i Ae h e he)
   ·subst h;exact .inl (hr e he)
  ·intro x m hm hw;by_cases hx:(Xo fs j).2.has x
   ·rw[g1 x hx];have Ux:j<m:=(hw j hi hx).1 sM;have hc:=Jed hv (x:=x) (a:=j+1) (m-(j+1)) om (λi h1 h2 Dq=>by
     have Ae:i<l.length:=om
     have h4:=(hw i Ae Dq).2 om;have Ai:i≠j:=om
     have h5:S i=true:=by simpa [Ai]using h4
     have:=(key i Ae Ai x Dq (.inr hx)).1 h5;omega)
    have e:j+1+(m-(j+1))=m:=om
    rw[e]at hc;exact hc.symm
   ·rw[g2 x hx];refine hB x m hm λi Ae Dq=>?_
    have Ai:i≠j:=λe=>hx (e▸Dq)
    have:=hw i Ae Dq;simpa [Ai]using this
def clo (es:List LB):List LB:=es.foldl (λacc e=>acc++[(e++e.flatMap λd=>acc.getD d []).eraseDups]) []
def JaQ (n:Nat)(es es':List LB):Bool:=(Gi n).all λj=>((es.getD j []).all λe=>(es'.getD j []).contains e) && (es'.getD j []).all λe=>(es.getD j []).contains e || (es.getD j []).any λd=>decide (d<j) && (es'.getD d []).contains e
theorem JeA{es:List LB}(h:JaQ n es es'=true){S:Nat->Bool}{is:LB}(hs:Sched n es S is):(∀i,i<n->S i=true->∀e∈es.getD i [],S e=true)->Sched n es' S is:=by
 simp only[JaQ,GG,Gx,Ga,Gz,H7,decide_eq_true_eq,GQ]at h;have up:∀(S:Nat->Bool),(∀i,i<n->S i=true->∀e∈es.getD i [],S e=true)->∀j,j<n->(∀e∈es.getD j [],S e=true)->∀e∈es'.getD j [],S e=true:=by
  intro S Az j
  induction j using GZ with
  |_ j ih=>
   intro hj hd e he;rcases (h j hj).2 e he with h1|⟨d,h1,h2,h3⟩
   ·exact hd e h1
   ·exact ih d h2 om (Az d om (hd d h1)) e h3
 induction hs with
 |nil hn=>
  intro _;refine .nil λi hi hS=>?_
  obtain⟨e,h1,h2⟩:=hn i hi hS;exact⟨e,(h i hi).1 e h1,h2⟩
 |cons hi hS hr _ ih=>
  rename_i S j is _;intro Az;refine .cons hi hS (up S Az j hi hr) (ih λi Ae EO e he=>?_);simp only[Gz,beq_iff_eq]at EO|-;rcases EO with h1|h1
  ·exact .inl (Az i Ae h1 e he)
  ·subst h1;exact .inl (hr e he)
theorem Jhw(DY:JaQ l.length es es'=true)(hm:P.follows .mixedOrders=true)(AP:Qf l es' fs=true)(hv:∀j,j<l.length->HS P E (Q6 l j) (tst l v T j) (hh j) (v j) (hh (j+1)) (Xo fs j))(h0:hh 0=H)(AA:Ok P E n0 N Q k (tst l v T l.length) (hh l.length)):Ok P E n0 N Q (.code (.dreg l es)::k) T H:=by
 intro m w a b cs kr rest hp hd hk;simp only[YY]at hk;obtain⟨c',kr',rfl,hc,AC⟩:=hk;obtain⟨id,ops,rfl,h1,rfl⟩:=JhF hc;obtain⟨hl,hg⟩:=XT _ _ h1;have CE:ops.size=l.length:=by simpa using hl.symm
 have BA:=Jg9 ops ops.size (w.tape w.drawn (.order b.fn id)) (Gn ops.size false) sM sM;have Al:=stepR_region_draw (P:=P) (b:=b) (a:=a) (k:=kr'++rest) (cs:=cs) (w:=w) (ops:=ops) (id:=id);simp only[Region.schedule,hm,GM,if_true,Region.linearise]at Al;generalize Region.linearise.go .any ops ops.size (w.tape w.drawn (.order b.fn id)) (Gn ops.size false) []=is at BA Al;have DL:(λi=>(Gn ops.size false).getD i false)=λ_=>false:=by
  funext i
  simp only[Gs,Hd]
  split <;> rfl
 rw[DL,CE]at BA;have Dv:∀i∈is,i<l.length:=by
  clear Al;generalize (λ_=>false:Nat->Bool)=S at BA
  induction BA with
  |nil _=>intro i hi;cases hi
  |cons h _ _ _ ih=>intro i hi;exact(Gm.1 hi).elim (λh'=>by subst h';exact h) (ih i)
 have RA:=Jaf AP;have BA:=JeA DY BA λ_ _ h=>by cases h
 have Ak:=JgI (n0:=n0) (N:=N) (Q:=Q) (k:=k) RA hv AA BA T H (λ_ _ h=>by cases h) ⟨rfl,λ_ _=>rfl,λ_ _ _ h=>by cases h⟩ (λx m hm hw=>by
  have hc:=Jed hv (x:=x) (a:=0) m om (λi _ h2 Dq=>by
   have:=(hw i om Dq).2 om
   cases this)
  rw[G5]at hc;rw[hc,h0])
 have AB:Sim E m H { w with drawn:=w.drawn+1 }:=hp.sim.congr rfl;have hx:Ext n0 m H w m H { w with drawn:=w.drawn+1 }:=Ext.congr rfl ⟨rfl,rfl,rfl⟩;refine Reach.step (.one Al) hx (Ak m _ a b cs (.inRegion ops is::kr') rest ⟨AB,hp.tmps,hp.long⟩ (hd.ext hx) ?_);simp only[YY];refine⟨ops,is,kr',rfl,⟨sM,λj i hj=>?_⟩,AC⟩;have hi:=Dv i (Gl hj);obtain⟨io,h2,h3⟩:=hg i (ops[i]' om) sM;exact⟨ops[i]' om,io,Gf om,by simp[hj,Q6,Gc,h2],h3⟩
abbrev Foot.no:Foot×Foot:=(.on [],.on [])
abbrev Foot.any:Foot×Foot:=(.all,.all)
theorem JbY(h:∀H2,Val P E io T H2 x):HS P E io T H x H Foot.no:=⟨λ_ _=>rfl,λT2 H2 ha _=>⟨H2,λy hy=>(by cases hy),λ_ _=>rfl,λ_ _ _ _ _ Ao=>((h H2).congr ha).ok Ao⟩⟩
theorem Yh{T2:Lu}(h:agree io.rd T T2)(hg:GOk T io.guard):GOk T2 io.guard:=by
 obtain⟨d,op,g⟩:=io;rcases hg with h1|⟨s,want,h1,h4⟩
 ·exact .inl h1
 ·simp only at h1;subst h1;exact .inr ⟨s,want,rfl,by rw[<-(Jj h).1 s sM];exact h4⟩
theorem hs_op{c:Cond}(hg:GOk T io.guard)(he:exec io.op T H=some (c,x,H'))(hc:c.holds):HS P E io T H x H' Foot.any:=by
 refine⟨λ_ hn=>absurd trivial hn,λT2 H2 ha hx=>?_⟩;have hH:H2=H:=Jai λy=>hx y trivial
 subst hH;exact⟨H',λ_ _=>rfl,λ_ hn=>absurd trivial hn,λ_ _ _ _ _ Ao=>JeY (Yh ha hg) (by rw[<-QG (Jj ha).2];exact he) hc Ao⟩
end
def stays:IOp->Bool
 |.mv _=>true
 |.bin _ _ _ _=>true
 |.slice _ _ _ _ _=>true
 |.len _ _=>true
 |.not _=>true
 |.neg _=>true
 |.conv _ _=>true
 |.pick _ _ _=>true
 |.build _ _=>true
 |.field _ _ _ _=>true
 |.faddr _ _=>true
 |.extract _ _=>true
 |.load _ _ _=>true
 |.iaddr _ _ _=>true
 |_=>false
theorem exSlice_nil{lo hi:Int}{mx:Option Int}{r:Cond×CV}(h:X8 z [] x lo hi mx=some r)(H:Lv):X8 z H x lo hi mx=some r:=by cases x <;> simp only[X8,List.getElem?_nil,reduceCtorEq]at h|- <;> exact h
theorem JhW{c:Cond}(Bc:stays op=true)(h:exec op T []=some (c,x,[]))(H:Lv):exec op T H=some (c,x,H):=by
 cases op <;> simp only[stays,GX]at Bc
 case slice z y lo hi mx=>
  simp only[exec]at h|-
  split at h
  ·rename_i l hh m h1 h2 h3
   split at h
   ·rename_i c' v' h4;rw[exSlice_nil h4 H]
    simp_all
   ·cases h
  ·cases h
 case len tk y=>
  simp only[exec]at h|-
  split at h <;> simp_all
 all_goals
  simp only[exec]at h|-
  repeat' split at h
  all_goals simp_all
def Je9 (b:Bool)(op:IOp)(T:Lu)(H:Lv):Option (Cond×CV×Lv):=if b=true then exec op T H else if stays op=true then(match exec op T []with|some (c,v,[])=>some (c,v,H)|_=>none) else none
def QY (b:Bool):Foot×Foot:=if b then Foot.any else Foot.no
section
variable (P:Program)(E:Env)(n0:Nat)(N:Fr)(Q:Exit->Lu->Lv->Prop)
def vdh (k:LM):LD->LK->Lu->Lv->Prop
 |[],_,T,H=>KD P E n0 N Q k T H
 |_::_,[],_,_=>False
 |⟨d,op,none⟩::l,b::bs,T,H=>match Je9 b op T H with
  |some (c,v,H')=>c.holds/\vdh k l bs (put T d v) H'
  |none=>∃v H',HS P E ⟨d,op,none⟩ T H v H' (QY b)/\vdh k l bs (put T d v) H'
 |⟨d,op,some g⟩::l,b::bs,T,H=>∃v H',HS P E ⟨d,op,some g⟩ T H v H' (QY b)/\vdh k l bs (put T d v) H'
def vdhR (r:Option (Cond×CV×Lv))(d:Option Nat)(op:IOp)(b:Bool)(k:LM)(l:LD)(bs:LK)(T:Lu)(H:Lv):Prop:=
 match r with
 |some (c,v,H')=>c.holds/\vdh P E n0 N Q k l bs (put T d v) H'
 |none=>∃v H',HS P E ⟨d,op,none⟩ T H v H' (QY b)/\vdh P E n0 N Q k l bs (put T d v) H'
end
theorem vh_nil:vdh P E n0 N Q k [] bs T H=KD P E n0 N Q k T H:=propext (by cases bs <;> exact Gj)
theorem vh_op:vdh P E n0 N Q k (⟨d,op,none⟩::l) (b::bs) T H=vdhR P E n0 N Q (Je9 b op T H) d op b k l bs T H:=propext Gj
theorem vdhR_some{c:Cond}:vdhR P E n0 N Q (some (c,v,H')) d op b k l bs T H=(c.holds/\vdh P E n0 N Q k l bs (put T d v) H'):=propext Gj
theorem vdh_look{H':Lv}(hT:T=T')(hH:H=H'):vdh P E n0 N Q k l bs T H=vdh P E n0 N Q k l bs T' H':=by rw[hT,hH]
theorem vdhR_look(h:r=r'):vdhR P E n0 N Q r d op b k l bs T H=vdhR P E n0 N Q r' d op b k l bs T H:=by rw[h]
attribute [congr] vdh_look vdhR_look
theorem Je8{c:Cond}(he:Je9 b op T H=some (c,v,H'))(hc:c.holds):HS P E ⟨d,op,none⟩ T H v H' (QY b):=by
 unfold Je9 at he
 split at he
 ·rename_i hb;subst hb;exact hs_op (.inl rfl) he hc
 ·rename_i hb
  split at he
  ·rename_i hs
   split at he
   ·rename_i c' v' h1;simp only[GV,GI]at he;obtain⟨rfl,rfl,rfl⟩:=he;have:b=false:=by simpa using hb
    subst this;exact JbY λH2=>.inr ⟨.inl rfl,.inl ⟨_,JhW hs h1 H2,hc⟩⟩
   ·cases he
  ·cases he
theorem vdh_vals:∀(l:LD) (bs:LK) (T:Lu) (H:Lv),vdh P E n0 N Q k l bs T H->l.length=bs.length->∃(v:Nat->CV) (hh:Nat->Lv),hh 0=H/\(∀j,j<l.length->HS P E (Q6 l j) (tst l v T j) (hh j) (v j) (hh (j+1)) (Xo (bs.map QY) j))/\KD P E n0 N Q k (tst l v T l.length) (hh l.length)
 |[],bs,T,H,h,_=>⟨λ_=>.un,λ_=>H,rfl,sM,by rw[vh_nil]at h;exact h⟩
 |io::l,[],T,H,h,hl=>by simp at hl
 |io::l,b::bs,T,H,h,hl=>by
  have Fj:∃v0 H',HS P E io T H v0 H' (QY b)/\vdh P E n0 N Q k l bs (put T io.dst v0) H':=by
   obtain⟨d,op,g⟩:=io
   cases g with
   |none=>
    rw[vh_op]at h;unfold vdhR at h
    split at h
    ·rename_i c v H' he;exact⟨v,H',Je8 he h.1,h.2⟩
    ·exact h
   |some g=>exact h
  obtain⟨v0,H',h1,h2⟩:=Fj;obtain⟨v,hh,h0,h3,h4⟩:=vdh_vals l bs _ _ h2 (by simpa using hl)
  let v':Nat->CV:=λj=>match j with|0=>v0|j+1=>v j
  let FJ:Nat->Lv:=λj=>match j with|0=>H|j+1=>hh j
  have key:∀j,tst (io::l) v' T (j+1)=tst l v (put T io.dst v0) j:=by
   intro j
   induction j with
   |zero=>rfl
   |succ j ih=>rw[tst,ih];rfl
  refine⟨v',FJ,rfl,λj hj=>?_,?_⟩
  ·cases j with
   |zero=>have e:FJ (0+1)=H':=h0;rw[e];exact h1
   |succ j=>rw[key];exact h3 j (by simpa using hj)
  ·rw[GJ,key];exact h4
theorem JaD (bs:LK)(hm:P.follows .mixedOrders=true)(AP:(l.length == bs.length && (JaQ l.length es (clo es) && Qf l (clo es) (bs.map QY)))=true)(h:vdh P E n0 N Q k l bs T H):Ok P E n0 N Q (.code (.dreg l es)::k) T H:=by simp only[Ga,beq_iff_eq]at AP;obtain⟨v,hh,h0,h1,h2⟩:=vdh_vals l bs T H h AP.1;exact Jhw AP.2.1 hm AP.2.2 h1 h0 (JD _ _ _ h2)
attribute [go_sem] Je9 stays vh_nil vh_op vdhR_some
section
variable (P:Program)(E:Env)
def vdk (K:Lu->Lv->Prop):LD->LK->Lu->Lv->Prop
 |[],_,T,H=>K T H
 |_::_,[],_,_=>False
 |⟨d,op,none⟩::l,b::bs,T,H=>match Je9 b op T H with
  |some (c,v,H')=>c.holds/\vdk K l bs (put T d v) H'
  |none=>∃v H',HS P E ⟨d,op,none⟩ T H v H' (QY b)/\vdk K l bs (put T d v) H'
 |⟨d,op,some g⟩::l,b::bs,T,H=>∃v H',HS P E ⟨d,op,some g⟩ T H v H' (QY b)/\vdk K l bs (put T d v) H'
def vdkR (r:Option (Cond×CV×Lv))(d:Option Nat)(op:IOp)(b:Bool)(K:Lu->Lv->Prop)(l:LD)(bs:LK)(T:Lu)(H:Lv):Prop:=
 match r with
 |some (c,v,H')=>c.holds/\vdk P E K l bs (put T d v) H'
 |none=>∃v H',HS P E ⟨d,op,none⟩ T H v H' (QY b)/\vdk P E K l bs (put T d v) H'
def leads (n0:Nat)(N:Fr)(Q:Exit->Lu->Lv->Prop)(T':Lu)(H':Lv)(T:Lu)(H:Lv):Prop:=∀k,Ok P E n0 N Q k T' H'->Ok P E n0 N Q k T H
end
theorem vk_nil:vdk P E K [] bs T H=K T H:=propext (by cases bs <;> exact Gj)
theorem vk_op:vdk P E K (⟨d,op,none⟩::l) (b::bs) T H=vdkR P E (Je9 b op T H) d op b K l bs T H:=propext Gj
theorem vdkR_some{c:Cond}:vdkR P E (some (c,v,H')) d op b K l bs T H=(c.holds/\vdk P E K l bs (put T d v) H'):=propext Gj
theorem vdk_look {T':Lu}{H':Lv}(hT:T=T')(hH:H=H'):vdk P E K l bs T H=vdk P E K l bs T' H':=by rw[hT,hH]
theorem vdkR_look(h:r=r'):vdkR P E r d op b K l bs T H=vdkR P E r' d op b K l bs T H:=by rw[h]
attribute [congr] vdk_look vdkR_look
theorem vdk_vals:∀(l:LD) (bs:LK) (T:Lu) (H:Lv),vdk P E K l bs T H->l.length=bs.length->∃(v:Nat->CV) (hh:Nat->Lv),hh 0=H/\(∀j,j<l.length->HS P E (Q6 l j) (tst l v T j) (hh j) (v j) (hh (j+1)) (Xo (bs.map QY) j))/\K (tst l v T l.length) (hh l.length)
 |[],bs,T,H,h,_=>⟨λ_=>.un,λ_=>H,rfl,sM,by rw[vk_nil]at h;exact h⟩
 |io::l,[],T,H,h,hl=>by simp at hl
 |io::l,b::bs,T,H,h,hl=>by
  have Fj:∃v0 H',HS P E io T H v0 H' (QY b)/\vdk P E K l bs (put T io.dst v0) H':=by
   obtain⟨d,op,g⟩:=io
   cases g with
   |none=>
    rw[vk_op]at h;unfold vdkR at h
    split at h
    ·rename_i c v H' he;exact⟨v,H',Je8 he h.1,h.2⟩
    ·exact h
   |some g=>exact h
  obtain⟨v0,H',h1,h2⟩:=Fj;obtain⟨v,hh,h0,h3,h4⟩:=vdk_vals l bs _ _ h2 (by simpa using hl)
  let v':Nat->CV:=λj=>match j with|0=>v0|j+1=>v j
  let FJ:Nat->Lv:=λj=>match j with|0=>H|j+1=>hh j
  have key:∀j,tst (io::l) v' T (j+1)=tst l v (put T io.dst v0) j:=by
   intro j
   induction j with
   |zero=>rfl
   |succ j ih=>rw[tst,ih];rfl
  refine⟨v',FJ,rfl,λj hj=>?_,?_⟩
  ·cases j with
   |zero=>have e:FJ (0+1)=H':=h0;rw[e];exact h1
   |succ j=>rw[key];exact h3 j (by simpa using hj)
  ·rw[GJ,key];exact h4
theorem Jez (AP:(l.length == bs.length && (JaQ l.length es (clo es) && Qf l (clo es) (bs.map QY)))=true)(h:vdk P E (leads P E n0 N Q T' H') l bs T H)(AA:Ok P E n0 N Q k T' H'){is:LB}(hs:Sched l.length es (λ_=>false) is):Ok P E n0 N Q (.ops (is.map (Q6 l))::k) T H:=by
 simp only[Ga,beq_iff_eq]at AP;obtain⟨v,hh,h0,hv,h2⟩:=vdk_vals l bs T H h AP.1;have BA:=JeA AP.2.1 hs λ_ _ h=>by cases h
 exact JgI (Jaf AP.2.2) hv (h2 k AA) BA T H (λ_ _ h=>by cases h) ⟨rfl,λ_ _=>rfl,λ_ _ _ h=>by cases h⟩ (λx m hm hw=>by
  have hc:=Jed hv (x:=x) (a:=0) m om (λi _ h2 Dq=>by
   have:=(hw i om Dq).2 om
   cases this)
  rw[G5]at hc;rw[hc,h0])
theorem ok_draw (hm:P.follows .mixedOrders=true)(h:∀is,Sched l.length es (λ_=>false) is->Ok P E n0 N Q (.ops (is.map (Q6 l))::k) T H):Ok P E n0 N Q (.code (.dreg l es)::k) T H:=by
 intro m w a b cs kr rest hp hd hk;simp only[YY]at hk;obtain⟨c',kr',rfl,hc,AC⟩:=hk;obtain⟨id,ops,rfl,h1,rfl⟩:=JhF hc;obtain⟨hl,hg⟩:=XT _ _ h1;have CE:ops.size=l.length:=by simpa using hl.symm
 have BA:=Jg9 ops ops.size (w.tape w.drawn (.order b.fn id)) (Gn ops.size false) sM sM;have Al:=stepR_region_draw (P:=P) (b:=b) (a:=a) (k:=kr'++rest) (cs:=cs) (w:=w) (ops:=ops) (id:=id);simp only[Region.schedule,hm,GM,if_true,Region.linearise]at Al;generalize Region.linearise.go .any ops ops.size (w.tape w.drawn (.order b.fn id)) (Gn ops.size false) []=is at BA Al;have DL:(λi=>(Gn ops.size false).getD i false)=λ_=>false:=by
  funext i
  simp only[Gs,Hd]
  split <;> rfl
 rw[DL,CE]at BA;have Dv:∀i∈is,i<l.length:=by
  clear Al h;generalize (λ_=>false:Nat->Bool)=S at BA
  induction BA with
  |nil _=>intro i hi;cases hi
  |cons h _ _ _ ih=>intro i hi;exact(Gm.1 hi).elim (λh'=>by subst h';exact h) (ih i)
 have Ak:=h is BA;have AB:Sim E m H { w with drawn:=w.drawn+1 }:=hp.sim.congr rfl;have hx:Ext n0 m H w m H { w with drawn:=w.drawn+1 }:=Ext.congr rfl ⟨rfl,rfl,rfl⟩;refine Reach.step (.one Al) hx (Ak m _ a b cs (.inRegion ops is::kr') rest ⟨AB,hp.tmps,hp.long⟩ (hd.ext hx) ?_);simp only[YY];refine⟨ops,is,kr',rfl,⟨sM,λj i hj=>?_⟩,AC⟩;have hi:=Dv i (Gl hj);obtain⟨io,h2,h3⟩:=hg i (ops[i]' om) sM;exact⟨ops[i]' om,io,Gf om,by simp[hj,Q6,Gc,h2],h3⟩
def Jaz (es:List LB)(j i:Nat):List LB:=es.set j (i::es.getD j [])
theorem JaS {es:List LB}{j:Nat}(hj:j<es.length):(Jaz es j i).getD a []=if a=j then i::es.getD j [] else es.getD a []:=by
 unfold Jaz;simp only[Gc,Gw];by_cases h:j=a
 ·subst h;simp[hj]
 ·rw[if_neg h,if_neg λe=>h e.symm]
theorem sched_add{j:Nat}(hj:j<es.length){S:Nat->Bool}{is:LB}(h:Sched n es S is):S i=true->Sched n (Jaz es j i) S is:=by
 induction h with
 |nil hn=>
  intro hi;refine .nil λa ha hS=>?_
  obtain⟨e,h1,h2⟩:=hn a ha hS;refine⟨e,?_,h2⟩;rw[JaS hj]
  split
  ·rename_i h;subst h;exact Hu _ h1
  ·exact h1
 |cons ha hS hr _ ih=>
  intro hi;refine .cons ha hS (λe he=>?_) (ih (by simp[hi]));rw[JaS hj]at he
  split at he
  ·rename_i h;subst h;rcases Gm.1 he with h|h
   ·rw[h];exact hi
   ·exact hr e h
  ·exact hr e he
theorem JfZ{j:Nat}(Cv:i≠j)(hi:i<es.length)(hj:j<es.length){S:Nat->Bool}{is:LB}(h:Sched n es S is):S i=false->S j=false->Sched n (Jaz es j i) S is\/Sched n (Jaz es i j) S is:=by
 induction h with
 |nil hn=>
  intro _ _;refine .inl (.nil λa ha hS=>?_);obtain⟨e,h1,h2⟩:=hn a ha hS;refine⟨e,?_,h2⟩;rw[JaS hj]
  split
  ·rename_i h;subst h;exact Hu _ h1
  ·exact h1
 |cons ha hS hr Ex ih=>
  rename_i S a is;intro h1 h2;by_cases Mk:a=i
  ·subst Mk;refine .inl (.cons ha hS (λe he=>?_) (sched_add hj Ex sM));rw[JaS hj,if_neg Cv]at he;exact hr e he
  ·by_cases bg:a=j
   ·subst bg;refine .inr (.cons ha hS (λe he=>?_) (sched_add hi Ex sM));rw[JaS hi,if_neg Mk]at he;exact hr e he
   ·rcases ih (by simp[h1,Ne.symm Mk]) (by simp[h2,Ne.symm bg]) with h|h
    ·exact .inl (.cons ha hS (λe he=>by rw[JaS hj,if_neg bg]at he;exact hr e he) h)
    ·exact .inr (.cons ha hS (λe he=>by rw[JaS hi,if_neg Mk]at he;exact hr e he) h)
def swi (i j a:Nat):Nat:=if a=i then j else if a=j then i else a
theorem swi_lt{j:Nat}(hi:i<n)(hj:j<n)(ha:a<n):swi i j a<n:=by
 unfold swi
 split
 ·exact hj
 ·split
  ·exact hi
  ·exact ha
theorem Ja4{j:Nat}:swi i j (swi i j a)=a:=by unfold swi;split <;> split <;> simp_all
theorem sched_swap{j:Nat}{es2:List LB}(hi:i<n)(hj:j<n)(he:∀a,a<n->es2.getD (swi i j a) []=(es.getD a []).map (swi i j)){S:Nat->Bool}{is:LB}(h:Sched n es S is):Sched n es2 (λa=>S (swi i j a)) (is.map (swi i j)):=by
 have hb:∀a,a<n->swi i j a<n:=λa ha=>swi_lt hi hj ha
 induction h with
 |nil hn=>
  refine .nil λa ha hS=>?_
  obtain⟨e,h1,h2⟩:=hn _ (hb a ha) hS;refine⟨swi i j e,?_,by rw[Ja4];exact h2⟩;have:=he _ (hb a ha);rw[Ja4]at this;rw[this];exact Hy h1
 |cons ha hS hr _ ih=>
  rename_i S a is _;refine .cons (hb a ha) (by rw[Ja4];exact hS) (λe hm=>?_) ?_
  ·rw[he a ha]at hm;obtain⟨e',h1,rfl⟩:=GL.1 hm;rw[Ja4];exact hr e' h1
  ·have e:(λb=>S (swi i j b) || b == swi i j a)=λb=>S (swi i j b) || swi i j b == a:=by
    funext b
    congr 1
    by_cases h:b=swi i j a
    ·subst h;rw[Ja4];simp
    ·have:swi i j b≠a:=λhh=>h (by rw[<-hh,Ja4])
     rw[beq_false_of_ne h,beq_false_of_ne this]
   rw[e];exact ih
def swl (l:LD)(i j:Nat):LD:=(Gi l.length).map λa=>Q6 l (swi i j a)
def swe (es:List LB)(i j:Nat):List LB:=(Gi es.length).map λa=>(es.getD (swi i j a) []).map (swi i j)
theorem swl_get{j:Nat}(ha:a<l.length):Q6 (swl l i j) a=Q6 l (swi i j a):=by unfold swl;rw[Q6,Gc];simp[ha]
def pairOk (l:LD)(es:List LB)(bs bs2:LK)(i j:Nat):Bool:=
 decide (i<j) && decide (j<l.length) && (es.length == l.length) &&
 (l.length == bs.length && (JaQ l.length (Jaz es j i) (clo (Jaz es j i)) && Qf l (clo (Jaz es j i)) (bs.map QY))) &&
 ((swl l i j).length == bs2.length && (JaQ (swl l i j).length (swe (Jaz es i j) i j) (clo (swe (Jaz es i j) i j)) && Qf (swl l i j) (clo (swe (Jaz es i j) i j)) (bs2.map QY)))
theorem vr_dregP (i j:Nat)(bs bs2:LK)(T':Lu)(H':Lv)(hm:P.follows .mixedOrders=true)(AP:pairOk l es bs bs2 i j=true)(h1:vdk P E (leads P E n0 N Q T' H') l bs T H)(h2:vdk P E (leads P E n0 N Q T' H') (swl l i j) bs2 T H)(AA:KD P E n0 N Q k T' H'):Ok P E n0 N Q (.code (.dreg l es)::k) T H:=by
 unfold pairOk at AP;rw[Ga,Ga]at AP;obtain⟨⟨g0,g1⟩,g2⟩:=AP;simp only[Ga,decide_eq_true_eq,beq_iff_eq]at g0;obtain⟨⟨a1,a2⟩,a3⟩:=g0;refine ok_draw hm λis hs=>?_
 rcases JfZ (i:=i) (j:=j) om om om hs rfl rfl with h|h
 ·exact Jez g1 h1 (JD _ _ _ AA) h
 ·have Ad:(swl l i j).length=l.length:=by simp[swl]
  have U6:=sched_swap (es2:=swe (Jaz es i j) i j) (i:=i) (j:=j) om a2 (λa ha=>by
   have hb:swi i j a<l.length:=swi_lt om a2 (by assumption);have Ez:(Jaz es i j).length=l.length:=by simp[Jaz,a3]
   unfold swe;rw[Gc];simp only[Gr,Ez];rw[List.getElem?_range hb];simp[Ja4]) h
  rw[<-Ad]at U6;have:=Jez g2 h2 (JD (k:=k) _ _ AA) U6;have e:(is.map (swi i j)).map (Q6 (swl l i j))=is.map (Q6 l):=by
   rw[List.map_map];refine Hz λa ha=>?_
   have Am:a<l.length:=by
    clear this U6;generalize (λ_=>false:Nat->Bool)=S at hs;clear h
    induction hs with
    |nil _=>cases ha
    |cons h _ _ _ ih=>
     exact(Gm.1 ha).elim
      (λh'=>by subst h';exact h) ih
   have hb:swi i j a<l.length:=swi_lt om a2 (by assumption);simp only[Function.comp];rw[swl_get hb,Ja4]
  rw[e]at this;exact this
theorem Jp (h:forget T T'):leads P E n0 N Q T' H T H:=λ_ Ao=>Qm (YF h) Ao
theorem leads_ren {T1:Lu}{H1:Lv}(ρ:LB)(hr:Jde ρ n0 H.length=true)(h:leads P E n0 N Q T1 H1 (JG ρ T) (KE ρ H)):leads P E n0 N Q T1 H1 T H:=λk Ao=>Jga (Q7 hr) (h k Ao)
theorem JhB (ρ:LB)(hr:Jde ρ n0 H.length=true)(hT:forget (JG ρ T) T')(hH:KE ρ H=H'):leads P E n0 N Q T' H' T H:=leads_ren ρ hr (by rw[hH];exact Jp hT)
attribute [go_sem] vk_nil vk_op vdkR_some
theorem vr_rfuncJ {f:IArg}{ps:LB}{x y:ICode}{g:Nat}{xs:LQ}{Γ:Type}(J:Nat->Γ->Prop) (hp:Nat->Γ->Lv) (γ0:Γ) (jE:J 0 γ0) (OJ:N.rnd=false) (hf:Kg T f=.fn g l1 l2) (CF:Jk l1=true) (CR:Jk l2=true)(hF:Jd P g=some F) (EY:(P.funcs[g]?.map (·.name))≠some "runtime.NumGoroutine")
  (Ma:Iter P g l1 l2 xs) (Fy:∀c∈xs,c.length=ps.length) (h0:H=hp 0 γ0)
  (Cn:∀s γ c,J s γ->xs[s]? = some c->KD P E H.length ⟨0,true⟩ (asgQ λT2 H2=>KD P E H.length ⟨0,true⟩ (Jen P E n0 N Q k T (λH'=>∃γ',J (s+1) γ'/\H'=hp (s+1) γ')) [.code y] T2 H2) [.code x] (pset T ps c) (hp s γ))
  (BS:∀γ,J xs.length γ->KD P E n0 N Q k T (hp xs.length γ)):Ok P E n0 N Q (.code (.rfunc f ps x y)::k) T H:=by
 have Bq:∃fn,P.funcs[g]? = some fn/\fn.body.isSome=true:=by
  unfold Jd at hF
  split at hF
  ·rename_i fn Bq
   split at hF
   ·rename_i c hb;exact⟨fn,Bq,by rw[hb];rfl⟩
   ·cases hF
  ·cases hF
 obtain⟨fn,Bq,DI⟩:=Bq;refine ok_rfunc (λs H'=>∃γ,J s γ/\H'=hp s γ) OJ hf CF CR Bq DI (λe=>EY (by rw[Bq,<-e];rfl)) Ma Fy ⟨γ0,jE,h0⟩ (λs Hs c hI hc=>?_) (λH' ⟨γ,hJ,hI⟩=>by rw[hI];exact JD _ _ _ (BS γ hJ));obtain⟨γ,hJ,rfl⟩:=hI;refine(JD _ _ _ (Cn s γ c hJ hc)).mono λe T2 H2 hq=>?_
 cases e with
 |normal=>
  refine(JD _ _ _ hq).mono λe T3 H3 Mw=>?_
  cases e with
  |normal=>exact Mw
  |ret=>exact ok_ret Mw
  |exit id=>
   refine ok_exit ?_;simp only[Jen,Jc4]at Mw
   split <;> rename_i hx <;> rw[hx]at Mw
   ·exact JD _ _ _ Mw
   ·exact Mw
  |goto l=>exact Mw.elim
  |panic c=>exact Mw.elim
  |outgrown=>exact Mw.elim
 |ret=>exact hq.elim
 |exit id=>exact hq.elim
 |goto l=>exact hq.elim
 |panic c=>exact hq.elim
 |outgrown=>exact hq.elim
theorem hs_f(hg:GOk T g)(Ah:Fn P f (as.map (Kg T)) v):HS P E ⟨d,.call f as,g⟩ T H v H Foot.no:=JbY λH2=>.inr ⟨hg,.inr (.inl ⟨f,as,rfl,Ah E H2⟩)⟩
theorem Je6(hg:GOk T g)(Ah:CallsC P E f (as.map (Kg T)) H λv2 H2=>v2=v/\H2=H'):HS P E ⟨d,.call f as,g⟩ T H v H' Foot.any:=by
 refine⟨λ_ hn=>absurd trivial hn,λT2 H2 ha hx=>?_⟩;have hH:H2=H:=Jai λy=>hx y trivial
 subst hH;have hT:as.map (Kg T)=as.map (Kg T2):=Xi (Jj ha).2;refine⟨H',λ_ _=>rfl,λ_ hn=>absurd trivial hn,λ_ _ _ _ _ Ao=>Jdl (Yh ha hg) (by rw[<-hT];exact Ah) ?_⟩;rintro v2 H2 ⟨rfl,rfl⟩;exact Ao
theorem vh_f(Ah:Fn P f (as.map (Kg T)) v)(h:vdh P E n0 N Q k l bs (put T d v) H):vdhR P E n0 N Q none d (.call f as) false k l bs T H:=⟨v,H,hs_f (.inl rfl) Ah,h⟩
theorem vk_c(Ah:CallsC P E f (as.map (Kg T)) H λv2 H2=>v2=v/\H2=H')(h:vdk P E K l bs (put T d v) H'):vdkR P E none d (.call f as) true K l bs T H:=⟨v,H',Je6 (.inl rfl) Ah,h⟩
section
variable (P:Program)(E:Env)(n0:Nat)(N:Fr)(Q:Exit->Lu->Lv->Prop)
def vdf (k:LM):LD->List (Foot×Foot)->Lu->Lv->Prop
 |[],_,T,H=>KD P E n0 N Q k T H
 |_::_,[],_,_=>False
 |io::l,f::fs,T,H=>∃v H',HS P E io T H v H' f/\vdf k l fs (put T io.dst v) H'
end
theorem vdf_vals:∀(l:LD) (fs:List (Foot×Foot)) (T:Lu) (H:Lv),vdf P E n0 N Q k l fs T H->l.length=fs.length->∃(v:Nat->CV) (hh:Nat->Lv),hh 0=H/\(∀j,j<l.length->HS P E (Q6 l j) (tst l v T j) (hh j) (v j) (hh (j+1)) (Xo fs j))/\KD P E n0 N Q k (tst l v T l.length) (hh l.length)
 |[],fs,T,H,h,_=>⟨λ_=>.un,λ_=>H,rfl,sM,by cases fs <;> exact h⟩
 |io::l,[],T,H,h,hl=>by simp at hl
 |io::l,f::fs,T,H,h,hl=>by
  obtain⟨v0,H',h1,h2⟩:=h;obtain⟨v,hh,h0,h3,h4⟩:=vdf_vals l fs _ _ h2 (by simpa using hl)
  let v':Nat->CV:=λj=>match j with|0=>v0|j+1=>v j
  let FJ:Nat->Lv:=λj=>match j with|0=>H|j+1=>hh j
  have key:∀j,tst (io::l) v' T (j+1)=tst l v (put T io.dst v0) j:=by
   intro j
   induction j with
   |zero=>rfl
   |succ j ih=>rw[tst,ih];rfl
  refine⟨v',FJ,rfl,λj hj=>?_,?_⟩
  ·cases j with
   |zero=>have e:FJ (0+1)=H':=h0;rw[e];exact h1
   |succ j=>rw[key];exact h3 j (by simpa using hj)
  ·rw[GJ,key];exact h4
theorem Jbw (fs:List (Foot×Foot))(hm:P.follows .mixedOrders=true)(AP:(l.length == fs.length && (JaQ l.length es (clo es) && Qf l (clo es) fs))=true)(h:vdf P E n0 N Q k l fs T H):Ok P E n0 N Q (.code (.dreg l es)::k) T H:=by simp only[Ga,beq_iff_eq]at AP;obtain⟨v,hh,h0,h1,h2⟩:=vdf_vals l fs T H h AP.1;exact Jhw AP.2.1 hm AP.2.2 h1 h0 (JD _ _ _ h2)
theorem hs_new{id:Nat}{ob:CObj}{mk:Nat->CV}(Ad:H.length=id)(Ah:∀H2:Lv,CallsC P E f (as.map (Kg T)) H2 λv2 H3=>v2=mk H2.length/\H3=H2++[ob]) :
  HS P E ⟨d,.call f as,none⟩ T H (mk id) (H++[ob]) (.on [0],.on [0,id+1]):=by
 subst Ad;refine⟨λx hx=>?_,λT2 H2 ha hx=>?_⟩
 ·simp only[Foot.has,Gm,G8,or_false,not_or]at hx
  cases x with
  |zero=>exact absurd rfl hx.1
  |succ x=>
   simp only[hat,GI,and_true];have Ai:x≠H.length:=λe=>hx.2 (by rw[e])
   rcases Ho x H.length with h|h
   ·rw[Gv h]
   ·rw[Gh (by simp;omega),Gh h]
 ·have hl:H2.length=H.length:=by have:=hx 0 (by simp[Foot.has]);simpa [hat]using this
  have hT:as.map (Kg T)=as.map (Kg T2):=Xi (Jj ha).2;refine⟨H2++[ob],λx hx=>?_,λx hx=>?_,λ_ _ _ _ _ Ao=>Jdl (.inl rfl) (by rw[<-hT];exact Ah H2) ?_⟩
  ·simp only[Foot.has,Gm,G8,or_false]at hx;rcases hx with rfl|rfl
   ·simp[hat,hl]
   ·simp only[hat,GI,and_true];rw[<-hl,Gq (Gd _),hl,Gq (Gd _)]
  ·simp only[Foot.has,Gm,G8,or_false,not_or]at hx
   cases x with
   |zero=>exact absurd rfl hx.1
   |succ x=>
    simp only[hat,GI,and_true];have Ai:x≠H2.length:=λe=>hx.2 (by rw[e,hl])
    rcases Ho x H2.length with h|h
    ·rw[Gv h]
    ·rw[Gh (by simp;omega),Gh h]
  ·rintro v2 H3 ⟨rfl,rfl⟩;rw[hl];exact Ao
theorem hs_ld{ag:Bool}{a:IArg}{id off:Nat}{c:Cond}(ha:Kg T a=.ptr id i off)(he:exec (.load ag n a) T H=some (c,x,H))(hc:c.holds) :
  HS P E ⟨d,.load ag n a,none⟩ T H x H (.on [id+1],.on []):=by
 refine⟨λ_ _=>rfl,λT2 H2 Cs hx=>⟨H2,λy hy=>(by cases hy),λ_ _=>rfl,λ_ _ _ _ _ Ao=>?_⟩⟩;have hH:H2[id]? = H[id]?:=by have:=hx (id+1) (by simp[Foot.has]);simpa [hat]using this
 have hT:Kg T a=Kg T2 a:=Jy (Jj Cs).2;have Et:exec (.load ag n a) T2 H2=some (c,x,H2):=by
  simp only[exec,ha]at he;simp only[exec,<-hT,ha,hH]
  split at he
  ·split at he
   ·rename_i h1;simp only[GV,GI]at he;obtain⟨rfl,rfl,_⟩:=he;simp[h1]
   ·rename_i h1;simp only[GV,GI]at he;obtain⟨rfl,rfl,_⟩:=he;simp[h1]
  ·cases he
 exact JeY (.inl rfl) Et hc Ao
theorem hs_any{c:Cond}(hg:GOk T io.guard)(he:exec io.op T H=some (c,x,H'))(hc:c.holds):HS P E io T H x H' Foot.any:=hs_op hg he hc
theorem hs_all{c:Cond}(he:∀H2,exec op T H2=some (c,x,H2))(hc:c.holds):HS P E ⟨d,op,none⟩ T H x H Foot.no:=JbY λH2=>.inr ⟨.inl rfl,.inl ⟨_,he H2,hc⟩⟩
theorem hs_row(els:LQ)(Az:Jk ((IOp.bslice z n zero ps).rd.map λs=>T.getD s .un)=true)(he:X7 T z (GH n zero) ps=some els)(hn:els.length=n)(hc:Jq els=true):HS P E ⟨d,.bslice z n zero ps,none⟩ T H (.rslc z els none) H Foot.no:=by
 refine JbY λH2=>.inr ⟨.inl rfl,.inr (.inr ⟨Az,rfl,.tt,.slc 0 0 n (some n),[.arr z els],0,z,els,?_,trivial,rfl,hc,?_⟩)⟩
 ·simp[exec,he]
 ·subst hn;simp[frz]
theorem Jah{c:Cond}(Bc:stays op=true)(he:exec op T []=some (c,x,[]))(hc:c.holds):HS P E ⟨d,op,none⟩ T H x H Foot.no:=JbY λH2=>.inr ⟨.inl rfl,.inl ⟨_,JhW Bc he H2,hc⟩⟩
theorem vh_all(x:CV){c:Cond}(he:∀H2,exec op T H2=some (c,x,H2))(hc:c.holds)(h:vdh P E n0 N Q k l bs (put T d x) H):vdhR P E n0 N Q none d op false k l bs T H:=⟨x,H,hs_all he hc,h⟩
theorem vh_row(els:LQ)(Az:Jk ((IOp.bslice z n zero ps).rd.map λs=>T.getD s .un)=true)(he:X7 T z (GH n zero) ps=some els)(hn:els.length=n)(hc:Jq els=true)(h:vdh P E n0 N Q k l bs (put T d (.rslc z els none)) H):vdhR P E n0 N Q none d (.bslice z n zero ps) false k l bs T H:=⟨_,H,hs_row els Az he hn hc,h⟩
theorem QK {ρ:LB}{id j:Nat}{els:LQ}(h:ren ρ (.slc id 0 els.length none)=.slc j 0 els.length none):ren ρ (Qr id els)=Qr j els:=by
 cases els with
 |nil=>rfl
 |cons e l=>simpa [Qr]using h
def Kw:List (Nat×CV)->Nat->CV
 |[],_=>.un
 |p::l,i=>if i=p.1 then p.2 else Kw l i
def mkTF (al:List (Nat×CV)):Nat->Nat->Lu
 |0,_=>[]
 |n+1,i=>Kw al i::mkTF al n (i+1)
def mkT (n:Nat)(al:List (Nat×CV)):Lu:=mkTF al n 0
def zipA:Nat->Lu->List (Nat×CV)
 |_,[]=>[]
 |i,c::l=>(i,c)::zipA (i+1) l
theorem mkTF_get:∀(n i j:Nat),(mkTF al n i)[j]? = if j<n then some (Kw al (i+j)) else none
 |0,i,j=>by simp[mkTF]
 |n+1,i,0=>by simp[mkTF]
 |n+1,i,j+1=>by simp only[mkTF,Hr,mkTF_get n (i+1) j];rw[show i+1+j=i+(j+1) by omega];simp
theorem mkT_get?{j:Nat}:(mkT n al)[j]? = if j<n then some (Kw al j) else none:=by rw[mkT,mkTF_get];simp
theorem mkT_get(h:i<n):(mkT n al).getD i .un=Kw al i:=by rw[Gc,mkT_get?,if_pos h];rfl
theorem mkT_set{d:Nat}:(mkT n al).set d v=mkT n ((d,v)::al):=by
 refine GD λj=>?_
 rw[Gw,mkT_get?,mkT_get?];have hl:(mkT n al).length=n:=by
  have:∀m i,(mkTF al m i).length=m:=by
   intro m
   induction m with
   |zero=>intro i;rfl
   |succ m ih=>intro i;simp[mkTF,ih]
  exact this n 0
 rw[hl];by_cases h:d=j
 ·subst h;simp[Kw]
 ·have h':j≠d:=λe=>h e.symm
  simp[Kw,h,h']
theorem mkT_ext(hl:T.length=n)(h:∀j,j<n->T.getD j .un=Kw al j):T=mkT n al:=by
 refine GD λj=>?_
 rw[mkT_get?];by_cases hj:j<n
 ·have:=h j hj;rw[Gc,Gb om]at this;rw[if_pos hj,<-this,Gb om];rfl
 ·rw[if_neg hj,Gh om]
theorem alook_zip:∀(l:Lu) (i j:Nat),i<=j->Kw (zipA i l) j=l.getD (j-i) .un
 |[],i,j,_=>by simp[zipA,Kw]
 |c::l,i,j,h=>by
  simp only[zipA,Kw];by_cases e:j=i
  ·subst e;simp
  ·rw[if_neg e,alook_zip l (i+1) j om,show j-i=(j-(i+1))+1 by omega,HV]
theorem mkT_start{args:Lu}(h:args.length<=n):args++GH (n-args.length) .un=mkT n (zipA 0 args):=by
 refine mkT_ext (by simp;omega) λj hj=>?_
 rw[alook_zip args 0 j (GA _),Nat.sub_zero];simp only[Gc];by_cases hl:j<args.length
 ·rw[Gv hl]
 ·rw[Gq om,List.getElem?_replicate,Gh (l:=args) om]
  split <;> rfl
def Km (al:List (Nat×CV)):List (Nat×CV)->Prop
 |[]=>True
 |p::l=>Kw al p.1=p.2/\Km al l
theorem Jgh:∀{l:List (Nat×CV)}(j:Nat),Km al l->Kw l j=.un\/Kw al j=Kw l j
 |[],j,_=>.inl rfl
 |p::l,j,h=>by
  simp only[Kw]
  split
  ·rename_i e;subst e;exact .inr h.1
  ·exact Jgh j h.2
theorem Jt{l:List (Nat×CV)}(h:Km al l):forget (mkT n al) (mkT n l):=by
 have:∀m i,forget (mkTF al m i) (mkTF l m i):=by
  intro m
  induction m with
  |zero=>intro i;trivial
  |succ m ih=>intro i;exact⟨Jgh i h,ih (i+1)⟩
 exact this n 0
theorem Jv{id:Nat}{els:LQ}:JK id z els (mkT n al)=mkT n (al.map λp=>(p.1,frz id z els p.2)):=by
 have Dk:∀(al:List (Nat×CV)) i,frz id z els (Kw al i)=Kw (al.map λp=>(p.1,frz id z els p.2)) i:=by
  intro al i
  induction al with
  |nil=>rfl
  |cons p l ih=>
   simp only[Kw,GK]
   split
   ·rfl
   ·exact ih
 have:∀m i,JK id z els (mkTF al m i)=mkTF (al.map λp=>(p.1,frz id z els p.2)) m i:=by
  intro m
  induction m with
  |zero=>intro i;rfl
  |succ m ih=>intro i;simp only[mkTF,JK,ih,Dk]
 exact this n 0
theorem J2 {ρ:LB}:JG ρ (mkT n al)=mkT n (al.map λp=>(p.1,ren ρ p.2)):=by
 have Dk:∀(al:List (Nat×CV)) i,ren ρ (Kw al i)=Kw (al.map λp=>(p.1,ren ρ p.2)) i:=by
  intro al i
  induction al with
  |nil=>rfl
  |cons p l ih=>
   simp only[Kw,GK]
   split
   ·rfl
   ·exact ih
 have:∀m i,JG ρ (mkTF al m i)=mkTF (al.map λp=>(p.1,ren ρ p.2)) m i:=by
  intro m
  induction m with
  |zero=>intro i;rfl
  |succ m ih=>intro i;simp only[mkTF,JG,ih,Dk]
 exact this n 0
theorem vr_fnS{args:Lu}(hF:Jd P f=some F)(hn:args.length<=F.ntmps)(h:∀n,vrun0 P E H.length ⟨n,false⟩ (retQ F.results R) [.code F.body] (mkT F.ntmps (zipA 0 args)) H):CallsC P E f args H R:=Ki hF λn=>by rw[mkT_start hn];exact h n
theorem YT{args:Lu}(hF:Jd P f=some F)(ha:Jk args=true)(hv:v.closed=true)(hn:args.length<=F.ntmps)(h:∀n,vrun0 P Env.none 0 ⟨n,false⟩ (retQ F.results λv' _=>v'=v) [.code F.body] (mkT F.ntmps (zipA 0 args)) []):Fn P f args v:=Jb hF ha hv λn=>by rw[mkT_start hn];exact h n
theorem Jac{args:Lu}(Ah:Fn P f args v)(ha:as.map (Kg T)=args)(hg:GOk T g)(h:KD P E n0 N Q (.ops l::k) (put T d v) H):Ok P E n0 N Q (.ops (⟨d,.call f as,g⟩::l)::k) T H:=Ka hg (by rw[ha];exact Ah) h
theorem vr_fvS{x:IArg}{args:Lu}(hF:Jd P f=some F) (EY:(P.funcs[f]?.map (·.name))≠some "runtime.NumGoroutine")
  (Ah:Fn P f (l1++args++l2) v) (hx:Kg T x=.fn f l1 l2) (ha:xs.map (Kg T)=args) (hg:GOk T g) (h:KD P E n0 N Q (.ops l::k) (put T d v) H):Ok P E n0 N Q (.ops (⟨d,.callv x xs,g⟩::l)::k) T H:=
 vr_fv hg hx hF EY (by rw[ha];exact Ah) h
theorem vr_fgB(hg:GOk T g)(Ah:Fn P f (as.map (Kg T)) (.bool b))(h:∀B,b=B->KD P E n0 N Q (.ops l::k) (put T d (.bool B)) H):Ok P E n0 N Q (.ops (⟨d,.call f as,g⟩::l)::k) T H:=Ka hg Ah (h b rfl)
theorem vr_fvSB{x:IArg}{args:Lu}(hF:Jd P f=some F) (EY:(P.funcs[f]?.map (·.name))≠some "runtime.NumGoroutine")
  (Ah:Fn P f (l1++args++l2) (.bool b)) (hx:Kg T x=.fn f l1 l2) (ha:xs.map (Kg T)=args) (hg:GOk T g) (h:∀B,b=B->KD P E n0 N Q (.ops l::k) (put T d (.bool B)) H):Ok P E n0 N Q (.ops (⟨d,.callv x xs,g⟩::l)::k) T H:=
 vr_fvS hF EY Ah hx ha hg (h b rfl)
theorem Jfa {T:Lu}:GOk T none:=.inl rfl
theorem gokS {T:Lu}{s:Nat}{want:Bool}(h:Kg T (.s s)=.bool want):GOk T (some (s,want)):=gok h
attribute [go_sem] mkT_get mkT_set Kw zipA Jv J2 Km
theorem fcS{args:Lu}(hF:Jd P f=some F)(h:∀n,vrun0 P Env.none 0 ⟨n,false⟩ (retQ F.results λv' _=>v'=v) [.code F.body] (mkT F.ntmps (zipA 0 args)) [])(ha:Jk args=true:=by rfl)(hv:v.closed=true:=by rfl)(hn:args.length<=F.ntmps:=by simp;decide):Fn P f args v:=YT hF ha hv hn h
theorem vfS{args:Lu}(hF:Jd P f=some F)(h:∀n,vrun0 P E H.length ⟨n,false⟩ (retQ F.results R) [.code F.body] (mkT F.ntmps (zipA 0 args)) H)(hn:args.length<=F.ntmps:=by simp;decide):CallsC P E f args H R:=vr_fnS hF hn h
end Go.Cm
end
