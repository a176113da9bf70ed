/-
  A part of the proof. Conditions: none.
-/
import Derived.Test.YtejfnfphmkjffaaGreatDoorUA1
import Derived.Orders
import Derived.RangeFuncRecord
import Derived.RowKit
import Derived.RowKit2
import Derived.RowKit3
import Derived.Carry
import Derived.Below
import Derived.ReadAgain
import Derived.ChangeSame
import Derived.WideShapes
import Derived.ChangeArms
import Derived.OpenShut
import Derived.ChangeCalls
set_option linter.unusedSimpArgs false
set_option linter.unusedVariables false
open Bool renaming and_eq_true->Ga,or_eq_true->GA,false_eq_true->GX,not_eq_true'->GY,true_or->GL,not_true->Hf,false_or->Hg,or_true->Hl
open Nat renaming le_refl->Gd,lt_of_lt_of_le->Gs,le_trans->Gt,zero_le->GD,lt_succ_self->GM,strongRecOn->GZ,zero_add->G5,lt_succ_of_lt->Hm,le_add_right->Ho,lt_or_ge->Hq
open Option renaming getD_some->Gn,map_some->G6,bind_eq_some_iff->Hr
open List renaming getElem?_eq_getElem->Gb,getD_eq_getElem?_getD->Gc,getElem?_eq_some_iff->Gg,getElem?_eq_none->Gh,getElem?_append_right->Gp,mem_of_getElem?->Gl,getElem?_append_left->Gu,getElem?_set->Gv,getElem?_map->Gw,length_cons->Gx,mem_cons->Gq,ext_getElem?->GG,mem_range->Gy,all_eq_true->GH,range->Gj,replicate->GI,contains_iff_mem->GN,eq_nil_of_length_eq_zero->G7,map_cons->GK,mem_map->GQ,not_mem_nil->G8,mem_filter->G9,length_nil->Ha,getElem?_cons_succ->Ht,set_append_right->Hu,mem_cons_of_mem->Hw,take_succ_cons->Hy,getD_cons_succ->Hz,getElem?_drop->HV,append_assoc->HY,reverse_nil->HZ,cons_append->H5,any_eq_true->H6,nil_append->H7,getD->Hd,take_zero->H8,drop_zero->H9,sum_cons->La
open Array renaming getElem?_eq_getElem->Gf,getD_eq_getD_getElem?->Gr,getElem?_eq_some_iff->Gz,replicate->Gm,getElem?_toList->GR,getElem?_push->GU,getElem?_replicate->He,toList_setIfInBounds->Lb
open Classical renaming byContradiction->Lc,choose_spec->Ld,choose->Le
open Option.some renaming injEq->GV
open Iff renaming rfl->Gi
open Prod.mk renaming injEq->GJ
noncomputable section
section
namespace Go.Cm
section
section
variable {P:Program}{E:Env}{n0:Nat}{N:Fr}{Q:Exit->List CV->List CObj->Prop}{H:List CObj}{T:List CV}
theorem retQ_ret {ts:List RVar}{R:CV->List CObj->Prop}:retQ ts R .ret T H=resK (Xk T H ts) R H:=rfl
theorem retQ_normal {ts:List RVar}{R:CV->List CObj->Prop}:retQ ts R .normal T H=resK (Xk T H ts) R H:=rfl
theorem resAll_tmp {t:Nat}{R:CV->List CObj->Prop}:resK (Xk T H [.tmp t]) R H=R (T.getD t .un) H:=by simp[Xk,Jdc,resK,Cond.holds]
theorem resAll_nil {R:CV->List CObj->Prop}:resK (Xk T H []) R H=R (.tup []) H:=by simp[Xk,resK,Cond.holds]
theorem resAll_tmp2 {t t':Nat}{R:CV->List CObj->Prop}:resK (Xk T H [.tmp t,.tmp t']) R H=R (.tup [T.getD t .un,T.getD t' .un]) H:=by simp[Xk,Jdc,resK,Cond.holds]
theorem resAll_tmp3 {t t' t'':Nat}{R:CV->List CObj->Prop}:resK (Xk T H [.tmp t,.tmp t',.tmp t'']) R H=R (.tup [T.getD t .un,T.getD t' .un,T.getD t'' .un]) H:=by simp[Xk,Jdc,resK,Cond.holds]
theorem put_some {d:Nat}{v:CV}:put T (some d) v=T.set d v:=rfl
theorem put_none {v:CV}:put T none v=T:=rfl
theorem aget_s {n:Nat}:J7 T (.s n)=T.getD n .un:=rfl
theorem aget_c {v:CV}:J7 T (.c v)=v:=rfl
theorem JeI {z b:Nat}:KR z b H .nils []=some (.tt,.nils,H):=rfl
theorem Jfa {z b id off len:Nat}{cap:Option Nat}:KR z b H (.slc id off len cap) []=some (.tt,.slc id off len cap,H):=rfl
theorem JeH {z b z':Nat}{els:List (List CV)}{cap:Option Nat}:KR z b H (.rslc z' els cap) []=some (.tt,.rslc z' els cap,H):=rfl
theorem Jg2 {z bytes:Nat}{x0:List CV}{xs':List (List CV)}:KR z bytes H .nils (x0::xs')=some (Jy (x0::xs').length bytes,.slc H.length 0 (x0::xs').length none,H++[.arr z (x0::xs')]):=rfl
theorem Jg1 {z bytes z' c:Nat}{els:List (List CV)}{x0:List CV}{xs':List (List CV)}:KR z bytes H (.rslc z' els (some c)) (x0::xs')=if z'=z then some (.and (.le (c+1) (els.length+(x0::xs').length)) (Jy (els.length+(x0::xs').length) bytes),.slc H.length 0 (els.length+(x0::xs').length) none,H++[.arr z (els++(x0::xs'))]) else none:=rfl
theorem exAppend_slc {z bytes id off len:Nat}{cap:Option Nat}{x0:List CV}{xs':List (List CV)}:KR z bytes H (.slc id off len cap) (x0::xs')=match H[id]? with
   |some (.arr z' els)=>if z'=z/\off+len=els.length then
     match cap with
     |none=>some (Jy (len+(x0::xs').length) bytes,.slc H.length 0 (len+(x0::xs').length) none,(H.set id .dead)++[.arr z (els.drop off++(x0::xs'))])
     |some c=>some (.and (.le (c+1) (len+(x0::xs').length)) (Jy (len+(x0::xs').length) bytes),.slc H.length 0 (len+(x0::xs').length) none,H++[.arr z (els.drop off++(x0::xs'))])
    else if z'=z/\off+len<=els.length/\cap=none then
     some (Jy (len+(x0::xs').length) bytes,.slc H.length 0 (len+(x0::xs').length) none,(H.set id .dead)++[.arr z ((els.take (off+len)).drop off++(x0::xs'))])
    else none
   |_=>none:=rfl
theorem ite_true_eq {α:Type}{a b:α}:(if True then a else b)=a:=if_pos trivial
end
attribute [go_sem] vrun0_eq v_nil v_blk v_ops_nil v_op v_gop v_skip v_seq v_block v_cond v_ret v_exit v_reg v_loop v_dreg v_rfunc vres_some vres_none Cond.holds true_and and_true Bool.and_true Bool.true_and Bool.and_self if_true if_false ite_true_eq forall_const decide_true decide_false Hf Bool.not_false Bool.false_and Bool.and_false GL Hl Hg Bool.or_false eq_self reduceCtorEq decide_eq_true_eq decide_eq_false_iff_not Bool.true_eq_false GX false_implies true_implies implies_true not_true_eq_false not_false_eq_true false_and and_false and_self Nat.add_zero G5 Gd Int.toNat_natCast Int.natCast_zero or_false false_or or_true true_or G6 Option.map_none Gn Option.getD_none bne_self_eq_false beq_self_eq_true vcond_true vcond_false vguard_skip vguard_tt vguard_ff vguard_tf vguard_ft vexit_some vexit_none
 Jf9 vloopQ_exit vloopQ_ret retQ_ret retQ_normal resAll_tmp resAll_nil resAll_tmp2 resAll_tmp3 resK Xk Jdc put_some put_none aget_s aget_c exec binI binK exBin Jbq JaV XQ exLen exHi exMx XP JeI Jfa JeH Jg2 Jg1 exAppend_slc X5 QB XO CV.cells CV.oneCell QZ splice Jg4 Yx QK isKey XR
 List.getD_cons_zero Hz List.set_cons_zero List.set_cons_succ List.getElem?_cons_zero Ht GK List.map_nil H5 H7 Gx Ha Hy List.drop_succ_cons H8 H9 List.take_nil List.drop_nil List.replicate_succ List.replicate_zero
attribute [go_sem low] vcond_bool vguard_bool
attribute [go_sem_proc] Nat.reduceAdd Nat.reduceSub Nat.reduceMul Nat.reduceLeDiff Nat.reduceEqDiff Nat.reduceLT Nat.reduceBEq Int.reduceToNat Int.reduceAdd Int.reduceSub Int.reduceMul Int.reduceNeg Int.reduceLE Int.reduceLT Int.reduceEq Int.reduceBEq Int.reduceBNe reduceIte
end
section
mutual
def CV.closed:CV->Bool
 |.ptr _ _ _=>false
 |.slc _ _ _ _=>false
 |.map _=>false
 |.fn _ l1 l2=>Jp l1 && Jp l2
 |.iface _ c=>c.closed
 |.agg l=>Jp l
 |.tup l=>Jp l
 |_=>true
def Jp:List CV->Bool
 |[]=>true
 |c::cs=>c.closed && Jp cs
end
mutual
theorem Qe {own own':List Own}{imm:Nat->Nat->Option Value}:∀(c:CV) (v:Value),c.closed=true->rel own imm c v->rel own' imm c v
 |.un,_,_,_=>by simp only[rel]
 |.bool _,_,_,h=>by simp only[rel]at h|-;exact h
 |.int _ _,_,_,h=>by simp only[rel]at h|-;exact h
 |.str _,_,_,h=>by simp only[rel]at h|-;exact h
 |.nilp,_,_,h=>by simp only[rel]at h|-;exact h
 |.ptr _ _ _,_,hc,_=>by simp[CV.closed]at hc
 |.rptr _,_,_,h=>by simp only[rel]at h|-;exact h
 |.nils,_,_,h=>by simp only[rel]at h|-;exact h
 |.slc _ _ _ _,_,hc,_=>by simp[CV.closed]at hc
 |.rslc _ _ _,_,_,h=>by simp only[rel]at h|-;exact h
 |.nilm,_,_,h=>by simp only[rel]at h|-;exact h
 |.map _,_,hc,_=>by simp[CV.closed]at hc
 |.fn _ l1 l2,_,hc,h=>by
  simp only[rel]at h|-;simp only[CV.closed,Ga]at hc;obtain⟨vs1,vs2,e,h1,h2⟩:=h;exact⟨vs1,vs2,e,KM l1 _ hc.1 h1,KM l2 _ hc.2 h2⟩
 |.yld _,_,_,h=>by simp only[rel]at h|-;exact h
 |.nilf,_,_,h=>by simp only[rel]at h|-;exact h
 |.iface _ c,_,hc,h=>by
  simp only[rel]at h|-;simp only[CV.closed]at hc;obtain⟨r,e,h1⟩:=h;exact⟨r,e,Qe c _ hc h1⟩
 |.nili,_,_,h=>by simp only[rel]at h|-;exact h
 |.agg l,_,hc,h=>by
  simp only[rel]at h|-;simp only[CV.closed]at hc;obtain⟨vs,e,h1⟩:=h;exact⟨vs,e,KM l _ hc h1⟩
 |.tup l,_,hc,h=>by
  simp only[rel]at h|-;simp only[CV.closed]at hc;obtain⟨vs,e,h1⟩:=h;exact⟨vs,e,KM l _ hc h1⟩
theorem KM {own own':List Own}{imm:Nat->Nat->Option Value}:∀(l:List CV) (vs:List Value),Jp l=true->JP own imm l vs->JP own' imm l vs
 |[],vs,_,h=>by simp only[JP]at h|-;exact h
 |c::cs,vs,hc,h=>by
  simp only[JP]at h|-;simp only[Jp,Ga]at hc;obtain⟨r,rs,e,h1,h2⟩:=h;exact⟨r,rs,e,Qe c _ hc.1 h1,KM cs _ hc.2 h2⟩
end
def Jr:List (List CV)->Bool
 |[]=>true
 |e::es=>Jp e && Jr es
theorem Ye:∀{els:List (List CV)},Jr els=true->∀(j:Nat) e,els[j]? = some e->Jp e=true
 |[],_,j,e,h=>by simp at h
 |x::xs,hc,j,e,h=>by
  simp only[Jr,Ga]at hc
  cases j with
  |zero=>simp at h;subst h;exact hc.1
  |succ j=>exact Ye hc.2 j e (by simpa using h)
theorem Yr:∀{l:List CV},Jp l=true->∀(j:Nat) c,l[j]? = some c->c.closed=true
 |[],_,j,e,h=>by simp at h
 |x::xs,hc,j,e,h=>by
  simp only[Jp,Ga]at hc
  cases j with
  |zero=>simp at h;subst h;exact hc.1
  |succ j=>exact Yr hc.2 j e (by simpa using h)
mutual
def frz (id z:Nat)(els:List (List CV)):CV->CV
 |.slc j off len cap=>if j=id then(if off+len<=els.length then .rslc z ((els.drop off).take len) none else .un) else .slc j off len cap
 |.ptr j i off=>if j=id then .rptr ((els.getD i []).drop off) else .ptr j i off
 |.fn f l1 l2=>.fn f (JX id z els l1) (JX id z els l2)
 |.iface t c=>.iface t (frz id z els c)
 |.agg l=>.agg (JX id z els l)
 |.tup l=>.tup (JX id z els l)
 |c=>c
def JX (id z:Nat)(els:List (List CV)):List CV->List CV
 |[]=>[]
 |c::cs=>frz id z els c::JX id z els cs
end
def Qa (id z:Nat)(els:List (List CV)):CObj->CObj
 |.arr z' e=>.arr z' (e.map (JX id z els))
 |.map kvs=>.map (kvs.map λp=>(frz id z els p.1,frz id z els p.2))
 |o=>o
theorem JbM {id z:Nat}{els:List (List CV)}:∀(l:List CV),(JX id z els l).length=l.length
 |[]=>rfl
 |_::cs=>by simp[JX,JbM cs]
theorem JgQ {id z:Nat}{els:List (List CV)}:∀(l:List CV) (i:Nat),(JX id z els l)[i]? = (l[i]?).map (frz id z els)
 |[],_=>by simp[JX]
 |c::cs,0=>by simp[JX]
 |c::cs,i+1=>by simp[JX,JgQ cs i]
def Ku (id z:Nat)(els:List (List CV))(H:List CObj):List CObj:=(H.map (Qa id z els)).set id .dead
def Jbs (imm:Nat->Nat->Option Value)(B:Nat)(cells:Array Value):Nat->Nat->Option Value:=λB' i=>if B'=B then cells[i]? else imm B' i
section
variable {E:Env}{n0:Nat}{m:Bk}{H:List CObj}{w:World}
theorem Je5 {own:List Own}{imm:Nat->Nat->Option Value}{z o:Nat}{els:List (List CV)}{R:Nat->Option Value}(h:relO own imm z els R o)(hc:Jr els=true):Xx imm z els R o:=by
 rw[Qd];intro j e he;refine⟨(h j e he).1,λt c ht=>?_⟩;obtain⟨r,h1,h2⟩:=(h j e he).2 t c ht;exact⟨r,h1,Qe c r (Yr (Ye hc j e he) t c ht) h2⟩
theorem relEls_sub {imm:Nat->Nat->Option Value}{z o:Nat}{els:List (List CV)}{R:Nat->Option Value}(h:Xx imm z els R o)(k n:Nat):Xx imm z ((els.drop k).take n) R (o+k*z):=by
 rw[Qd]at h|-;intro j e hj;have IG:j<n:=by have:=(Gg.1 hj).1;simp at this;omega
 rw[List.getElem?_take_of_lt IG,HV]at hj;have:=h _ _ hj;rw[Nat.add_mul]at this;refine⟨this.1,λt c hc=>?_⟩;have:=this.2 t c hc;rw[show o+k*z+j*z+t=o+(k*z+j*z)+t by omega];exact this
mutual
theorem frz_rel {own:List Own}{imm imm':Nat->Nat->Option Value}{id z:Nat}{els:List (List CV)}{x:Own}(hi:Kv imm imm')(hx:own[id]? = some x)(hz:x.z=z)(hr:Xx imm' z els (imm' x.B) x.o) :
  ∀(c:CV) (v:Value),rel own imm c v->rel own imm' (frz id z els c) v
 |.un,_,_=>by simp only[frz,rel]
 |.bool _,_,h=>by simp only[frz,rel]at h|-;exact h
 |.int _ _,_,h=>by simp only[frz,rel]at h|-;exact h
 |.str _,_,h=>by simp only[frz,rel]at h|-;exact h
 |.nilp,_,h=>by simp only[frz,rel]at h|-;exact h
 |.ptr j i off,v,h=>by
  simp only[frz];by_cases hj:j=id
  ·subst hj;simp only[rel]at h;obtain⟨x',Ar,rfl⟩:=h;rw[hx]at Ar;cases Ar;simp only[if_true,rel];refine⟨x.B,x.o+i*x.z+off,rfl,?_⟩;rw[YU];intro t c ht;rw[HV]at ht
   cases he:els[i]? with
   |none=>simp[Hd,he]at ht
   |some e=>
    simp[Hd,he]at ht;obtain⟨r,h1,h2⟩:=((Qd _ _).1 hr i e he).2 _ _ ht;exact⟨r,by rw[hz];rw[show x.o+i*z+off+t=x.o+i*z+(off+t) by omega];exact h1,h2⟩
  ·rw[if_neg hj];exact Q9 (KL.refl _) hi _ _ h
 |.rptr cs,v,h=>by
  simp only[frz];exact Q9 (KL.refl _) hi _ _ h
 |.nils,_,h=>by simp only[frz,rel]at h|-;exact h
 |.slc j off len cap,v,h=>by
  simp only[frz];by_cases hj:j=id
  ·subst hj;rw[if_pos rfl];by_cases hl:off+len<=els.length
   ·rw[if_pos hl];simp only[rel]at h;obtain⟨x',a,c,Ar,rfl,CX,Bb,ha,AZ⟩:=h;rw[hx]at Ar;cases Ar;have Ad:((els.drop off).take len).length=len:=by simp;omega
    simp only[rel];by_cases Dn:c=0
    ·subst Dn;have:len=0:=by omega
     subst this;exact .inl ⟨.inl trivial,by simp,_,rfl⟩
    ·refine .inr ⟨x.B,x.o+off*x.z,c,by rw[Ad,ha Dn],by rw[Ad];exact CX,by simp,?_⟩;rw[hz];exact relEls_sub hr off len
   ·rw[if_neg hl];simp only[rel]
  ·rw[if_neg hj];exact Q9 (KL.refl _) hi _ _ h
 |.rslc z' e cap,v,h=>by
  simp only[frz];exact Q9 (KL.refl _) hi _ _ h
 |.nilm,_,h=>by simp only[frz,rel]at h|-;exact h
 |.map _,_,h=>by simp only[frz,rel]at h|-;exact h
 |.fn f l1 l2,_,h=>by
  simp only[frz,rel]at h|-;obtain⟨vs1,vs2,e,h1,h2⟩:=h;exact⟨vs1,vs2,e,Jcj hi hx hz hr l1 _ h1,Jcj hi hx hz hr l2 _ h2⟩
 |.yld _,_,h=>by simp only[frz,rel]at h|-;exact h
 |.nilf,_,h=>by simp only[frz,rel]at h|-;exact h
 |.iface _ c,_,h=>by
  simp only[frz,rel]at h|-;obtain⟨r,e,h1⟩:=h;exact⟨r,e,frz_rel hi hx hz hr c _ h1⟩
 |.nili,_,h=>by simp only[frz,rel]at h|-;exact h
 |.agg l,_,h=>by
  simp only[frz,rel]at h|-;obtain⟨vs,e,h1⟩:=h;exact⟨vs,e,Jcj hi hx hz hr l _ h1⟩
 |.tup l,_,h=>by
  simp only[frz,rel]at h|-;obtain⟨vs,e,h1⟩:=h;exact⟨vs,e,Jcj hi hx hz hr l _ h1⟩
theorem Jcj {own:List Own}{imm imm':Nat->Nat->Option Value}{id z:Nat}{els:List (List CV)}{x:Own}(hi:Kv imm imm')(hx:own[id]? = some x)(hz:x.z=z)(hr:Xx imm' z els (imm' x.B) x.o) :
  ∀(l:List CV) (vs:List Value),JP own imm l vs->JP own imm' (JX id z els l) vs
 |[],vs,h=>by simp only[JX,JP]at h|-;exact h
 |c::cs,vs,h=>by
  simp only[JX,JP]at h|-;obtain⟨r,rs,e,h1,h2⟩:=h;exact⟨r,rs,e,frz_rel hi hx hz hr c _ h1,Jcj hi hx hz hr cs _ h2⟩
end
theorem Jbj {id z:Nat}{els:List (List CV)}(o:CObj):(Qa id z els o).alive=o.alive:=by cases o <;> rfl
theorem Jad {id z k:Nat}{els:List (List CV)}{o:CObj}(h:(Ku id z els H)[k]? = some o):∃o0,H[k]? = some o0/\((k=id/\o=.dead)\/(k≠id/\o=Qa id z els o0)):=by
 simp only[Ku,Gv,List.length_map]at h
 split at h
 ·rename_i hk;subst hk
  split at h
  ·rename_i Ab;exact⟨H[id],Gb Ab,.inl ⟨rfl,(Option.some.inj h).symm⟩⟩
  ·cases h
 ·rename_i hk;rw[Gw]at h
  cases hH:H[k]? with
  |none=>simp[hH]at h
  |some o0=>simp[hH]at h;exact⟨o0,rfl,.inr ⟨λe=>hk e.symm,h.symm⟩⟩
theorem relO_frz {own:List Own}{imm imm':Nat->Nat->Option Value}{id z zz o:Nat}{els es:List (List CV)}{R:Nat->Option Value}(hf:∀c v,rel own imm c v->rel own imm' (frz id z els c) v)(h:relO own imm zz es R o):relO own imm' zz (es.map (JX id z els)) R o:=by
 intro j e he;rw[Gw]at he
 cases IQ:es[j]? with
 |none=>simp[IQ]at he
 |some e0=>
  simp[IQ]at he;subst he;obtain⟨h1,h2⟩:=h j e0 IQ;refine⟨by rw[JbM];exact h1,λt c hc=>?_⟩;rw[JgQ]at hc
  cases ht:e0[t]? with
  |none=>simp[ht]at hc
  |some c0=>
   simp[ht]at hc;subst hc;obtain⟨r,h3,h4⟩:=h2 t c0 ht;exact⟨r,h3,hf _ _ h4⟩
theorem Sim.freeze {id z:Nat}{els:List (List CV)}(hs:Sim E m H w)(hH:H[id]? = some (.arr z els))(hc:Jr els=true) :
  ∃imm',Sim E { m with imm:=imm' } (Ku id z els H) w/\Ext n0 m H w { m with imm:=imm' } (Ku id z els H) w/\∀c v,rel m.own m.imm c v->rel m.own imm' (frz id z els c) v:=by
 have Ab:id<m.own.length:=by rw[hs.len];exact(Gg.1 hH).1
 have hx:m.own[id]? = some m.own[id]:=Gb Ab;generalize m.own[id]=x at hx;obtain⟨hz,cells,elem,hb,Bt,AZ,AJ,Bh⟩:=hs.obj id _ x hH hx;have hi:Kv m.imm (Jbs m.imm x.B cells):=by
  intro B i v hv;simp only[Jbs]
  split
  ·rename_i hB;subst hB;have:=hs.imm _ i v hv;simpa [World.cell?,hb]using this
  ·exact hv
 have Ao:Xx (Jbs m.imm x.B cells) z els (Jbs m.imm x.B cells x.B) x.o:=by
  have h1:relO m.own (Jbs m.imm x.B cells) x.z els (λi=>cells[i]?) x.o:=JaI (KL.refl _) hi AJ;have h2:=Je5 h1 hc;rw[hz]at h2;have e:Jbs m.imm x.B cells x.B=λi=>cells[i]?:=by funext i;simp[Jbs]
  rw[e];exact h2
 have hf:∀c v,rel m.own m.imm c v->rel m.own (Jbs m.imm x.B cells) (frz id z els c) v:=frz_rel hi hx hz Ao;have iY:x.B<w.heap.size:=(Gz.1 hb).1;refine⟨Jbs m.imm x.B cells,⟨by simp[Ku,hs.len],λk o x' hk Ar=>?_,λB i v hv=>?_,λB i v hv=>?_,λk k' o o' x1 x2 h1 h2 Da Df Bc Bd hB=>?_,λk o x' hk ha Ar i hi=>?_,λk s b hk=>?_,λk o x' hk ha Ar=>?_,hs.extlt,hs.gl⟩,⟨Gd _,λ_ _ _=>rfl,hi,λB ho=>.inl ?_,λB i v hv=>?_,λ_ _ _ h=>h,λh=>h,rfl,rfl,rfl⟩,hf⟩
 ·obtain⟨o0,h0,hh⟩:=Jad hk;rcases hh with ⟨_,rfl⟩|⟨Ah,rfl⟩
  ·trivial
  ·have:=hs.obj k o0 x' h0 Ar
   cases o0 with
   |arr z' es=>
    obtain⟨a1,c,el,a2,a3,a4,a5,a6⟩:=this;exact⟨a1,c,el,a2,a3,by simpa using a4,relO_frz hf a5,a6⟩
   |map kvs=>
    obtain⟨es,clock,a1,a2,a3⟩:=this;refine⟨es,clock,a1,by simpa using a2,λi k v e hk he=>?_⟩;rw[Gw]at hk
    cases Ce:kvs[i]? with
    |none=>simp[Ce]at hk
    |some p=>
     simp[Ce]at hk;obtain⟨rfl,rfl⟩:=hk;have:=a3 i p.1 p.2 e Ce he;exact⟨hf _ _ this.1,hf _ _ this.2⟩
   |dead=>trivial
   |ext s b=>trivial
 ·simp only[Jbs]at hv
  split at hv
  ·rename_i hB;subst hB;simpa [World.cell?,hb]using hv
  ·exact hs.imm B i v hv
 ·simp only[Jbs]at hv
  split at hv
  ·exact Bh _ v hv
  ·exact hs.one B i v hv
 ·obtain⟨p1,q1,Mv⟩:=Jad h1;obtain⟨p2,q2,fU⟩:=Jad h2;rcases Mv with ⟨_,rfl⟩|⟨_,rfl⟩
  ·cases Da
  rcases fU with ⟨_,rfl⟩|⟨_,rfl⟩
  ·cases Df
  rw[Jbj]at Da Df;exact hs.sep k k' p1 p2 x1 x2 q1 q2 Da Df Bc Bd hB
 ·obtain⟨p1,q1,Mv⟩:=Jad hk;rcases Mv with ⟨_,rfl⟩|⟨Ah,rfl⟩
  ·cases ha
  rw[Jbj]at ha;have aJ:x'.B≠x.B:=λe=>Ah (hs.sep k id p1 _ x' x q1 hH ha rfl Ar hx e)
  simp only[Jbs,if_neg aJ];exact hs.ro k p1 x' q1 ha Ar i hi
 ·obtain⟨p1,q1,Mv⟩:=Jad hk;rcases Mv with ⟨_,h⟩|⟨Ah,h⟩
  ·cases h
  have:p1=.ext s b:=by cases p1 <;> simp[Qa]at h;simp[h]
  subst this;refine E.stable _ _ _ _ _ _ _ (hs.ext k s b q1) (λ_ _=>rfl) (Gd _) hi (λB i v hv=>?_) (λB i v hv=>?_) (λB i v hv=>?_)
  ·simp only[Jbs]at hv
   split at hv
   ·rename_i hB;subst hB;exact .inr λhb=>hs.extsep id _ x hH rfl hx (.inl hb)
   ·exact .inl hv
  ·simp only[Jbs]at hv
   split at hv
   ·rename_i hB;subst hB;simpa [World.cell?,hb]using hv
   ·exact hs.imm B i v hv
  ·simp only[Jbs]at hv
   split at hv
   ·exact Bh _ v hv
   ·exact hs.one B i v hv
 ·obtain⟨p1,q1,Mv⟩:=Jad hk;rcases Mv with ⟨_,rfl⟩|⟨Ah,rfl⟩
  ·cases ha
  rw[Jbj]at ha;exact hs.extsep k p1 x' q1 ha Ar
 ·rcases ho with h|⟨k,o,x',hk,ha,Ar,hB⟩
  ·exact .inl h
  ·obtain⟨p1,q1,Mv⟩:=Jad hk;rcases Mv with ⟨_,rfl⟩|⟨Ah,rfl⟩
   ·cases ha
   rw[Jbj]at ha;exact .inr ⟨k,p1,x',q1,ha,Ar,hB⟩
 ·simp only[Jbs]at hv
  split at hv
  ·rename_i hB;subst hB;exact .inr (.inl (.inr ⟨id,_,x,hH,rfl,hx,rfl⟩))
  ·exact .inl hv
end
end
section
section
variable {P:Program}{E:Env}{n0:Nat}{N:Fr}{Q:Exit->List CV->List CObj->Prop}{H:List CObj}{T:List CV}{k:List KItem}
theorem ok_freeze {id z:Nat}{els:List (List CV)}(hH:H[id]? = some (.arr z els))(hc:Jr els=true)(h:Ok P E n0 N Q k (JX id z els T) (Ku id z els H)):Ok P E n0 N Q k T H:=by
 intro m w a b cs kr rest hp hd hk;obtain⟨imm',hs,he,hf⟩:=Sim.freeze (n0:=n0) hp.sim hH hc;have hT:JP m.own imm' (JX id z els T) a.tmps.toList:=by
  have ht:=hp.tmps;rw[Xw]at ht|-;refine⟨by rw[JbM];exact ht.1,λi c v CQ hv=>?_⟩;rw[JgQ]at CQ
  cases au:T[i]? with
  |none=>simp[au]at CQ
  |some c0=>simp[au]at CQ;subst CQ;exact hf _ _ (ht.2 i c0 v au hv)
 exact Reach.step (.refl _ _) he (h { m with imm:=imm' } w a b cs kr rest ⟨hs,hT,by simpa [Ku]using hp.long⟩ (hd.ext he) hk)
theorem CallsC.freeze {f:Nat}{args:List CV}{R R':CV->List CObj->Prop}(h:CallsC P E f args H R)(hR:∀v H',R v H'->∃id z els,H'[id]? = some (.arr z els)/\Jr els=true/\R' (frz id z els v) (Ku id z els H')):CallsC P E f args H R':=by
 intro m w vs hs hv;refine(h m w vs hs hv).mono ?_;rintro e w' ⟨r,m',v,H',h1,h2,h3,h4,h5⟩;obtain⟨id,z,els,g1,g2,g3⟩:=hR _ _ h5;obtain⟨imm',Az,he,hf⟩:=Sim.freeze (n0:=H.length) h3 g1 g2;exact⟨r,_,_,_,h1,h2.trans he,Az,hf _ _ h4,g3⟩
theorem Sim.back {m:Bk}{w w':World}{m':Bk}{H':List CObj}(hs:Sim E m H w)(Ae:Ext n0 { own:=[],imm:=m.imm,ext:=λ_=>False } [] w m' H' w')(Az:Sim Env.none m' H' w') :
  Sim E { m with imm:=m'.imm } H w'/\∀n1,Ext n1 m H w { m with imm:=m'.imm } H w':=by
 have BN:∀B,¬owned { own:=[],imm:=m.imm,ext:=λ_=>False } [] B:=by
  rintro B (h|⟨k,o,x,hk,_⟩)
  ·exact h
  ·simp at hk
 have IL:∀B,B<w.heap.size->w'.heap[B]? = w.heap[B]?:=λB hB=>Ae.frame B hB (BN B)
 have hi:Kv m.imm m'.imm:=Ae.imm;have DF:∀B i v,m'.imm B i=some v->m.imm B i=some v\/w.heap.size<=B:=λB i v hv=>by
  rcases Ae.newImm B i v hv with h|h|h
  ·exact .inl h
  ·exact absurd h (BN B)
  ·exact .inr h
 refine⟨⟨hs.len,λk o x hk hx=>?_,Az.imm,Az.one,hs.sep,λk o x hk Am hx i Dg=>?_,λk s b hk=>?_,hs.extsep,λB hB=>Gs (hs.extlt B hB) Ae.size,Az.gl.1,hs.gl.2⟩,λn1=>⟨Ae.size,λB hB _=>IL B hB,hi,λB ho=>.inl ho,λB i v hv=>?_,λ_ _ _ h=>h,λh=>h,Ae.same⟩⟩
 ·by_cases Am:o.alive=true
  ·exact Kw (KL.refl _) hi (λ_=>IL _ (X8 hs hk Am hx)) (hs.obj k o x hk hx)
  ·cases o <;> simp[CObj.alive]at Am <;> trivial
 ·cases hv:m'.imm x.B i with
  |none=>rfl
  |some v=>
   rcases DF _ _ _ hv with h|h
   ·rw[hs.ro k o x hk Am hx i Dg]at h;cases h
   ·have:=X8 hs hk Am hx;omega
 ·exact E.stable _ _ _ _ _ _ _ (hs.ext k s b hk) (λB hB=>IL B (hs.extlt B hB)) Ae.size hi (λB i v hv=>by
   rcases DF B i v hv with h|h
   ·exact .inl h
   ·exact .inr λhb=>by have:=hs.extlt B (.inl hb);omega) Az.imm Az.one
 ·rcases DF B i v hv with h|h
  ·exact .inl h
  ·exact .inr (.inr h)
theorem Sim.nothing {m:Bk}{w:World}(hs:Sim E m H w):Sim Env.none { own:=[],imm:=m.imm,ext:=λ_=>False } [] w:=
 ⟨rfl,by simp,hs.imm,hs.one,by simp,by simp,by simp,by simp,λB h=>hs.gl.1.lt (h.resolve_left id),hs.gl.1,by simp⟩
theorem CallsC.frame {f:Nat}{args:List CV}{R:CV->List CObj->Prop}{R':CV->Prop}(h:CallsC P Env.none f args [] R)(ha:Jp args=true)(hR:∀v H',R v H'->v.closed=true/\R' v):CallsC P E f args H λv H'=>R' v/\H'=H:=by
 intro m w vs hs hv;refine(h _ w vs hs.nothing (KM _ _ ha hv)).mono ?_;rintro e w' ⟨r,m',v,H',rfl,Ae,Az,Ao,Sc⟩;obtain⟨Aq,iB⟩:=hR _ _ Sc;obtain⟨h1,h2⟩:=hs.back Ae Az;exact⟨r,{ m with imm:=m'.imm },v,H,rfl,h2 _,h1,Qe v r Aq Ao,iB,rfl⟩
def Fn (P:Program)(f:Nat)(args:List CV)(v:CV):Prop:=∀(E:Env) (H:List CObj),Pure P E f args H v
theorem JgS {f:Nat}{args:List CV}{v:CV}(h:CallsC P Env.none f args [] λv' _=>v'=v)(ha:Jp args=true)(hv:v.closed=true):Fn P f args v:=
 λE H=>h.frame ha λv' _ O8=>by subst O8;exact⟨hv,rfl⟩
theorem Jc {f:Nat}{F:IFunc}{args:List CV}{v:CV}(hF:Jf P f=some F)(ha:Jp args=true)(hv:v.closed=true)(h:∀n,vrun0 P Env.none 0 ⟨n,false⟩ (retQ F.results λv' _=>v'=v) [.code F.body] (args++GI (F.ntmps-args.length) .un) []):Fn P f args v:=
 JgS (J8 hF h) ha hv
theorem J6 {d:Option Nat}{f:Nat}{as:List IArg}{l:List IOper}{v:CV}(Ag:Fn P f (as.map (J7 T)) v)(h:Kn P E n0 N Q (.ops l::k) (put T d v) H):Ok P E n0 N Q (.ops (⟨d,.call f as,none⟩::l)::k) T H:=
 Jax (Ag E H) h
theorem Kb {d:Option Nat}{g:Option (Nat×Bool)}{f:Nat}{as:List IArg}{l:List IOper}{v:CV}(hg:GOk T g)(Ag:Fn P f (as.map (J7 T)) v)(h:Kn P E n0 N Q (.ops l::k) (put T d v) H):Ok P E n0 N Q (.ops (⟨d,.call f as,g⟩::l)::k) T H:=
 vr_pureg hg (Ag E H) h
end
end
section
def IArg.rd:IArg->List Nat
 |.s n=>[n]
 |.c _=>[]
def rdL:List IArg->List Nat
 |[]=>[]
 |x::l=>x.rd++rdL l
def rdO:Option IArg->List Nat
 |none=>[]
 |some x=>x.rd
def rdP:List (Nat×Nat×IArg)->List Nat
 |[]=>[]
 |(_,_,x)::l=>x.rd++rdP l
def rdE:List (Nat×IArg)->List Nat
 |[]=>[]
 |(_,x)::l=>x.rd++rdE l
def IOp.rd:IOp->List Nat
 |.mv a=>a.rd
 |.pick c a b=>c.rd++(a.rd++b.rd)
 |.alloc _=>[]
 |.box a=>a.rd
 |.build _ ps=>rdP ps
 |.bslice _ _ _ ps=>rdE ps
 |.load _ _ a=>a.rd
 |.store _ a v=>a.rd++v.rd
 |.bin _ _ x y=>x.rd++y.rd
 |.eqs _ _ x y=>x.rd++y.rd
 |.not x=>x.rd
 |.neg x=>x.rd
 |.conv _ x=>x.rd
 |.mkfn _ l1 l2=>rdL l1++rdL l2
 |.mkmap=>[]
 |.mkslice _ _ _ l c=>l.rd++c.rd
 |.slice _ x lo hi mx=>x.rd++(rdO lo++(rdO hi++rdO mx))
 |.faddr _ x=>x.rd
 |.field _ _ _ x=>x.rd
 |.iaddr _ x i=>x.rd++i.rd
 |.indexS x i=>x.rd++i.rd
 |.lookup _ _ _ m k=>m.rd++k.rd
 |.mapset _ m k v=>m.rd++(k.rd++v.rd)
 |.len _ x=>x.rd
 |.append _ _ s x=>s.rd++x.rd
 |.clear _ x=>x.rd
 |.extract x _=>x.rd
 |.nchk x=>x.rd
 |.sliceS x lo hi=>x.rd++(rdO lo++rdO hi)
 |.mmx _ x y=>x.rd++y.rd
 |.copy _ x y=>x.rd++y.rd
 |.call _ as=>rdL as
 |.callv x as=>x.rd++rdL as
def agree (l:List Nat)(T T':List CV):Prop:=∀s∈l,T.getD s .un=T'.getD s .un
theorem Ji {a b:List Nat}{T T':List CV}(h:agree (a++b) T T'):agree a T T'/\agree b T T':=
 ⟨λs hs=>h s (by simp[hs]),λs hs=>h s (by simp[hs])⟩
theorem Ju {x:IArg}{T T':List CV}(h:agree x.rd T T'):J7 T x=J7 T' x:=by
 cases x with
 |s n=>exact h n (by simp[IArg.rd])
 |c v=>rfl
theorem Xo {T T':List CV}:∀{l:List IArg},agree (rdL l) T T'->l.map (J7 T)=l.map (J7 T')
 |[],_=>rfl
 |x::l,h=>by
  simp only[rdL]at h;simp only[GK,Ju (Ji h).1,Xo (Ji h).2]
theorem Ja5 {T T':List CV}:∀{ps:List (Nat×Nat×IArg)}{c:List CV},agree (rdP ps) T T'->QB T c ps=QB T' c ps
 |[],_,_=>rfl
 |(off,n,x)::ps,c,h=>by
  simp only[rdP]at h;simp only[QB,Ju (Ji h).1]
  split
  ·rfl
  ·split
   ·exact Ja5 (Ji h).2
   ·rfl
theorem Jcx {z:Nat}{T T':List CV}:∀{ps:List (Nat×IArg)}{c:List (List CV)},agree (rdE ps) T T'->XO T z c ps=XO T' z c ps
 |[],_,_=>rfl
 |(i,x)::ps,c,h=>by
  simp only[rdE]at h;simp only[XO,Ju (Ji h).1]
  split
  ·rfl
  ·split
   ·exact Jcx (Ji h).2
   ·rfl
theorem JbU {d:Int}{x:Option IArg}{T T':List CV}(h:agree (rdO x) T T'):XQ T d x=XQ T' d x:=by
 cases x with
 |none=>rfl
 |some x=>simp only[XQ,Ju (T:=T) (T':=T') (x:=x) h]
theorem agree_hi {v:CV}{x:Option IArg}{T T':List CV}(h:agree (rdO x) T T'):exHi T v x=exHi T' v x:=by
 cases x with
 |none=>rfl
 |some x=>simp only[exHi,Ju (T:=T) (T':=T') (x:=x) h]
theorem agree_mx {x:Option IArg}{T T':List CV}(h:agree (rdO x) T T'):exMx T x=exMx T' x:=by
 cases x with
 |none=>rfl
 |some x=>simp only[exMx,Ju (T:=T) (T':=T') (x:=x) h]
theorem Qr {op:IOp}{T T':List CV}{H:List CObj}(h:agree op.rd T T'):exec op T H=exec op T' H:=by
 cases op <;> simp only[IOp.rd]at h <;> simp only[exec]
 case mv a=>rw[Ju h]
 case pick c a b=>rw[Ju (Ji h).1,Ju (Ji (Ji h).2).1,Ju (Ji (Ji h).2).2]
 case box a=>rw[Ju h]
 case build z ps=>rw[Ja5 h]
 case bslice z n zero ps=>rw[Jcx h]
 case load=>rw[Ju h]
 case store=>rw[Ju (Ji h).1,Ju (Ji h).2]
 case bin=>rw[Ju (Ji h).1,Ju (Ji h).2]
 case eqs=>rw[Ju (Ji h).1,Ju (Ji h).2]
 case not=>rw[Ju h]
 case neg=>rw[Ju h]
 case conv=>rw[Ju h]
 case mkfn=>rw[Xo (Ji h).1,Xo (Ji h).2]
 case mkslice=>rw[Ju (Ji h).1,Ju (Ji h).2]
 case slice=>rw[Ju (Ji h).1,JbU (Ji (Ji h).2).1,agree_hi (Ji (Ji (Ji h).2).2).1,agree_mx (Ji (Ji (Ji h).2).2).2]
 case faddr=>rw[Ju h]
 case field=>rw[Ju h]
 case iaddr=>rw[Ju (Ji h).1,Ju (Ji h).2]
 case indexS=>rw[Ju (Ji h).1,Ju (Ji h).2]
 case lookup=>rw[Ju (Ji h).1,Ju (Ji h).2]
 case mapset=>rw[Ju (Ji h).1,Ju (Ji (Ji h).2).1,Ju (Ji (Ji h).2).2]
 case len=>rw[Ju h]
 case append=>rw[Ju (Ji h).1,Ju (Ji h).2]
 case clear=>rw[Ju h]
 case extract=>rw[Ju h]
 case nchk=>rw[Ju h]
 case sliceS x lo hi=>
  rw[Ju (Ji h).1]
  split
  ·rw[JbU (Ji (Ji h).2).1,JbU (Ji (Ji h).2).2]
  ·rfl
 case mmx=>rw[Ju (Ji h).1,Ju (Ji h).2]
 case copy=>rw[Ju (Ji h).1,Ju (Ji h).2]
def FV (op:IOp)(T:List CV)(v:CV):Prop:=
 Jp (op.rd.map λs=>T.getD s .un)=true/\v.closed=true/\∃c v0 H0 id z els,exec op T []=some (c,v0,H0)/\c.holds/\H0[id]? = some (.arr z els)/\Jr els=true/\v=frz id z els v0
theorem FV.congr {op:IOp}{T T':List CV}{v:CV}(h:agree op.rd T T')(hv:FV op T v):FV op T' v:=by
 obtain⟨h1,h2,c,v0,H0,id,z,els,h3,h4⟩:=hv;refine⟨?_,h2,c,v0,H0,id,z,els,by rw[<-Qr h];exact h3,h4⟩;rw[<-h1]
 congr 1
 exact List.map_congr_left λs hs=>(h s hs).symm
def IOper.rd (io:IOper):List Nat:=(match io.guard with|some (g,_)=>[g]|none=>[])++io.op.rd
section
variable (P:Program)(E:Env)
def Val (io:IOper)(T:List CV)(H:List CObj)(v:CV):Prop:=
 (∃g want,io.guard=some (g,want)/\(T.getD g .un=.bool (!want)\/T.getD g .un=.tup [])/\v=.tup [])\/
 (GOk T io.guard/\((∃c,exec io.op T H=some (c,v,H)/\c.holds)\/(∃f as,io.op=.call f as/\Pure P E f (as.map (J7 T)) H v)\/FV io.op T v))
end
section
variable {P:Program}{E:Env}{n0:Nat}{N:Fr}{Q:Exit->List CV->List CObj->Prop}{H:List CObj}{T T':List CV}{k:List KItem}{io:IOper}{v:CV}
theorem Val.congr (h:agree io.rd T T')(hv:Val P E io T H v):Val P E io T' H v:=by
 obtain⟨d,op,g⟩:=io;have hg:=(Ji h).1;have ho:=(Ji h).2;rcases hv with ⟨s,want,h1,h2,h3⟩|⟨h1,h2⟩
 ·simp only at h1;subst h1;exact .inl ⟨s,want,rfl,by rw[<-hg s (by simp)];exact h2,h3⟩
 ·refine .inr ⟨?_,?_⟩
  ·rcases h1 with h1|⟨s,want,h1,h4⟩
   ·exact .inl h1
   ·simp only at h1;subst h1;exact .inr ⟨s,want,rfl,by rw[<-hg s (by simp)];exact h4⟩
  ·rcases h2 with ⟨c,h5,h6⟩|⟨f,as,h5,h6⟩|h5
   ·exact .inl ⟨c,by rw[<-Qr ho];exact h5,h6⟩
   ·simp only at h5;subst h5;exact .inr (.inl ⟨f,as,rfl,by rw[<-Xo ho];exact h6⟩)
   ·exact .inr (.inr (h5.congr ho))
def Jb8 (rd:List Nat)(T:List CV):Nat->List CV
 |0=>[]
 |n+1=>Jb8 rd T n++[if rd.contains n then T.getD n .un else .un]
theorem XM (rd:List Nat)(T:List CV):∀n,(Jb8 rd T n).length=n
 |0=>rfl
 |n+1=>by simp[Jb8,XM rd T n]
theorem JcQ (rd:List Nat)(T:List CV):∀n i,i<n->(Jb8 rd T n)[i]? = some (if rd.contains i then T.getD i .un else .un)
 |n+1,i,h=>by
  rw[Jb8];by_cases hi:i<n
  ·rw[Gu (by rw[XM];exact hi)];exact JcQ rd T n i hi
  ·have:i=n:=by omega
   subst this;rw[Gp (by rw[XM];exact Gd _),XM,Nat.sub_self];rfl
theorem onlyAt_agree (rd:List Nat)(T:List CV):agree rd T (Jb8 rd T T.length):=by
 intro s hs;by_cases h:s<T.length
 ·have h1:=JcQ rd T T.length s h;have h2:rd.contains s=true:=by simpa using hs
  rw[h2,if_pos rfl]at h1;simp only[Gc,h1,Gn]
 ·have h1:(Jb8 rd T T.length)[s]? = none:=Gh (by rw[XM];omega);have h2:T[s]? = none:=Gh (by omega);simp only[Gc,h1,h2]
theorem onlyAt_rels {rd:List Nat}{T:List CV}{vs:List Value}{own own':List Own}{imm:Nat->Nat->Option Value}(hc:Jp (rd.map λs=>T.getD s .un)=true)(h:JP own imm T vs):JP own' imm (Jb8 rd T T.length) vs:=by
 rw[Xw]at h|-;refine⟨by rw[XM];exact h.1,λi c v CQ hv=>?_⟩;have hi:i<T.length:=by have:=(Gg.1 CQ).1;rwa [XM]at this
 rw[JcQ rd T _ i hi]at CQ
 cases CQ
 by_cases hm:rd.contains i=true
 ·rw[if_pos hm];refine Qe _ _ ?_ (h.2 i _ v (by rw[Gb hi,Gc,Gb hi];rfl) hv);have AB:i∈rd:=by simpa using hm
  obtain⟨j,hj⟩:=List.getElem?_of_mem (List.mem_map_of_mem (f:=λs=>T.getD s .un) AB);exact Yr hc j _ hj
 ·rw[if_neg hm];simp only[rel]
theorem ok_fv {d:Option Nat}{op:IOp}{g:Option (Nat×Bool)}{l:List IOper}(hg:GOk T g)(hv:FV op T v)(h:Ok P E n0 N Q (.ops l::k) (put T d v) H):Ok P E n0 N Q (.ops (⟨d,op,g⟩::l)::k) T H:=by
 obtain⟨Aq,dM,c,v0,H0,id,z,els,he,hc,hH,aa,dL⟩:=hv;intro m w a b cs kr rest hp hd hk;obtain⟨ops,i,is,kr',o,rfl,ho,Fq,AA⟩:=Jbf hk;obtain⟨hw,BX,AX⟩:=Jaw Fq hg hp.tmps;have fu:Pre Env.none 0 { own:=[],imm:=m.imm,ext:=λ_=>False } [] w (Jb8 op.rd T T.length) a:=⟨hp.sim.nothing,onlyAt_rels Aq hp.tmps,GD _⟩;obtain⟨m1,w1,r,nx,Af,Cy,Ae,CR,Ao,_⟩:=JfX AX (by rw[<-Qr (onlyAt_agree op.rd T)];exact he) hc fu;obtain⟨imm',Az,Cf,hf⟩:=Sim.freeze (n0:=0) CR hH aa;obtain⟨g1,g2⟩:=hp.sim.back (Ae.trans Cf) Az;have hr:=Qe (own':=m.own) v r dM (by rw[dL];exact hf _ _ Ao);have Al:=JcE (b:=b) (cs:=cs) (is:=is) (kr:=kr'++rest) ho hw (semAt_plain AX) Af Cy;rw[BX]at Al;refine Reach.step (.one Al) (g2 n0) (h _ w1 _ b cs (.inRegion ops is::kr') rest (JcM g1 (KJ (KL.refl _) (Ae.trans Cf).imm _ _ hp.tmps) hp.long hr) ?_ AA);rw[put_defers];exact hd.ext (g2 n0)
theorem Val.ok {l:List IOper}(hv:Val P E io T H v)(h:Ok P E n0 N Q (.ops l::k) (put T io.dst v) H):Ok P E n0 N Q (.ops (io::l)::k) T H:=by
 obtain⟨d,op,g⟩:=io;rcases hv with ⟨s,want,h1,h2,h3⟩|⟨h1,h2⟩
 ·subst h3;exact Jei h1 h2 h
 ·rcases h2 with ⟨c,h5,h6⟩|⟨f,as,h5,h6⟩|h5
  ·exact Jej h1 h5 h6 h
  ·simp only at h5;subst h5;exact Jek h1 h6 λv' H' ⟨hv,hH⟩=>by rw[hv,hH];exact h
  ·exact ok_fv h1 h5 h
end
end
section
def Q3 (l:List IOper)(i:Nat):IOper:=l.getD i ⟨none,.mv (.c .un),none⟩
inductive Sched (n:Nat)(es:List (List Nat)):(Nat->Bool)->List Nat->Prop
 |nil {S:Nat->Bool}:(∀i,i<n->S i=false->∃e∈es.getD i [],S e=false)->Sched n es S []
 |cons {S:Nat->Bool} {i:Nat} {is:List Nat}:i<n->S i=false->(∀e∈es.getD i [],S e=true)->Sched n es (λj=>S j || j == i) is->Sched n es S (i::is)
theorem edges_get {ops:Array Oper}{i:Nat}{o:Oper}(h:ops[i]? = some o):(ops.toList.map JaW).getD i []=JaW o:=by
 have:ops.toList[i]? = some o:=by simpa using h
 simp[Hd,this]
theorem Jec {o:Oper}{listed:Array Bool}:(o.after.all λe=>!Region.binds .any e || listed.getD e.on false)=true↔∀e∈JaW o,listed.getD e false=true:=by
 rw[Array.all_eq_true_iff_forall_mem];unfold JaW
 constructor
 ·intro h e he;simp only[GQ,G9]at he;obtain⟨x,⟨h1,h2⟩,rfl⟩:=he;have:=h x (by simpa using h1);simpa [h2]using this
 ·intro h x hx;by_cases hb:Region.binds .any x=true
  ·have:=h x.on (by simp only[GQ,G9];exact⟨x,⟨by simpa using hx,hb⟩,rfl⟩);simpa [hb]using this
  ·simp[hb]
theorem listed_set {listed:Array Bool}{i:Nat}(hi:i<listed.size):(λj=>(listed.setIfInBounds i true).getD j false)=λj=>listed.getD j false || j == i:=by
 funext j
 simp only[Gr,Array.getElem?_setIfInBounds];by_cases h:i=j
 ·subst h;simp[hi]
 ·have:(j == i)=false:=by simpa using λe=>h e.symm
  simp[h,this]
theorem Jgi (ops:Array Oper):∀(fuel t:Nat) (listed:Array Bool),listed.size=ops.size->listed.toList.count false<=fuel->
  Sched ops.size (ops.toList.map JaW) (λi=>listed.getD i false) (Region.linearise.go .any ops fuel t listed []):=by
 intro fuel
 induction fuel with
 |zero=>
  intro t listed hs hc;simp only[Region.linearise.go,HZ];refine .nil λi hi hS=>?_
  have Ab:i<listed.size:=by omega
  have:listed.toList.count false=0:=by omega
  rw[List.count_eq_zero]at this;have hm:listed[i]∈listed.toList:=by simp
  have:listed[i]≠false:=λe=>this (e▸hm)
  simp only[Gr,Gf Ab,Gn]at hS;exact absurd hS this
 |succ fuel ih=>
  intro t listed hs hc;simp only[Region.linearise.go];generalize CS:(Gj ops.size).filter (λi=>!listed.getD i true && ((ops[i]?).map (·.after.all λe=>!Region.binds .any e || listed.getD e.on false)).getD false)=rs;have AB:∀i,i∈rs↔i<ops.size/\listed.getD i false=false/\∀e∈(ops.toList.map JaW).getD i [],listed.getD e false=true:=by
   intro i;rw[<-CS,G9,Gy]
   constructor
   ·rintro⟨h1,h2⟩;simp only[Ga,GY]at h2;have ho:ops[i]? = some ops[i]:=Gf h1;have hl:listed[i]? = some (listed[i]'(by omega)):=Gf (by omega);refine⟨h1,?_,?_⟩
    ·have:=h2.1;simp only[Gr,hl,Gn]at this|-;exact this
    ·rw[edges_get ho];have:=h2.2;simp only[ho,G6,Gn]at this;exact Jec.1 this
   ·rintro⟨h1,h2,h3⟩;have ho:ops[i]? = some ops[i]:=Gf h1;have hl:listed[i]? = some (listed[i]'(by omega)):=Gf (by omega);refine⟨h1,?_⟩;simp only[Ga,GY];refine⟨?_,?_⟩
    ·simp only[Gr,hl,Gn]at h2|-;exact h2
    ·simp only[ho,G6,Gn];rw[edges_get ho]at h3;exact Jec.2 h3
  cases hi:rs[t % rs.length]? with
  |none=>
   have AY:rs=[]:=by
    cases hr:rs with
    |nil=>rfl
    |cons x xs=>
     rw[hr]at hi;have Ab:t % (x::xs).length<(x::xs).length:=Nat.mod_lt _ (by simp);rw[Gb Ab]at hi
     cases hi
   simp only[HZ];refine .nil λi hi hS=>?_
   refine Lc λhn=>?_
   have:i∈rs:=(AB i).2 ⟨hi,hS,λe he=>by
    cases h:listed.getD e false with
    |true=>rfl
    |false=>exact absurd ⟨e,he,h⟩ hn⟩
   rw[AY]at this;cases this
  |some i=>
   simp only;rw[linearise_go_acc,List.reverse_singleton,List.singleton_append];obtain⟨h1,h2,h3⟩:=(AB i).1 (Gl hi);refine .cons h1 h2 h3 ?_;have Ab:i<listed.size:=by omega
   have:=ih (t / rs.length) (listed.setIfInBounds i true) (by simpa using hs) (by
    have CZ:=List.count_set (a:=true) (b:=false) (l:=listed.toList) (i:=i) (by simpa using Ab);simp only[Lb,CZ];have:listed.toList[i]'(by simpa using Ab)=false:=by
     simp only[Gr,Gf Ab,Gn]at h2;simpa using h2
    have e1:(listed.toList[i]'(by simpa using Ab) == false)=true:=by rw[this];rfl
    have e2:(true == false)=false:=rfl;have e3:listed.toList.count false<=fuel+1:=hc;rw[if_pos e1,e2];simp only[GX,if_false];omega)
   rwa [listed_set Ab]at this
def tst (l:List IOper)(v:Nat->CV)(T:List CV):Nat->List CV
 |0=>T
 |j+1=>put (tst l v T j) (Q3 l j).dst (v j)
def ordered (l:List IOper)(es:List (List Nat)):Bool:=
 (Gj l.length).all λj=>(es.getD j []).all (λe=>e<j) && (Gj l.length).all λi=>i == j || match (Q3 l i).dst with
  |none=>true
  |some s=>!((Q3 l j).dst == some s) && (!((Q3 l j).rd.contains s) || (es.getD j []).contains i || (es.getD i []).contains j)
structure Ordered (l:List IOper)(es:List (List Nat)):Prop where
 lt:∀j,j<l.length->∀e∈es.getD j [],e<j
 uniq:∀i j s,i<l.length->j<l.length->(Q3 l i).dst=some s->(Q3 l j).dst=some s->i=j
 ord:∀i j s,i<l.length->j<l.length->i≠j->(Q3 l i).dst=some s->s∈(Q3 l j).rd->i∈es.getD j []\/j∈es.getD i []
theorem Jb7 {l:List IOper}{es:List (List Nat)}(h:ordered l es=true):Ordered l es:=by
 simp only[ordered,GH,Gy,Ga,decide_eq_true_eq]at h;refine⟨λj hj=>(h j hj).1,λi j s hi hj h1 h2=>?_,λi j s hi hj Ah h1 h2=>?_⟩
 ·have:=(h j hj).2 i hi;rw[h1]at this;by_cases he:i=j
  ·exact he
  ·simp[he,h2]at this
 ·have:=(h j hj).2 i hi;rw[h1]at this;simp only[GA,beq_iff_eq,Ah,false_or,Ga,GN,GY]at this;rcases this.2 with (h3|h3)|h3
  ·have:=GN.2 h2;rw[this]at h3;cases h3
  ·exact .inl h3
  ·exact .inr h3
theorem Jfs {T:List CV}{d:Option Nat}{v:CV}:(put T d v).length=T.length:=by cases d <;> simp[put]
theorem YP {l:List IOper}{v:Nat->CV}{T:List CV}:∀j,(tst l v T j).length=T.length
 |0=>rfl
 |j+1=>by rw[tst,Jfs,YP j]
theorem JdE {T:List CV}{d:Option Nat}{v:CV}{s:Nat}:(put T d v).getD s .un=if d=some s/\s<T.length then v else T.getD s .un:=by
 cases d with
 |none=>simp[put]
 |some d=>
  simp only[put,Gc,Gv,GV];by_cases h:d=s
  ·subst h;by_cases hl:d<T.length <;> simp[hl]
  ·simp[h]
theorem JaC {l:List IOper}{v:Nat->CV}{T:List CV}{s:Nat}:∀j,(∀i,i<j->(Q3 l i).dst≠some s)->(tst l v T j).getD s .un=T.getD s .un
 |0,_=>rfl
 |j+1,h=>by
  rw[tst,JdE,if_neg (λhh=>h j (GM j) hh.1)];exact JaC j λi hi=>h i (Hm hi)
theorem tst_at {l:List IOper}{v:Nat->CV}{T:List CV}{s i:Nat}(hd:(Q3 l i).dst=some s)(hs:s<T.length):∀j,i<j->(∀i',i' < j->(Q3 l i').dst=some s->i'=i)->(tst l v T j).getD s .un=v i
 |0,h,_=>by omega
 |j+1,h,hu=>by
  rw[tst,JdE,YP];by_cases hj:(Q3 l j).dst=some s
  ·have:=hu j (GM j) hj;subst this;rw[if_pos ⟨hj,hs⟩]
  ·rw[if_neg (λhh=>hj hh.1)];have:i≠j:=λe=>hj (e▸hd)
   exact tst_at hd hs j (by omega) λi' CY=>hu i' (Hm CY)
structure At (l:List IOper)(v:Nat->CV)(T:List CV)(S:Nat->Bool)(T':List CV):Prop where
 len:T'.length=T.length
 out:∀s,(∀i,i<l.length->S i=true->(Q3 l i).dst≠some s)->T'.getD s .un=T.getD s .un
 inn:∀i s,i<l.length->S i=true->(Q3 l i).dst=some s->s<T.length->T'.getD s .un=v i
section
variable {P:Program}{E:Env}{n0:Nat}{N:Fr}{Q:Exit->List CV->List CObj->Prop}{H:List CObj}{T T':List CV}{k:List KItem}{l:List IOper}{es:List (List Nat)}{v:Nat->CV}
theorem At.agree (ho:Ordered l es){S:Nat->Bool}(hA:At l v T S T')(Aq:∀i,i<l.length->S i=true->∀e∈es.getD i [],S e=true){j:Nat}(hj:j<l.length)(hS:S j=false)(hr:∀e∈es.getD j [],S e=true):agree (Q3 l j).rd (tst l v T j) T':=by
 intro s hs;by_cases Ab:s<T.length
 ·by_cases ES:∃i,i<l.length/\(Q3 l i).dst=some s
  ·obtain⟨i,hi,hd⟩:=ES;have hu:∀i',i' < l.length->(Q3 l i').dst=some s->i'=i:=λi' CY Dm=>ho.uniq i' i s CY hi Dm hd
   rcases Nat.lt_trichotomy i j with h|h|h
   ·have AU:i∈es.getD j []:=by
     rcases ho.ord i j s hi hj (by omega) hd hs with h1|h1
     ·exact h1
     ·have:=ho.lt i hi j h1;omega
    rw[hA.inn i s hi (hr i AU) hd Ab];exact tst_at hd Ab j h λi' CY Dm=>hu i' (by omega) Dm
   ·subst h;rw[hA.out s λi' CY Uh Dm=>by have:=hu i' CY Dm;subst this;rw[hS]at Uh;cases Uh];exact JaC i λi' CY Dm=>by have:=hu i' (by omega) Dm;omega
   ·have AU:j∈es.getD i []:=by
     rcases ho.ord i j s hi hj (by omega) hd hs with h1|h1
     ·have:=ho.lt j hj i h1;omega
     ·exact h1
    rw[hA.out s λi' CY Uh Dm=>by
     have:=hu i' CY Dm;subst this;have:=Aq i' CY Uh j AU;rw[hS]at this;cases this]
    exact JaC j λi' CY Dm=>by have:=hu i' (by omega) Dm;omega
  ·rw[hA.out s λi hi _ hd=>ES ⟨i,hi,hd⟩];exact JaC j λi hi hd=>ES ⟨i,by omega,hd⟩
 ·have e1:(tst l v T j).getD s .un=.un:=by
   rw[Gc,Gh (by rw[YP];omega)];rfl
  have e2:T'.getD s .un=.un:=by
   rw[Gc,Gh (by rw[hA.len];omega)];rfl
  rw[e1,e2]
theorem At.step (ho:Ordered l es){S:Nat->Bool}(hA:At l v T S T'){j:Nat}(hj:j<l.length)(hS:S j=false):At l v T (λi=>S i || i == j) (put T' (Q3 l j).dst (v j)):=by
 refine⟨by rw[Jfs,hA.len],λs hs=>?_,λi s hi Ey hd Ab=>?_⟩
 ·rw[JdE,if_neg (λhh=>hs j hj (by simp) hh.1)];exact hA.out s λi hi Ey=>hs i hi (by simp[Ey])
 ·rw[JdE,hA.len];by_cases Cv:i=j
  ·subst Cv;rw[if_pos ⟨hd,Ab⟩]
  ·rw[if_neg λhh=>Cv (ho.uniq i j s hi hj hd hh.1)];have:S i=true:=by simpa [Cv]using Ey
   exact hA.inn i s hi this hd Ab
theorem At.all (ho:Ordered l es){S:Nat->Bool}(hA:At l v T S T')(hS:∀i,i<l.length->S i=true):T'=tst l v T l.length:=by
 apply GG;intro s;by_cases Ab:s<T.length
 ·have key:T'.getD s .un=(tst l v T l.length).getD s .un:=by
   by_cases ES:∃i,i<l.length/\(Q3 l i).dst=some s
   ·obtain⟨i,hi,hd⟩:=ES;rw[hA.inn i s hi (hS i hi) hd Ab];exact(tst_at hd Ab _ hi λi' CY Dm=>ho.uniq i' i s CY hi Dm hd).symm
   ·rw[hA.out s λi hi _ hd=>ES ⟨i,hi,hd⟩];exact(JaC _ λi hi hd=>ES ⟨i,hi,hd⟩).symm
  have h1:s<T'.length:=by rw[hA.len];exact Ab
  have h2:s<(tst l v T l.length).length:=by rw[YP];exact Ab
  rw[Gb h1,Gb h2];simpa [Gc,Gb h1,Gb h2]using key
 ·rw[Gh (by rw[hA.len];omega),Gh (by rw[YP];omega)]
theorem any_order (ho:Ordered l es)(hv:∀j,j<l.length->Val P E (Q3 l j) (tst l v T j) H (v j))(AL:Ok P E n0 N Q k (tst l v T l.length) H){S:Nat->Bool}{is:List Nat}(h:Sched l.length es S is) :
  ∀T',(∀i,i<l.length->S i=true->∀e∈es.getD i [],S e=true)->At l v T S T'->Ok P E n0 N Q (.ops (is.map (Q3 l))::k) T' H:=by
 induction h with
 |nil hn=>
  rename_i S;intro T' Aq hA;have Aj:∀i,i<l.length->S i=true:=by
   intro i
   induction i using GZ with
   |_ i ih=>
    intro hi
    cases hS:S i with
    |true=>rfl
    |false=>
     obtain⟨e,he,M8⟩:=hn i hi hS;have Ab:=ho.lt i hi e he;have:=ih e Ab (by omega);rw[this]at M8;cases M8
  rw[hA.all ho Aj];exact Jbg AL
 |cons hi hS hr _ ih=>
  rename_i S i is Cu;intro T' Aq hA;refine Val.ok ((hv i hi).congr (hA.agree ho Aq hi hS hr)) (ih _ (λj hj av e he=>?_) (hA.step ho hi hS));simp only[GA,beq_iff_eq]at av|-;rcases av with h|h
  ·exact .inl (Aq j hj h e he)
  ·subst h;exact .inl (hr e he)
theorem ok_dreg (hm:P.follows .mixedOrders=true)(AO:ordered l es=true)(hv:∀j,j<l.length->Val P E (Q3 l j) (tst l v T j) H (v j))(AL:Ok P E n0 N Q k (tst l v T l.length) H):Ok P E n0 N Q (.code (.dreg l es)::k) T H:=by
 intro m w a b cs kr rest hp hd hk;simp only[Yt]at hk;obtain⟨c',kr',rfl,hc,AA⟩:=hk;obtain⟨id,ops,rfl,h1,rfl⟩:=JgH hc;obtain⟨hl,hg⟩:=XE _ _ h1;have Cz:ops.size=l.length:=by simpa using hl.symm
 have Bn:=Jgi ops ops.size (w.tape w.drawn (.order b.fn id)) (Gm ops.size false) (by simp) (by simp);have Al:=stepR_region_draw (P:=P) (b:=b) (a:=a) (k:=kr'++rest) (cs:=cs) (w:=w) (ops:=ops) (id:=id);simp only[Region.schedule,hm,GL,if_true,Region.linearise]at Al;generalize Region.linearise.go .any ops ops.size (w.tape w.drawn (.order b.fn id)) (Gm ops.size false) []=is at Bn Al;have FZ:(λi=>(Gm ops.size false).getD i false)=λ_=>false:=by
  funext i
  simp only[Gr,He]
  split <;> rfl
 rw[FZ,Cz]at Bn;have Di:∀i∈is,i<l.length:=by
  clear Al;generalize (λ_=>false:Nat->Bool)=S at Bn
  induction Bn with
  |nil _=>intro i hi;cases hi
  |cons h _ _ _ ih=>
   intro i hi;exact(Gq.1 hi).elim (λh'=>by subst h';exact h) (ih i)
 have Af:=any_order (n0:=n0) (N:=N) (Q:=Q) (k:=k) (Jb7 AO) hv AL Bn T (λ_ _ h=>by cases h) ⟨rfl,λ_ _=>rfl,λ_ _ _ h=>by cases h⟩;have Az:Sim E m H { w with drawn:=w.drawn+1 }:=hp.sim.congr rfl;have hx:Ext n0 m H w m H { w with drawn:=w.drawn+1 }:=Ext.congr rfl ⟨rfl,rfl,rfl⟩;refine Reach.step (.one Al) hx (Af m _ a b cs (.inRegion ops is::kr') rest ⟨Az,hp.tmps,hp.long⟩ (hd.ext hx) ?_);simp only[Yt];refine⟨ops,is,kr',rfl,⟨by simp,λj i hj=>?_⟩,AA⟩;have hi:=Di i (Gl hj);obtain⟨io,h2,h3⟩:=hg i (ops[i]'(by omega)) (by simp);exact⟨ops[i]'(by omega),io,Gf (by omega),by simp[hj,Q3,Gc,h2],h3⟩
end
end
section
def heapy:IOp->Bool
 |.bslice _ _ _ _=>true
 |.box _=>true
 |_=>false
def dexec (op:IOp)(T:List CV)(H:List CObj):Option (Cond×CV×List CObj):=if heapy op then none else exec op T H
section
variable (P:Program)(E:Env)(n0:Nat)(N:Fr)(Q:Exit->List CV->List CObj->Prop)
def vdr (k:List KItem):List IOper->List CV->List CObj->Prop
 |[],T,H=>Kn P E n0 N Q k T H
 |⟨d,op,none⟩::l,T,H=>match dexec op T H with
  |some (c,v,H')=>H'=H/\c.holds/\vdr k l (put T d v) H
  |none=>∃v,Val P E ⟨d,op,none⟩ T H v/\vdr k l (put T d v) H
 |⟨d,op,some (s,want)⟩::l,T,H=>match T.getD s .un with
  |.bool t=>(t=want->match dexec op T H with
   |some (c,v,H')=>H'=H/\c.holds/\vdr k l (put T d v) H
   |none=>∃v,Val P E ⟨d,op,some (s,want)⟩ T H v/\vdr k l (put T d v) H)/\(t=(!want)->vdr k l (put T d (.tup [])) H)
  |.tup []=>vdr k l (put T d (.tup [])) H
  |_=>False
def vdrC (k:List KItem)(io:IOper)(l:List IOper)(T:List CV)(H:List CObj):Prop:=∃v,Val P E io T H v/\vdr P E n0 N Q k l (put T io.dst v) H
def vdrR (r:Option (Cond×CV×List CObj))(d:Option Nat)(op:IOp)(g:Option (Nat×Bool))(k:List KItem)(l:List IOper)(T:List CV)(H:List CObj):Prop:=
 match r with
 |some (c,v,H')=>H'=H/\c.holds/\vdr P E n0 N Q k l (put T d v) H
 |none=>vdrC P E n0 N Q k ⟨d,op,g⟩ l T H
end
section
variable {P:Program}{E:Env}{n0:Nat}{N:Fr}{Q:Exit->List CV->List CObj->Prop}{H H':List CObj}{T:List CV}{k:List KItem}{l:List IOper}{es:List (List Nat)}
theorem vd_nil:vdr P E n0 N Q k [] T H=Kn P E n0 N Q k T H:=propext Gi
theorem vd_op {d:Option Nat}{op:IOp}:vdr P E n0 N Q k (⟨d,op,none⟩::l) T H=vdrR P E n0 N Q (dexec op T H) d op none k l T H:=propext Gi
theorem vd_gop {d:Option Nat}{op:IOp}{s:Nat}{want:Bool}:vdr P E n0 N Q k (⟨d,op,some (s,want)⟩::l) T H=Xq (T.getD s .un) want (vdrR P E n0 N Q (dexec op T H) d op (some (s,want)) k l T H) (vdr P E n0 N Q k l (put T d (.tup [])) H):=propext Gi
theorem vdrR_some {d:Option Nat}{op:IOp}{g:Option (Nat×Bool)}{c:Cond}{v:CV}:vdrR P E n0 N Q (some (c,v,H')) d op g k l T H=(H'=H/\c.holds/\vdr P E n0 N Q k l (put T d v) H):=propext Gi
theorem vdrR_none {d:Option Nat}{op:IOp}{g:Option (Nat×Bool)}:vdrR P E n0 N Q none d op g k l T H=vdrC P E n0 N Q k ⟨d,op,g⟩ l T H:=propext Gi
theorem vdr_look {T':List CV}{H':List CObj}(hT:T=T')(hH:H=H'):vdr P E n0 N Q k l T H=vdr P E n0 N Q k l T' H':=by rw[hT,hH]
theorem vdrR_look {r r':Option (Cond×CV×List CObj)}{d:Option Nat}{op:IOp}{g:Option (Nat×Bool)}(h:r=r'):vdrR P E n0 N Q r d op g k l T H=vdrR P E n0 N Q r' d op g k l T H:=by rw[h]
attribute [congr] vdr_look vdrR_look
theorem vdr_vals:∀(l:List IOper) (T:List CV),vdr P E n0 N Q k l T H->∃v:Nat->CV,(∀j,j<l.length->Val P E (Q3 l j) (tst l v T j) H (v j))/\Kn P E n0 N Q k (tst l v T l.length) H
 |[],T,h=>⟨λ_=>.un,by simp,h⟩
 |io::l,T,h=>by
  have ES:∃v0,Val P E io T H v0/\vdr P E n0 N Q k l (put T io.dst v0) H:=by
   obtain⟨d,op,g⟩:=io;have cs:∀g,GOk T g->vdrR P E n0 N Q (dexec op T H) d op g k l T H->∃v0,Val P E ⟨d,op,g⟩ T H v0/\vdr P E n0 N Q k l (put T d v0) H:=by
    intro g hg h;unfold vdrR at h
    split at h
    ·rename_i c v H' he;obtain⟨rfl,hc,h⟩:=h;have Ex:exec op T H'=some (c,v,H'):=by
      unfold dexec at he
      split at he
      ·cases he
      ·exact he
     exact⟨v,.inr ⟨hg,.inl ⟨c,Ex,hc⟩⟩,h⟩
    ·exact h
   cases g with
   |none=>rw[vd_op]at h;exact cs none (.inl rfl) h
   |some g=>
    obtain⟨s,want⟩:=g;rw[vd_gop]at h;unfold Xq at h
    split at h
    ·rename_i t ht;by_cases Ev:t=want
     ·exact cs _ (.inr ⟨s,want,rfl,by rw[ht,Ev]⟩) (h.1 Ev)
     ·have e:t = !want:=by cases t <;> cases want <;> simp_all
      exact⟨.tup [],.inl ⟨s,want,rfl,.inl (by rw[ht,e]),rfl⟩,h.2 e⟩
    ·rename_i ht;exact⟨.tup [],.inl ⟨s,want,rfl,.inr ht,rfl⟩,h⟩
    ·exact h.elim
  obtain⟨v0,h1,h2⟩:=ES;obtain⟨v,h3,h4⟩:=vdr_vals l _ h2
  let v':Nat->CV:=λj=>match j with|0=>v0|j+1=>v j
  have key:∀j,tst (io::l) v' T (j+1)=tst l v (put T io.dst v0) j:=by
   intro j
   induction j with
   |zero=>rfl
   |succ j ih=>rw[tst,ih];rfl
  refine⟨v',λj hj=>?_,?_⟩
  ·cases j with
   |zero=>exact h1
   |succ j=>rw[key];exact h3 j (by simpa using hj)
  ·rw[Gx,key];exact h4
theorem JV (hm:P.follows .mixedOrders=true)(AO:ordered l es=true)(h:vdr P E n0 N Q k l T H):Ok P E n0 N Q (.code (.dreg l es)::k) T H:=by
 obtain⟨v,h1,h2⟩:=vdr_vals l T h;exact ok_dreg hm AO h1 (JA _ _ _ h2)
theorem J9 {d:Option Nat}{g:Option (Nat×Bool)}{f:Nat}{as:List IArg}{v:CV}(hg:GOk T g)(Ag:Fn P f (as.map (J7 T)) v)(h:vdr P E n0 N Q k l (put T d v) H):vdrC P E n0 N Q k ⟨d,.call f as,g⟩ l T H:=
 ⟨v,.inr ⟨hg,.inr (.inl ⟨f,as,rfl,Ag E H⟩)⟩,h⟩
end
attribute [go_sem] dexec heapy
attribute [go_sem] vd_nil vd_op vd_gop vdrR_some vdrR_none
end
section
structure Went (bs:Nat->Prop)(imm:Nat->Nat->Option Value)(w:World)(bs':Nat->Prop)(imm':Nat->Nat->Option Value)(w':World):Prop where
 size:w.heap.size<=w'.heap.size
 frame:∀B,B<w.heap.size->¬bs B->w'.heap[B]? = w.heap[B]?
 grow:Kv imm imm'
 newImm:∀B i v,imm' B i=some v->imm B i=some v\/bs B\/w.heap.size<=B
 newBs:∀B,bs' B->bs B\/w.heap.size<=B
 bslt:∀B,bs' B->B<w'.heap.size
 valid:∀B i v,imm' B i=some v->w'.cell? ⟨B,i,none⟩=some v
 one:∀B i v,imm' B i=some v->v.oneCell'=true
 same:w'.os=w.os/\w'.output=w.output/\w'.tape=w.tape
def Je0 (P:Program)(E:Env)(l:Nat)(xs:List (List CV)):Prop:=
 ∀s bs imm w x (vs:Array Value),E.X s true bs imm w->(∀B i v,imm B i=some v->w.cell? ⟨B,i,none⟩=some v)->(∀B i v,imm B i=some v->v.oneCell'=true)->(∀B,bs B->B<w.heap.size)->xs[s]? = some x->JP [] imm x vs.toList->
  ∃fn tmps assign body,(Instr.yield l vs).run P w=.ok (.round l fn tmps assign body) w/\
   RoundIn (WF none) 0 P l fn tmps assign body w λe w'=>∃b bs' imm',e=.returned (.bool b)/\E.X (s+1) b bs' imm' w'/\Went bs imm w bs' imm' w'
section
variable {P:Program}{E:Env}{n0:Nat}{N:Fr}{Q:Exit->List CV->List CObj->Prop}{H:List CObj}{T:List CV}{k:List KItem}{b:Frame}{cs:List Frame}{m:Bk}{w:World}
theorem Sim.went {bs':Nat->Prop}{imm':Nat->Nat->Option Value}{w':World}{i s s':Nat}{c c':Bool}(hs:Sim E m H w)(hH:H[i]? = some (.ext s c))(hu:∀k s b,H[k]? = some (.ext s b)->k=i)(hx:E.X s' c' bs' imm' w')(hw:Went m.ext m.imm w bs' imm' w') :
  Sim E { own:=m.own,imm:=imm',ext:=bs' } (H.set i (.ext s' c')) w'/\Ext n0 m H w { own:=m.own,imm:=imm',ext:=bs' } (H.set i (.ext s' c')) w':=by
 have Ab:i<H.length:=(Gg.1 hH).1;have key:∀(k:Nat) o,(H.set i (.ext s' c'))[k]? = some o->(k=i/\o=.ext s' c')\/(k≠i/\H[k]? = some o):=by
  intro k o hk;rw[Gv]at hk
  split at hk
  ·rename_i e;subst e;simp[]at hk;exact .inl ⟨rfl,hk.symm⟩
  ·rename_i e;exact .inr ⟨λh=>e h.symm,hk⟩
 have alive:∀(k:Nat) o,(H.set i (.ext s' c'))[k]? = some o->o.alive=true->H[k]? = some o:=by
  intro k o hk ha;rcases key k o hk with ⟨_,rfl⟩|⟨_,h⟩
  ·cases ha
  ·exact h
 have notbs:∀(k:Nat) o x,H[k]? = some o->o.alive=true->m.own[k]? = some x->¬bs' x.B:=by
  intro k o x hk ha hx hb;rcases hw.newBs _ hb with h|h
  ·exact hs.extsep k o x hk ha hx (.inl h)
  ·have:=X8 hs hk ha hx;omega
 refine⟨⟨by simp[hs.len],λk o x hk hx=>?_,hw.valid,hw.one,λk k' o o' x x' hk AA ha AV hx Ar hB=>hs.sep k k' o o' x x' (alive _ _ hk ha) (alive _ _ AA AV) ha AV hx Ar hB,λk o x hk ha hx j hj=>?_,λk t d hk=>?_,λk o x hk ha hx h=>h.elim (notbs k o x (alive _ _ hk ha) ha hx) (λh=>hs.extsep k o x (alive _ _ hk ha) ha hx (.inr h)),λB hB=>hB.elim (hw.bslt B) (λhB=>Gs (hs.gl.1.lt hB) hw.size),hs.gl.1.mono λB hB=>hw.frame B (hs.gl.1.lt hB) (λh=>hs.gl.2 B h hB),λB hB h=>(hw.newBs B hB).elim (λh1=>hs.gl.2 B h1 h) (λh1=>by have:=hs.gl.1.lt h;omega)⟩,
  ⟨hw.size,λB hB hn=>hw.frame B hB λh=>hn (.inl h),hw.grow,λB ho=>?_,λB j v hv=>?_,λ_ _ _ h=>h,λh=>h,hw.same⟩⟩
 ·rcases key k o hk with ⟨_,rfl⟩|⟨_,h⟩
  ·trivial
  ·by_cases ha:o.alive=true
   ·exact Kw (KL.refl _) hw.grow (λ_=>hw.frame _ (X8 hs h ha hx) (λhb=>hs.extsep k o x h ha hx (.inl hb))) (hs.obj k o x h hx)
   ·cases o <;> simp[CObj.alive]at ha <;> trivial
 ·cases hv:imm' x.B j with
  |none=>exact hv
  |some v=>
   have h:=alive _ _ hk ha;rcases hw.newImm _ _ _ hv with h1|h1|h1
   ·rw[hs.ro k o x h ha hx j hj]at h1;cases h1
   ·exact absurd (.inl h1) (hs.extsep k o x h ha hx)
   ·have:=X8 hs h ha hx;omega
 ·rcases key k _ hk with ⟨_,h⟩|⟨Ah,h⟩
  ·cases h;exact hx
  ·exact absurd (hu _ _ _ h) Ah
 ·rcases ho with h|⟨k,o,x,hk,ha,hx,hB⟩
  ·rcases hw.newBs _ h with h1|h1
   ·exact .inl (.inl h1)
   ·exact .inr h1
  ·exact .inl (.inr ⟨k,o,x,alive _ _ hk ha,ha,hx,hB⟩)
 ·rcases hw.newImm _ _ _ hv with h1|h1|h1
  ·exact .inl h1
  ·exact .inr (.inl (.inl h1))
  ·exact .inr (.inr h1)
theorem step_round {ops:Array Oper}{i:Nat}{is:List Nat}{o:Oper}{a:Act}{kr:List Item}{l fn:Nat}{tmps:Array Value}{assign body:Code}{R:Ending->World->Prop}(ho:ops[i]? = some o)(hw:Region.wanted o (yielded ops a.tmps)=true)(Il:o.semAt b.roundOf a.eval=execOp a.eval o)(Af:(execOp a.eval o).run P w=.ok (.round l fn tmps assign body) w)
  (Ag:RoundIn (WF none) 0 P l fn tmps assign body w R) (hR:∀e w',R e w'->∃r,e=.returned r):∃r w',R (.returned r) w'/\Steps P (lone (b.atR a (.inRegion ops (i::is)::kr)) cs w) (lone (b.atR (a.put o.dst r) (.inRegion ops is::kr)) cs w'):=by
 have hg:=stepGR_op (P:=P) (b:=b) (k:=kr) (cs:=cs) (w:=w) (rest:=is) ho hw;rw[Il]at hg;have AL:∀v,(b.atR a (.inRegion ops (i::is)::kr)).finish v=b.atR (a.put o.dst v) (.inRegion ops is::kr):=by
  intro v;rw[Frame.finish_atR,ho];rfl
 obtain⟨e,w'',Sd,Bf⟩:=Ag.2 (b.atR a (.inRegion ops (i::is)::kr)) cs (Jd7 _ _);have Dl:Go.step P (lone (b.atR a (.inRegion ops (i::is)::kr)) cs w)=.next (lone (Frame.round l fn tmps assign body .normal) (b.atR a (.inRegion ops (i::is)::kr)::cs) w):=
  step_lone_go (by rw[hg];simp[stepG.apply,Af,Frame.atR])
 obtain⟨r,rfl⟩:=hR e w'' Sd;refine⟨r,w'',Sd,.head Dl ?_⟩;rw[<-AL];exact StepsIn.steps Bf
theorem ok_yield {d:Option Nat}{g:Option (Nat×Bool)}{x:IArg}{l i s:Nat}{as:List IArg}{lst:List IOper}{xs:List (List CV)}(hg:GOk T g)(hx:J7 T x=.yld l)(hy:Je0 P E l xs)(hH:H[i]? = some (.ext s true))(hu:∀k s b,H[k]? = some (.ext s b)->k=i)
  (EX:xs[s]? = some (as.map (J7 T))) (Aq:Jp (as.map (J7 T))=true) (h:∀c,Ok P E n0 N Q (.ops lst::k) (put T d (.bool c)) (H.set i (.ext (s+1) c))):Ok P E n0 N Q (.ops (⟨d,.callv x as,g⟩::lst)::k) T H:=by
 intro m w a b cs kr rest hp hd hk;obtain⟨ops,j,is,kr',o,rfl,ho,Fq,AA⟩:=Jbf hk;obtain⟨hw,BX,AX⟩:=Jaw Fq hg hp.tmps;obtain⟨cl,xo,Pe,Cj,Pv,has⟩:=JfH AX;have hr:=JJ (a:=a) hp.tmps Pv;rw[hx]at hr;simp only[rel]at hr;obtain⟨fn,tmps,assign,body,Af,Co⟩:=hy s m.ext m.imm w _ (cl.args.map a.eval) (hp.sim.ext i s true hH) hp.sim.imm hp.sim.one (λB hB=>hp.sim.extlt B (.inl hB)) EX (KM _ _ Aq (by simpa using Jbm hp.tmps has));have PX:(execOp a.eval o).run P w=.ok (.round l fn tmps assign body) w:=by
  simp only[execOp,Pe,resolve,Cj,hr,Deferred.ofValue,Sem.run_bind,Sem.run_pure,Result.andThen_ok,invoke];simpa using Af
 obtain⟨r,w',⟨c,bs',imm',he,hX,MF⟩,Bf⟩:=step_round (b:=b) (cs:=cs) (is:=is) (kr:=kr'++rest) ho hw (semAt_plain AX) PX Co (λe w' ⟨c,_,_,h,_⟩=>⟨_,h⟩)
 cases he
 rw[BX]at Bf;obtain⟨CR,Ae⟩:=Sim.went (n0:=n0) hp.sim hH hu hX MF;refine Reach.step Bf Ae (h c _ w' _ b cs (.inRegion ops is::kr') rest (JcM CR (KJ (KL.refl _) MF.grow _ _ hp.tmps) (by simpa using hp.long) (by simp[rel])) ?_ AA);rw[put_defers];exact hd.ext Ae
end
end
section
def pset:List CV->List Nat->List CV->List CV
 |T,p::ps,c::cs=>pset (T.set p c) ps cs
 |T,[],_=>T
 |T,_,[]=>T
theorem pset_rels {own:List Own}{imm:Nat->Nat->Option Value}:∀(ps:List Nat) (cs:List CV) (vs:List Value) (T:List CV) (tmps:Array Value),JP own imm T tmps.toList->JP own imm cs vs->
  JP own imm (pset T ps cs) ((ps.zip vs).foldl (λ(t:Array Value) (p:Nat×Value)=>t.setIfInBounds p.1 p.2) tmps).toList
 |[],cs,vs,T,tmps,h,_=>by cases cs <;> simpa [pset]using h
 |p::ps,[],vs,T,tmps,h,hc=>by simp only[JP]at hc;subst hc;simpa [pset]using h
 |p::ps,c::cs,vs,T,tmps,h,hc=>by
  simp only[JP]at hc;obtain⟨r,rs,rfl,h1,h2⟩:=hc;simp only[pset,List.zip_cons_cons,List.foldl_cons];refine pset_rels ps cs rs _ _ ?_ h2;rw[Lb];exact rels_set h p h1
section
variable {P:Program}{E:Env}{n0:Nat}{N:Fr}{Q:Exit->List CV->List CObj->Prop}{H:List CObj}{T:List CV}{k:List KItem}{m:Bk}{w:World}
theorem Sim.grow (hs:Sim E m H w){imm':Nat->Nat->Option Value}{w':World}(hf:∀B,owned m H B\/B<gN->w'.heap[B]? = w.heap[B]?)(Bt:w.heap.size<=w'.heap.size)(hi:Kv m.imm imm')(hn:∀B i v,imm' B i=some v->m.imm B i=some v\/¬owned m H B)
  (hv:∀B i v,imm' B i=some v->w'.cell? ⟨B,i,none⟩=some v) (h1:∀B i v,imm' B i=some v->v.oneCell'=true):Sim E { own:=m.own,imm:=imm',ext:=m.ext } H w':=by
 refine⟨hs.len,λk o x hk hx=>?_,hv,h1,hs.sep,λk o x hk ha hx i Dg=>?_,λk s b hk=>?_,hs.extsep,λB hB=>Gs (hs.extlt B hB) Bt,hs.gl.1.mono λB hB=>hf B (.inr hB),hs.gl.2⟩
 ·by_cases ha:o.alive=true
  ·exact Kw (KL.refl _) hi (λ_=>hf _ (.inl (.inr ⟨k,o,x,hk,ha,hx,rfl⟩))) (hs.obj k o x hk hx)
  ·cases o <;> simp[CObj.alive]at ha <;> trivial
 ·cases hv:imm' x.B i with
  |none=>exact hv
  |some v=>
   rcases hn _ _ _ hv with h|h
   ·rw[hs.ro k o x hk ha hx i Dg]at h;cases h
   ·exact absurd (.inr ⟨k,o,x,hk,ha,hx,rfl⟩) h
 ·exact E.stable _ _ _ _ _ _ _ (hs.ext k s b hk) (λB hB=>hf B (hB.imp_left .inl)) Bt hi (λB i v hv=>(hn B i v hv).imp_right λh hb=>h (.inl hb)) hv h1
def OutX (P:Program)(E:Env)(n0:Nat)(N:Fr)(Q:Exit->List CV->List CObj->Prop)(k:List KItem)(T:List CV)(I:Nat->List CObj->Prop)(own0:List Own)(imm0:Nat->Nat->Option Value)(n1 L D:Nat)(rc:LoopState->Option Code->Loop)(s:Nat)(b:Bool)(bs:Nat->Prop)(imm:Nat->Nat->Option Value)(w:World):Prop:=
 ∃(own:List Own) (ex:Nat->Prop) (Hs:List CObj),Sim E ⟨own,imm,ex⟩ Hs w/\(∀B,owned ⟨own,imm,ex⟩ Hs B->bs B)/\bs L/\bs D/\¬owned ⟨own,imm,ex⟩ Hs L/\¬owned ⟨own,imm,ex⟩ Hs D/\w.heap[D]? = some (.deferred (some []))/\
  KL own0 own/\Kv imm0 imm/\n1<=Hs.length/\
  (b=true->I s Hs/\w.heap[L]? = some (.loop (rc .ready none)))/\(b=false->∃c ic,JD P c=some ic/\Ok P E n0 N Q (.code ic::k) T Hs/\w.heap[L]? = some (.loop (rc .done (some c))))
def OutE (P:Program)(E:Env)(n0:Nat)(N:Fr)(Q:Exit->List CV->List CObj->Prop)(k:List KItem)(T:List CV)(I:Nat->List CObj->Prop)(own0:List Own)(imm0:Nat->Nat->Option Value)(n1 L D:Nat)(rc:LoopState->Option Code->Loop):Env where
 X:=OutX P E n0 N Q k T I own0 imm0 n1 L D rc
 stable:=by
  rintro s b bs imm imm' w w' ⟨own,ex,Hs,h1,h2,h3,h4,h5,h6,h7,h8,h9,Ez,Uq,Uo⟩ hf Bt hi hn hv ho;refine⟨own,ex,Hs,h1.grow (λB hB=>hf B (hB.imp_left (h2 B))) Bt hi (λB i v hv=>(hn B i v hv).imp_right λh hb=>h (h2 B hb)) hv ho,h2,h3,h4,h5,h6,(hf D (.inl h4)).trans h7,h8,h9.trans hi,Ez,λhb=>⟨(Uq hb).1,(hf L (.inl h3)).trans (Uq hb).2⟩,λhb=>?_⟩;obtain⟨c,ic,a1,a2,a3⟩:=Uo hb;exact⟨c,ic,a1,a2,(hf L (.inl h3)).trans a3⟩
def Iter (P:Program)(g:Nat)(l1 l2:List CV)(xs:List (List CV)):Prop:=
 ∀E l,Je0 P E l xs->CallsC P E g (l1 ++ .yld l::l2) [.ext 0 true] λ_ H'=>H'[0]? = some (.ext xs.length true)\/∃s,H'[0]? = some (.ext s false)
def asgQ (K:List CV->List CObj->Prop):Exit->List CV->List CObj->Prop
 |.normal,T,H=>K T H
 |_,_,_=>False
def roundQ (P:Program)(E:Env)(n0:Nat)(N:Fr)(Q:Exit->List CV->List CObj->Prop)(k:List KItem)(T:List CV)(I:List CObj->Prop):Exit->List CV->List CObj->Prop
 |.normal,_,H=>I H
 |.ret,_,H=>Ok P E n0 N Q (.code .ret::k) T H
 |.exit id,_,H=>Ok P E n0 N Q (.code (.exit id)::k) T H
 |_,_,_=>False
theorem fenced_eq (ro:Option Nat):(Machine.fenced P (WF none))=Machine.fenced P (WF ro):=by
 funext mm
 exact propext ⟨λ_=>JaU P ro mm,λ_=>JaU P none mm⟩
theorem JfJ (l:Nat):(WF none).inRound l=WF (some l):=rfl
theorem round_ok {ps:List Nat}{x y:ICode}{ca cb:Code}{xs:List (List CV)}{I:Nat->List CObj->Prop}{own0:List Own}{imm0:Nat->Nat->Option Value}{tmps:Array Value}{fn L D:Nat}(ae:JD P ca=some x)(Fs:JD P cb=some y)(Rp:own0.length=H.length)(hT:JP own0 imm0 T tmps.toList)
  (EX:∀c∈xs,c.length=ps.length) (Co:∀s Hs c,I s Hs->xs[s]? = some c->Ok P E H.length ⟨0,true⟩ (asgQ λT2 H2=>Ok P E H.length ⟨0,true⟩ (roundQ P E n0 N Q k T (I (s+1))) [.code y] T2 H2) [.code x] (pset T ps c) Hs) :
  Je0 P (OutE P E n0 N Q k T I own0 imm0 H.length L D λst pe=>{ state:=st,pending:=pe,fn,tmps,params:=ps.toArray,assign:=ca,body:=cb,defers:=D }) L xs:=by
 intro s bs imm w xv vs hX Fx Bh IV hx hr;obtain⟨own,ex,Hs,h1,h2,h3,h4,h5,h6,h7,h8,h9,Ez,Uq,_⟩:=hX;obtain⟨hI,hl⟩:=Uq rfl;have Ij:vs.size=ps.length:=by
  have:=JK hr;rw[EX _ (Gl hx)]at this;simpa using this.symm
 have cO:L≠D:=by intro e;rw[e,h7]at hl;cases hl
 refine⟨fn,_,ca,cb,run_yield hl (by simpa using Ij),roundIn_of_wpIn trivial ?_⟩;intro b2 k2 cs2 eP _ _;have D8:Yt P [.code x] [.code ca]:=by simp only[Yt];exact⟨ca,[],rfl,ae,rfl⟩
 have UZ:Yt P [.code y] [.code cb]:=by simp only[Yt];exact⟨cb,[],rfl,Fs,rfl⟩
 have dR:=pset_rels ps xv vs.toList T tmps (KJ h8 h9 _ _ hT) (KJ (KL.nil _) (Kv.refl _) _ _ hr);obtain⟨e,a1,w1,m1,T1,H1,A7,UK,gI,Ip,R9⟩:=Co s Hs xv hI hx ⟨own,imm,ex⟩ w { tmps:=(ps.toArray.zip vs).foldl (λ(t:Array Value) (p:Nat×Value)=>t.setIfInBounds p.1 p.2) tmps,defers:=[] } b2 cs2 [.code ca] k2
  ⟨h1,by
   have e1:(ps.toArray.zip vs).foldl (λ(t:Array Value) (p:Nat×Value)=>t.setIfInBounds p.1 p.2) tmps=(ps.zip vs.toList).foldl (λ(t:Array Value) (p:Nat×Value)=>t.setIfInBounds p.1 p.2) tmps:=by
    rw[<-Array.foldl_toList];simp
   rw[e1];exact dR,Ez⟩ (Jdv.nil _ _ (λh=>by cases h) _ _ _ (GD _)) D8
 have cu:L<w.heap.size:=IV L h3;have di:D<w.heap.size:=IV D h4
 cases e with
 |normal=>
  simp only[asgQ]at Ip;refine⟨.normal,a1,w1,?_,by rw[JfJ,<-fenced_eq];exact R9⟩;have Fa:w1.heap[L]? = some _:=(A7.frame L cu h5).trans hl;have Z6:w1.heap[D]? = some _:=(A7.frame D di h6).trans h7;have OA:¬owned m1 H1 L:=λh=>(A7.newOwn L h).elim h5 (λh=>by omega)
  have Ro:¬owned m1 H1 D:=λh=>(A7.newOwn D h).elim h6 (λh=>by omega)
  refine⟨_,run_beginRound Fa rfl,?_⟩;intro b3 k3 cs3 eH _ _;have Im:=UK.sim.putDef (ob:=.loop { state:=.busy,pending:=none,fn,tmps,params:=ps.toArray,assign:=ca,body:=cb,defers:=D }) Fa (by intro c e f h;cases h) OA;have RV:Jdv ⟨0,true⟩ b3 m1 H1 (w1.putObj L (.loop { state:=.busy,pending:=none,fn,tmps,params:=ps.toArray,assign:=ca,body:=cb,defers:=D })) a1.defers:=by
   obtain⟨_,_,Ds,e1,e2,e3⟩:=gI;refine⟨λh=>(by cases h),GD _,Ds,e1,e2,λD' Pq=>?_⟩;obtain⟨f1,f2,f3⟩:=e3 D' Pq;have Ah:D'≠L:=by intro e;rw[e,Fa]at f2;cases f2
   exact⟨f1,(World.putObj_heap_other Ah).trans f2,f3⟩
  obtain⟨e2,a2,w3,m2,T2,H2,BK,SL,Z5,Dt,R8⟩:=Ip m1 _ a1 b3 cs3 [.code cb] k3 ⟨Im,UK.tmps,UK.long⟩ RV UZ;refine⟨e2,a2,w3,?_,by rw[JfJ,<-fenced_eq];exact R8⟩;have Sr:L<w1.heap.size:=Gs cu A7.size;have EB:(w1.putObj L (.loop { state:=.busy,pending:=none,fn,tmps,params:=ps.toArray,assign:=ca,body:=cb,defers:=D })).heap.size=w1.heap.size:=World.putObj_size;have Mq:w3.heap[L]? = some (.loop { state:=.busy,pending:=none,fn,tmps,params:=ps.toArray,assign:=ca,body:=cb,defers:=D }):=(BK.frame L (by rw[EB];exact Sr) OA).trans (World.putObj_heap_same Sr);have aH:w3.heap[D]? = some (.deferred (some [])):=(BK.frame D (by rw[EB];exact Gs di A7.size) Ro).trans ((World.putObj_heap_other (Ne.symm cO)).trans Z6);have Rn:¬owned m2 H2 L:=λh=>(BK.newOwn L h).elim OA (λh=>by omega)
  have UT:¬owned m2 H2 D:=λh=>by
   rcases BK.newOwn D h with h|h
   ·exact Ro h
   ·have:=A7.size;omega
  have fin:∀(jump:Option Code),(jump=none->I (s+1) H2)->(∀c,jump=some c->∃ic,JD P c=some ic/\Ok P E n0 N Q (.code ic::k) T H2)->
    ∃v w',(Instr.endRound L jump).run P w3=.ok v w'/\∃b bs' imm',Ending.returned v=.returned (.bool b)/\OutX P E n0 N Q k T I own0 imm0 H.length L D (λst pe=>{ state:=st,pending:=pe,fn,tmps,params:=ps.toArray,assign:=ca,body:=cb,defers:=D }) (s+1) b bs' imm' w'/\Went bs imm w bs' imm' w':=by
   intro jump IG D9;have Pb:=SL.sim.putDef (ob:=.loop { state:=if jump.isNone then .ready else .done,pending:=jump,fn,tmps,params:=ps.toArray,assign:=ca,body:=cb,defers:=D }) Mq (by intro c e f h;cases h) Rn;have Sq:L<w3.heap.size:=(Gz.1 Mq).1;have PL:w.heap.size<=w3.heap.size:=Gt A7.size (by have:=BK.size;omega);refine⟨_,_,run_endRound jump Mq,jump.isNone,λB=>bs B\/owned m2 H2 B,m2.imm,rfl,⟨m2.own,m2.ext,H2,Pb,λB hB=>.inr hB,.inl h3,.inl h4,Rn,UT,(World.putObj_heap_other (Ne.symm cO)).trans aH,λk x hk=>?_,(h9.trans A7.imm).trans BK.imm,SL.long,λhb=>?_,λhb=>?_⟩,⟨?_,λB hB IY=>?_,A7.imm.trans BK.imm,λB i v hv=>?_,λB hB=>?_,λB hB=>?_,Pb.imm,Pb.one,?_⟩⟩
   ·have Ab:k<H.length:=by rw[<-Rp];exact(Gg.1 hk).1
    exact BK.base k x Ab (A7.base k x Ab (h8 k x hk))
   ·have:jump=none:=by cases jump with|none=>rfl|some c=>cases hb
    subst this;exact⟨IG rfl,World.putObj_heap_same Sq⟩
   ·cases jump with
    |none=>cases hb
    |some c=>
     obtain⟨ic,g1,g2⟩:=D9 c rfl;exact⟨c,ic,g1,g2,World.putObj_heap_same Sq⟩
   ·rw[World.putObj_size];exact PL
   ·have dz:B≠L:=λe=>IY (e▸h3)
    have FH:¬owned ⟨own,imm,ex⟩ Hs B:=λh=>IY (h2 B h)
    have UU:¬owned m1 H1 B:=λh=>(A7.newOwn B h).elim FH (λh=>by omega)
    rw[World.putObj_heap_other dz,BK.frame B (by rw[EB];exact Gs hB A7.size) UU,World.putObj_heap_other dz,A7.frame B hB FH]
   ·rcases BK.newImm B i v hv with h|h|h
    ·rcases A7.newImm B i v h with h|h|h
     ·exact .inl h
     ·exact .inr (.inl (h2 B h))
     ·exact .inr (.inr h)
    ·rcases A7.newOwn B h with h|h
     ·exact .inr (.inl (h2 B h))
     ·exact .inr (.inr h)
    ·exact .inr (.inr (by rw[EB]at h;exact Gt A7.size h))
   ·rcases hB with h|h
    ·exact .inl h
    ·rcases BK.newOwn B h with h|h
     ·rcases A7.newOwn B h with h|h
      ·exact .inl (h2 B h)
      ·exact .inr h
     ·exact .inr (by rw[EB]at h;exact Gt A7.size h)
   ·rw[World.putObj_size];rcases hB with h|h
    ·exact Gs (IV B h) PL
    ·exact owned_lt SL.sim h
   ·obtain⟨a1',b1',c1'⟩:=A7.same;obtain⟨a2',b2',c2'⟩:=BK.same;exact⟨a2'.trans a1',b2'.trans b1',c2'.trans c1'⟩
  cases e2 with
  |normal=>exact fin none (λ_=>Dt) (λc h=>by cases h)
  |ret=>exact fin (some .ret) (λh=>by cases h) (λc h=>by cases h;exact⟨.ret,by simp[JD],Dt⟩)
  |exit id=>exact fin (some (.exit id)) (λh=>by cases h) (λc h=>by cases h;exact⟨.exit id,by simp[JD],Dt⟩)
  |goto l=>exact Dt.elim
  |panic ch=>exact Dt.elim
  |outgrown=>exact Dt.elim
 |ret=>exact Ip.elim
 |exit id=>exact Ip.elim
 |goto l=>exact Ip.elim
 |panic ch=>exact Ip.elim
 |outgrown=>exact Ip.elim
end
end
section
section
variable {P:Program}{E:Env}{n0:Nat}{N:Fr}{Q:Exit->List CV->List CObj->Prop}{H:List CObj}{T:List CV}{k:List KItem}
theorem ok_rfunc {f:IArg}{ps:List Nat}{x y:ICode}{g:Nat}{l1 l2:List CV}{xs:List (List CV)}{fn:Func}(I:Nat->List CObj->Prop) (Oo:N.rnd=false) (hf:J7 T f=.fn g l1 l2) (C8:Jp l1=true) (Ca:Jp l2=true) (Bg:P.funcs[g]? = some fn) (DL:fn.body.isSome=true) (EI:fn.name≠ "runtime.NumGoroutine")
  (MW:Iter P g l1 l2 xs) (EX:∀c∈xs,c.length=ps.length) (h0:I 0 H) (Co:∀s Hs c,I s Hs->xs[s]? = some c->Ok P E H.length ⟨0,true⟩ (asgQ λT2 H2=>Ok P E H.length ⟨0,true⟩ (roundQ P E n0 N Q k T (I (s+1))) [.code y] T2 H2) [.code x] (pset T ps c) Hs)
  (BZ:∀H',I xs.length H'->Ok P E n0 N Q k T H'):Ok P E n0 N Q (.code (.rfunc f ps x y)::k) T H:=by
 intro m w a b cs kr rest hp hd hk;simp only[Yt]at hk;obtain⟨c',kr',rfl,hc,AA⟩:=hk;obtain⟨g0,qs,ca,cb,rfl,Fg,EG,ae,Fs⟩:=inv_rfunc hc;have P6:b.roundOf=none:=hd.1 Oo;have hr:=JJ (a:=a) hp.tmps Fg;rw[hf]at hr;simp only[rel]at hr;obtain⟨vs1,vs2,hv,BP,BS⟩:=hr;have P9:qs=ps.toArray:=by rw[<-EG]
 generalize hD:w.heap.size=D at *;generalize DX:(λ(st:LoopState) (pe:Option Code)=>({ state:=st,pending:=pe,fn:=b.fn,tmps:=a.tmps,params:=ps.toArray,assign:=ca,body:=cb,defers:=D }:Loop))=rc;generalize Po:(w.alloc (.deferred (some []))).alloc (.loop (rc .ready none))=W1;have he:(Instr.enterLoop b.fn a.tmps qs ca cb b.roundOf).run P w=.ok (D+1,[{ target:=.collected D,args:=#[] }]) W1:=by
  rw[P6,<-Po,<-DX,P9,<-hD];exact run_enterLoop_outer _ _ _ _ _
 have Fy:W1.heap.size=D+2:=by rw[<-Po];simp[hD]
 have EO:∀B,B<D->W1.heap[B]? = w.heap[B]?:=by
  intro B hB;have e:W1.heap=(w.heap.push (.deferred (some []))).push (.loop (rc .ready none)):=by rw[<-Po];rfl
  rw[e,GU,GU,if_neg (by simp[hD];omega),iN7]
 have dx:W1.heap[D]? = some (.deferred (some [])):=by
  have e:W1.heap=(w.heap.push (.deferred (some []))).push (.loop (rc .ready none)):=by rw[<-Po];rfl
  rw[e,GU,GU,if_neg (by simp[hD]),if_pos hD.symm]
 have cZ:W1.heap[D+1]? = some (.loop (rc .ready none)):=by
  rw[<-Po];have:=World.alloc_heap_new (w.alloc (.deferred (some []))) (.loop (rc .ready none))
  rwa [World.size_alloc,hD]at this
 have Om:W1.os=w.os/\W1.output=w.output/\W1.tape=w.tape:=by rw[<-Po];exact⟨rfl,rfl,rfl⟩
 have CF:∀B,owned m H B->B<D:=λB h=>by rw[<-hD];exact owned_lt hp.sim h
 have A9:∀B,B<gN->B<D:=λB h=>by rw[<-hD];exact hp.sim.gl.1.lt h
 have MX:∀B i v,m.imm B i=some v->W1.cell? ⟨B,i,none⟩=some v:=λB i v hv=>(cell?_congr (EO B (by rw[<-hD];exact JfK hp.sim hv))).trans (hp.sim.imm B i v hv)
 have Ew:Sim E m H W1:=hp.sim.grow (λB h=>EO B (h.elim (CF B) (A9 B))) (by omega) (Kv.refl _) (λB i v h=>.inl h) MX hp.sim.one;have Rp:m.own.length=H.length:=hp.sim.len;have hy:Je0 P (OutE P E n0 N Q k T I m.own m.imm H.length (D+1) D rc) (D+1) xs:=by
  rw[<-DX];exact round_ok ae Fs Rp hp.tmps EX Co
 have Bu:(resolve a.eval (rangeCall g0 (D+1)) 0).run P W1=.ok { target:=.fn (.func g) vs2,args:=vs1 ++ #[.func (.yield (D+1)) #[] #[]] } W1:=by
  simp only[resolve,hv];simp[Deferred.ofValue,Act.eval]
 have Aa:(invoke (.fn (.func g) vs2) (vs1 ++ #[.func (.yield (D+1)) #[] #[]])).run P W1=.ok (.enter g (vs1 ++ #[.func (.yield (D+1)) #[] #[]]++vs2)) W1:=by
  simp only[invoke];exact JaF Bg DL EI
 have Dl:=stepR_rangeFunc (P:=P) (b:=b) (a:=a) (k:=kr'++rest) (cs:=cs) (w:=w) he Bu Aa
 let bs0:Nat->Prop:=λB=>owned m H B\/B=D+1\/B=D
 have gX:OutX P E n0 N Q k T I m.own m.imm H.length (D+1) D rc 0 true bs0 m.imm W1:=
  ⟨m.own,m.ext,H,Ew,λB h=>.inl h,.inr (.inl rfl),.inr (.inr rfl),λh=>by have:=CF _ h;omega,λh=>by have:=CF _ h;omega,dx,KL.refl _,Kv.refl _,Gd _,λ_=>⟨h0,cZ⟩,λh=>by cases h⟩
 have PV:Sim (OutE P E n0 N Q k T I m.own m.imm H.length (D+1) D rc) { own:=[⟨0,0,0,0⟩],imm:=m.imm,ext:=bs0 } [.ext 0 true] W1:=by
  refine⟨rfl,λk o x hk hx=>?_,MX,hp.sim.one,λk k' o o' x x' hk AA ha=>?_,λk o x hk ha=>?_,λk s b hk=>?_,λk o x hk ha=>?_,λB hB=>?_,Ew.gl.1,λB hB h=>?_⟩
  ·cases k with
   |zero=>simp at hk;subst hk;trivial
   |succ k=>simp at hk
  ·cases k with
   |zero=>simp at hk;subst hk;cases ha
   |succ k=>simp at hk
  ·cases k with
   |zero=>simp at hk;subst hk;cases ha
   |succ k=>simp at hk
  ·cases k with
   |zero=>simp at hk;obtain⟨rfl,rfl⟩:=hk;exact gX
   |succ k=>simp at hk
  ·cases k with
   |zero=>simp at hk;subst hk;cases ha
   |succ k=>simp at hk
  ·rcases hB with (h|h|h)|h
   ·have:=CF _ h;omega
   ·omega
   ·omega
   ·have:=A9 _ h;omega
  ·rcases hB with hb|hb|hb
   ·exact owned_gl hp.sim hb h
   ·have:=A9 _ h;omega
   ·have:=A9 _ h;omega
 have BA:JP [⟨0,0,0,0⟩] m.imm (l1 ++ .yld (D+1)::l2) (vs1 ++ #[Value.func (Fn.yield (D+1)) #[] #[]]++vs2).toList:=by
  simp only[Array.toList_append,HY];refine QQ (KM _ _ C8 BP) ?_;simp only[JP,rel,H5,H7];exact⟨_,_,rfl,rfl,KM _ _ Ca BS⟩
 obtain⟨e,w3,fr,⟨r,m',v,H',rfl,Ae,UE,_,hR⟩,Bf,_,EJ⟩:=(MW _ _ hy _ W1 _ PV BA).2 (b.atR { a with defers:=[{ target:=.collected D,args:=#[] }]++a.defers } (.inRangeFunc (D+1)::(kr'++rest))::cs) (Jd7 _ _);have BN:∀B,owned { own:=[⟨0,0,0,0⟩],imm:=m.imm,ext:=bs0 } [.ext 0 true] B->bs0 B:=by
  rintro B (h|⟨k,o,x,hk,ha,_⟩)
  ·exact h
  ·cases k with
   |zero=>simp at hk;subst hk;cases ha
   |succ k=>simp at hk
 have fin:∀(s:Nat) (c:Bool),H'[0]? = some (.ext s c)->(c=true->s=xs.length)->Reach P E n0 N Q b rest cs m H w (lone (b.atR a (.code (.rangeFunc g0 qs ca cb)::(kr'++rest))) cs w):=by
  intro s c Dn CZ;obtain⟨own,ex,Hs,g1,g2,g3,g4,g5,g6,g7,g8,g9,g10,g11,g12⟩:=UE.ext 0 s c Dn;have go:∀(st:LoopState) (pe:Option Code) (kk:List KItem) (krr:List Item),st≠.busy->w3.heap[D+1]? = some (.loop (rc st pe))->Ok P E n0 N Q kk T Hs->Yt P kk krr->krr++rest=(pe.map Item.code).toList++(kr'++rest)->
    Reach P E n0 N Q b rest cs m H w (lone (b.atR a (.code (.rangeFunc g0 qs ca cb)::(kr'++rest))) cs w):=by
   intro st pe kk krr Al hl Ap BD D8;have CS:(rc st pe).state=st:=by rw[<-DX]
   have eG:(rc st pe).pending=pe:=by rw[<-DX]
   have Ei:(Instr.endLoop (D+1)).run P w3=.ok pe (w3.putObj (D+1) (.loop { rc st pe with state:=.exhausted })):=by
    have h:=run_endLoop (P:=P) hl (by rw[CS];exact Al);rw[h];simp only[eG]
   have R5:=stepR_endRangeFunc (P:=P) (b:=b) (a:={ a with defers:=[{ target:=.collected D,args:=#[] }]++a.defers }) (k:=kr'++rest) (cs:=cs) Ei;have Pb:=g1.putDef (ob:=.loop { rc st pe with state:=.exhausted }) hl (by intro c e f h;cases h) g5;have Ij:=Ae.size;have Fp:Ext n0 m H w ⟨own,m'.imm,ex⟩ Hs (w3.putObj (D+1) (.loop { rc st pe with state:=.exhausted })):=by
    refine⟨by rw[World.putObj_size];omega,λB hB IY=>?_,Ae.imm,λB hB=>?_,λB i v hv=>?_,λk x hk hx=>g8 k x hx,λ_=>?_,?_⟩
    ·have iR:B<D:=by omega
     rw[World.putObj_heap_other (by omega),Ae.frame B (by omega) (λh=>
      (BN B h).elim IY (λh=>
      h.elim (λh=>by omega) (λh=>by omega))),EO B iR]
    ·rcases Ae.newOwn B (.inl (g2 B hB)) with h|h
     ·rcases BN B h with h|h|h
      ·exact .inl h
      ·exact .inr (by omega)
      ·exact .inr (by omega)
     ·exact .inr (by omega)
    ·rcases Ae.newImm B i v hv with h|h|h
     ·exact .inl h
     ·rcases BN B h with h|h|h
      ·exact .inr (.inl h)
      ·exact .inr (.inr (by omega))
      ·exact .inr (.inr (by omega))
     ·exact .inr (.inr (by omega))
    ·exact Gt hp.long (Gt g10 (Nat.le_of_eq g1.len.symm))
    ·obtain⟨s1,s2,s3⟩:=Om;obtain⟨t1,t2,t3⟩:=Ae.same;exact⟨t1.trans s1,t2.trans s2,t3.trans s3⟩
   have gZ:JP own m'.imm T a.tmps.toList:=KJ g8 Ae.imm _ _ hp.tmps;have Rw:n0<=Hs.length:=Gt hp.long g10;have gH:Jdv N b ⟨own,m'.imm,ex⟩ Hs (w3.putObj (D+1) (.loop { rc st pe with state:=.exhausted })) ([{ target:=.collected D,args:=#[] }]++a.defers):=by
    obtain⟨q1,q2,Ds,q3,q4,q5⟩:=hd;have Ab:∀D'∈Ds,D' < D:=λD' h=>by rw[<-hD];exact(Gz.1 (q5 D' h).2.1).1
    refine⟨q1,Gt q2 Fp.size,D::Ds,by rw[q3];rfl,List.nodup_cons.2 ⟨λh=>Nat.lt_irrefl _ (Ab D h),q4⟩,λD' Pq=>?_⟩;rcases Gq.1 Pq with rfl|h
    ·exact⟨by omega,(World.putObj_heap_other (by omega)).trans g7,g6⟩
    ·obtain⟨r1,r2,r3⟩:=q5 D' h;have:=Ab D' h;exact⟨r1,(Fp.frame D' (by omega) r3).trans r2,λho=>(Fp.newOwn D' ho).elim r3 (λh=>by omega)⟩
   refine Reach.step (.head Dl (Steps.trans (StepsIn.steps Bf) (.head (step_leave_returned EJ) ?_))) Fp (Ap ⟨own,m'.imm,ex⟩ _ { a with defers:=[{ target:=.collected D,args:=#[] }]++a.defers } b cs krr rest ⟨Pb,gZ,Rw⟩ gH BD);rw[finish_atR_inRangeFunc,D8];exact .one R5
  cases c with
  |true=>
   obtain⟨hI,hl⟩:=g11 rfl;exact go .ready none k kr' (by simp) hl (BZ Hs (CZ rfl▸hI)) AA (by simp)
  |false=>
   obtain⟨c,ic,q1,q2,q3⟩:=g12 rfl;exact go .done (some c) (.code ic::k) (.code c::kr') (by simp) q3 q2 (by simp only[Yt];exact⟨c,kr',rfl,q1,AA⟩) (by simp)
 rcases hR with h|⟨s,h⟩
 ·exact fin _ _ h λ_=>rfl
 ·exact fin _ _ h λh=>by cases h
end
end
section
section
variable {P:Program}{E:Env}{n0:Nat}{N:Fr}{Q:Exit->List CV->List CObj->Prop}{H:List CObj}{T:List CV}{k:List KItem}
theorem vr_yield {d:Option Nat}{g:Option (Nat×Bool)}{x:IArg}{l i s:Nat}{as:List IArg}{lst:List IOper}{xs:List (List CV)}(hg:GOk T g)(hx:J7 T x=.yld l)(hy:Je0 P E l xs)(hH:H[i]? = some (.ext s true))(hu:∀k s b,H[k]? = some (.ext s b)->k=i)
  (EX:xs[s]? = some (as.map (J7 T))) (Aq:Jp (as.map (J7 T))=true) (h:∀c,Kn P E n0 N Q (.ops lst::k) (put T d (.bool c)) (H.set i (.ext (s+1) c))):Ok P E n0 N Q (.ops (⟨d,.callv x as,g⟩::lst)::k) T H:=
 ok_yield hg hx hy hH hu EX Aq λc=>JA _ _ _ (h c)
def JdR (P:Program)(E:Env)(n0:Nat)(N:Fr)(Q:Exit->List CV->List CObj->Prop)(k:List KItem)(T:List CV)(I:List CObj->Prop)(e:Exit)(_:List CV)(H:List CObj):Prop:=
 match e with
 |.normal=>I H
 |.ret=>Q .ret T H
 |.exit id=>JcA P E n0 N Q (X5 id k) id T H
 |_=>False
theorem Je3 {T':List CV}{I:List CObj->Prop}:JdR P E n0 N Q k T I .normal T' H=I H:=rfl
theorem vroundQ_ret {T':List CV}{I:List CObj->Prop}:JdR P E n0 N Q k T I .ret T' H=Q .ret T H:=rfl
theorem vroundQ_exit {T':List CV}{I:List CObj->Prop}{id:Nat}:JdR P E n0 N Q k T I (.exit id) T' H=JcA P E n0 N Q (X5 id k) id T H:=rfl
theorem asgQ_normal {K:List CV->List CObj->Prop}:asgQ K .normal T H=K T H:=rfl
theorem fn_of_row {f:Nat}{args:List CV}{z:Nat}{els:List (List CV)}(h:CallsC P Env.none f args [] λv H'=>(els=[]/\v=.nils)\/∃id,H'[id]? = some (.arr z els)/\∃cap,v=.slc id 0 els.length cap)(ha:Jp args=true)(hc:Jr els=true):Fn P f args (.rslc z els none):=by
 refine JgS ?_ ha rfl;intro m w vs hs hv;refine(h m w vs hs hv).mono ?_;rintro e w' ⟨r,m',v,H',h1,h2,h3,h4,⟨rfl,rfl⟩|⟨id,g1,cap,rfl⟩⟩
 ·exact⟨r,m',_,H',h1,h2,h3,wk.nils _ _ _ h4,rfl⟩
 ·obtain⟨imm',Az,he,hf⟩:=Sim.freeze (n0:=([]:List CObj).length) h3 g1 hc;refine⟨r,_,_,_,h1,h2.trans he,Az,hf _ _ h4,?_⟩;simp[frz]
theorem getElem?_app_len {g l:List CObj}:(g++l)[g.length]? = l[0]?:=by rw[Gp (Gd _)];simp
theorem getElem?_app_add {g l:List CObj}{n:Nat}:(g++l)[g.length+n]? = l[n]?:=by rw[Gp (Ho _ _)];congr 1;omega
theorem set_app_len {g l:List CObj}{x:CObj}:(g++l).set g.length x=g++l.set 0 x:=by rw[Hu _ _ (Gd _)];simp
theorem set_app_add {g l:List CObj}{n:Nat}{x:CObj}:(g++l).set (g.length+n) x=g++l.set n x:=by rw[Hu _ _ (Ho _ _)];congr 2;omega
theorem vr_fv {d:Option Nat}{g:Option (Nat×Bool)}{x:IArg}{f:Nat}{l1 l2:List CV}{as:List IArg}{l:List IOper}{v:CV}{F:IFunc}(hg:GOk T g) (hx:J7 T x=.fn f l1 l2) (hF:Jf P f=some F) (EI:(P.funcs[f]?.map (·.name))≠some "runtime.NumGoroutine")
  (Ag:Fn P f (l1++as.map (J7 T)++l2) v) (h:Kn P E n0 N Q (.ops l::k) (put T d v) H):Ok P E n0 N Q (.ops (⟨d,.callv x as,g⟩::l)::k) T H:=by
 have Bg:∃fn,P.funcs[f]? = some fn/\fn.body.isSome=true:=by
  unfold Jf at hF
  split at hF
  ·rename_i fn Bg
   split at hF
   ·rename_i c hb;exact⟨fn,Bg,by rw[hb];rfl⟩
   ·cases hF
  ·cases hF
 obtain⟨fn,Bg,DL⟩:=Bg;exact JgA hg hx Bg DL (λe=>EI (by rw[Bg,<-e];rfl)) (Ag E H) λv' H' ⟨h1,h2⟩=>by rw[h1,h2];exact JA _ _ _ h
theorem Jd {id z:Nat}{els:List (List CV)}(hH:H[id]? = some (.arr z els))(hc:Jr els=true)(h:Kn P E n0 N Q k (JX id z els T) (Ku id z els H)):Ok P E n0 N Q k T H:=
 ok_freeze hH hc (JA _ _ _ h)
end
attribute [go_sem] getElem?_app_len getElem?_app_add set_app_len set_app_add HY List.length_append Je3 vroundQ_ret vroundQ_exit asgQ_normal pset
end
section
def Jm (id:Nat):List Nat->Nat->Option Nat
 |[],_=>none
 |k::ρ,i=>if k=id then some i else Jm id ρ (i+1)
mutual
def ren (ρ:List Nat):CV->CV
 |.slc j off len cap=>match Jm j ρ 0 with|some j'=>.slc j' off len cap|none=>.un
 |.ptr j i off=>match Jm j ρ 0 with|some j'=>.ptr j' i off|none=>.un
 |.map j=>match Jm j ρ 0 with|some j'=>.map j'|none=>.un
 |.fn f l1 l2=>.fn f (JB ρ l1) (JB ρ l2)
 |.iface t c=>.iface t (ren ρ c)
 |.agg l=>.agg (JB ρ l)
 |.tup l=>.tup (JB ρ l)
 |c=>c
def JB (ρ:List Nat):List CV->List CV
 |[]=>[]
 |c::cs=>ren ρ c::JB ρ cs
end
theorem Jfo {id:Nat}:∀(ρ:List Nat) (i j:Nat),Jm id ρ i=some j->i<=j/\ρ[j-i]? = some id
 |[],_,_,h=>by simp[Jm]at h
 |k::ρ,i,j,h=>by
  simp only[Jm]at h
  split at h
  ·rename_i hk
   cases h;simp[hk]
  ·obtain⟨h1,h2⟩:=Jfo ρ (i+1) j h;refine⟨by omega,?_⟩;rw[show j-i=(j-(i+1))+1 by omega];simpa using h2
theorem Jbe {id j:Nat}{ρ:List Nat}(h:Jm id ρ 0=some j):ρ[j]? = some id:=by
 simpa using (Jfo ρ 0 j h).2
mutual
theorem Jgq {own own':List Own}{imm:Nat->Nat->Option Value}{ρ:List Nat}(ho:∀(j:Nat) id,ρ[j]? = some id->own'[j]? = own[id]?):∀(c:CV) (v:Value),rel own imm c v->rel own' imm (ren ρ c) v
 |.un,_,_=>by simp only[ren,rel]
 |.bool _,_,h=>by simp only[ren,rel]at h|-;exact h
 |.int _ _,_,h=>by simp only[ren,rel]at h|-;exact h
 |.str _,_,h=>by simp only[ren,rel]at h|-;exact h
 |.nilp,_,h=>by simp only[ren,rel]at h|-;exact h
 |.ptr j i off,v,h=>by
  simp only[ren]
  split
  ·rename_i j' hj;simp only[rel]at h|-;obtain⟨x,hx,e⟩:=h;exact⟨x,(ho j' j (Jbe hj)).trans hx,e⟩
  ·simp only[rel]
 |.rptr cs,v,h=>by simp only[ren,rel]at h|-;exact h
 |.nils,_,h=>by simp only[ren,rel]at h|-;exact h
 |.slc j off len cap,v,h=>by
  simp only[ren]
  split
  ·rename_i j' hj;simp only[rel]at h|-;obtain⟨x,a,c,hx,e⟩:=h;exact⟨x,a,c,(ho j' j (Jbe hj)).trans hx,e⟩
  ·simp only[rel]
 |.rslc z' e cap,v,h=>by simp only[ren,rel]at h|-;exact h
 |.nilm,_,h=>by simp only[ren,rel]at h|-;exact h
 |.map j,v,h=>by
  simp only[ren]
  split
  ·rename_i j' hj;simp only[rel]at h|-;obtain⟨x,hx,e⟩:=h;exact⟨x,(ho j' j (Jbe hj)).trans hx,e⟩
  ·simp only[rel]
 |.fn f l1 l2,_,h=>by
  simp only[ren,rel]at h|-;obtain⟨vs1,vs2,e,h1,h2⟩:=h;exact⟨vs1,vs2,e,Y6 ho l1 _ h1,Y6 ho l2 _ h2⟩
 |.yld _,_,h=>by simp only[ren,rel]at h|-;exact h
 |.nilf,_,h=>by simp only[ren,rel]at h|-;exact h
 |.iface _ c,_,h=>by
  simp only[ren,rel]at h|-;obtain⟨r,e,h1⟩:=h;exact⟨r,e,Jgq ho c _ h1⟩
 |.nili,_,h=>by simp only[ren,rel]at h|-;exact h
 |.agg l,_,h=>by
  simp only[ren,rel]at h|-;obtain⟨vs,e,h1⟩:=h;exact⟨vs,e,Y6 ho l _ h1⟩
 |.tup l,_,h=>by
  simp only[ren,rel]at h|-;obtain⟨vs,e,h1⟩:=h;exact⟨vs,e,Y6 ho l _ h1⟩
theorem Y6 {own own':List Own}{imm:Nat->Nat->Option Value}{ρ:List Nat}(ho:∀(j:Nat) id,ρ[j]? = some id->own'[j]? = own[id]?):∀(l:List CV) (vs:List Value),JP own imm l vs->JP own' imm (JB ρ l) vs
 |[],vs,h=>by simp only[JB,JP]at h|-;exact h
 |c::cs,vs,h=>by
  simp only[JB,JP]at h|-;obtain⟨r,rs,e,h1,h2⟩:=h;exact⟨r,rs,e,Jgq ho c _ h1,Y6 ho cs _ h2⟩
end
def Xv (ρ:List Nat):CObj->CObj
 |.arr z e=>.arr z (e.map (JB ρ))
 |.map kvs=>.map (kvs.map λp=>(ren ρ p.1,ren ρ p.2))
 |o=>o
def Kl (ρ:List Nat)(H:List CObj):List CObj:=ρ.map λid=>Xv ρ (H.getD id .dead)
structure RenOk (ρ:List Nat)(n0:Nat)(H:List CObj):Prop where
 nodup:ρ.Nodup
 lt:∀id∈ρ,id<H.length
 base:∀k,k<n0->ρ[k]? = some k
theorem Jd8 {ρ:List Nat}:∀(l:List CV),(JB ρ l).length=l.length
 |[]=>rfl
 |_::cs=>by simp[JB,Jd8 cs]
theorem renL_get {ρ:List Nat}:∀(l:List CV) (i:Nat),(JB ρ l)[i]? = (l[i]?).map (ren ρ)
 |[],_=>by simp[JB]
 |c::cs,0=>by simp[JB]
 |c::cs,i+1=>by simp[JB,renL_get cs i]
theorem Xl {ρ:List Nat}(o:CObj):(Xv ρ o).alive=o.alive:=by cases o <;> rfl
theorem JdC {ρ:List Nat}{H:List CObj}{k:Nat}{o:CObj}(hl:∀id∈ρ,id<H.length)(h:(Kl ρ H)[k]? = some o):∃id o0,ρ[k]? = some id/\H[id]? = some o0/\o=Xv ρ o0:=by
 simp only[Kl,Gw]at h
 cases hk:ρ[k]? with
 |none=>simp[hk]at h
 |some id=>
  have Ab:=hl id (Gl hk);simp[hk,Gc,Gb Ab]at h;exact⟨id,H[id],rfl,Gb Ab,h.symm⟩
theorem relO_ren {own own':List Own}{imm:Nat->Nat->Option Value}{ρ:List Nat}{zz o:Nat}{es:List (List CV)}{R:Nat->Option Value}(hf:∀c v,rel own imm c v->rel own' imm (ren ρ c) v)(h:relO own imm zz es R o):relO own' imm zz (es.map (JB ρ)) R o:=by
 intro j e he;rw[Gw]at he
 cases IQ:es[j]? with
 |none=>simp[IQ]at he
 |some e0=>
  simp[IQ]at he;subst he;obtain⟨h1,h2⟩:=h j e0 IQ;refine⟨by rw[Jd8];exact h1,λt c hc=>?_⟩;rw[renL_get]at hc
  cases ht:e0[t]? with
  |none=>simp[ht]at hc
  |some c0=>
   simp[ht]at hc;subst hc;obtain⟨r,h3,h4⟩:=h2 t c0 ht;exact⟨r,h3,hf _ _ h4⟩
section
variable {E:Env}{n0:Nat}{m:Bk}{H:List CObj}{w:World}
theorem Sim.ren {ρ:List Nat}(hs:Sim E m H w)(hr:RenOk ρ n0 H)(hn:n0<=H.length) :
  ∃own',Sim E { m with own:=own' } (Kl ρ H) w/\Ext n0 m H w { m with own:=own' } (Kl ρ H) w/\(∀c v,rel m.own m.imm c v->rel own' m.imm (ren ρ c) v)/\∀l vs,JP m.own m.imm l vs->JP own' m.imm (JB ρ l) vs:=by
 let own':List Own:=ρ.map λid=>m.own.getD id ⟨0,0,0,0⟩
 have ho:∀(j:Nat) id,ρ[j]? = some id->own'[j]? = m.own[id]?:=by
  intro j id hj;have Ab:id<m.own.length:=by rw[hs.len];exact hr.lt id (Gl hj)
  simp[own',hj,Gc,Gb Ab]
 have hf:∀c v,rel m.own m.imm c v->rel own' m.imm (Go.Cm.ren ρ c) v:=Jgq ho;have key:∀(k:Nat) o x,(Kl ρ H)[k]? = some o->own'[k]? = some x->∃id o0,ρ[k]? = some id/\H[id]? = some o0/\o=Xv ρ o0/\m.own[id]? = some x:=by
  intro k o x hk hx;obtain⟨id,o0,h1,h2,h3⟩:=JdC hr.lt hk;exact⟨id,o0,h1,h2,h3,(ho k id h1).symm.trans hx⟩
 refine⟨own',⟨by simp[own',Kl],λk o x hk hx=>?_,hs.imm,hs.one,λk k' o o' x x' hk AA ha AV hx Ar hB=>?_,λk o x hk ha hx=>?_,λk s b hk=>?_,λk o x hk ha hx=>?_,hs.extlt,hs.gl⟩,⟨Gd _,λ_ _ _=>rfl,Kv.refl _,λB hB=>.inl ?_,λB i v hv=>.inl hv,λk x hk hx=>?_,λ_=>?_,rfl,rfl,rfl⟩,hf,Y6 ho⟩
 ·obtain⟨id,o0,h1,h2,rfl,h4⟩:=key k o x hk hx;have:=hs.obj id o0 x h2 h4
  cases o0 with
  |arr z' es=>
   obtain⟨a1,c,el,a2,a3,a4,a5,a6⟩:=this;exact⟨a1,c,el,a2,a3,by simpa using a4,relO_ren hf a5,a6⟩
  |map kvs=>
   obtain⟨es,clock,a1,a2,a3⟩:=this;refine⟨es,clock,a1,by simpa using a2,λi k v e hk he=>?_⟩;rw[Gw]at hk
   cases Ce:kvs[i]? with
   |none=>simp[Ce]at hk
   |some p=>
    simp[Ce]at hk;obtain⟨rfl,rfl⟩:=hk;have:=a3 i p.1 p.2 e Ce he;exact⟨hf _ _ this.1,hf _ _ this.2⟩
  |dead=>trivial
  |ext s b=>trivial
 ·obtain⟨id,o0,h1,h2,rfl,h4⟩:=key k o x hk hx;obtain⟨id',o0',Dx,Fv,rfl,Sw⟩:=key k' o' x' AA Ar;rw[Xl]at ha AV;have:=hs.sep id id' o0 o0' x x' h2 Fv ha AV h4 Sw hB;subst this;exact(List.getElem?_inj (Gg.1 h1).1 hr.nodup).1 (h1.trans Dx.symm)
 ·obtain⟨id,o0,h1,h2,rfl,h4⟩:=key k o x hk hx;rw[Xl]at ha;exact hs.ro id o0 x h2 ha h4
 ·obtain⟨id,o0,h1,h2,h3⟩:=JdC hr.lt hk;have:o0=.ext s b:=by cases o0 <;> simp[Xv]at h3;simp[h3]
  subst this;exact hs.ext id s b h2
 ·obtain⟨id,o0,h1,h2,rfl,h4⟩:=key k o x hk hx;rw[Xl]at ha;exact hs.extsep id o0 x h2 ha h4
 ·rcases hB with h|⟨k,o,x,hk,ha,hx,hB⟩
  ·exact .inl h
  ·obtain⟨id,o0,h1,h2,rfl,h4⟩:=key k o x hk hx;rw[Xl]at ha;exact .inr ⟨id,o0,x,h2,ha,h4,hB⟩
 ·exact(ho k k (hr.base k hk)).trans hx
 ·cases n0 with
  |zero=>exact GD _
  |succ n=>
   have:=(Gg.1 (hr.base n (GM n))).1;simp[own'];omega
end
end
section
def JcJ (ρ:List Nat)(n0 len:Nat):Bool:=decide ρ.Nodup && ρ.all (λid=>decide (id<len)) && (Gj n0).all (λk=>ρ[k]? == some k)
theorem QP {ρ:List Nat}{n0:Nat}{H:List CObj}(h:JcJ ρ n0 H.length=true):RenOk ρ n0 H:=by
 simp only[JcJ,Ga,decide_eq_true_eq,GH,Gy,beq_iff_eq]at h;exact⟨h.1.1,h.1.2,h.2⟩
section
variable {P:Program}{E:Env}{n0:Nat}{N:Fr}{Q:Exit->List CV->List CObj->Prop}{H:List CObj}{T:List CV}{k:List KItem}
theorem Jfv {ρ:List Nat}(hr:RenOk ρ n0 H)(h:Ok P E n0 N Q k (JB ρ T) (Kl ρ H)):Ok P E n0 N Q k T H:=by
 intro m w a b cs kr rest hp hd hk;obtain⟨own',hs,he,_,hT⟩:=Sim.ren (n0:=n0) hp.sim hr hp.long;have Ad:n0<=(Kl ρ H).length:=by
  cases n0 with
  |zero=>exact GD _
  |succ n=>
   have:=(Gg.1 (hr.base n (GM n))).1;simp[Kl];omega
 exact Reach.step (.refl _ _) he (h { m with own:=own' } w a b cs kr rest ⟨hs,hT _ _ hp.tmps,Ad⟩ (hd.ext he) hk)
theorem Jw {x:ICode}{σ:Type}(I:σ->Prop)(inv:σ->List CV)(hp:σ->List CObj)(μ:σ->Nat)(s0:σ)(ρ0:List Nat)(h0:I s0)(P8:JcJ ρ0 n0 H.length=true)(hT:forget (JB ρ0 T) (inv s0))(hH:Kl ρ0 H=hp s0)
  (hb:∀s,I s->Kn P E n0 N (JdS P E n0 N Q k λT' H'=>∃s' ρ,I s'/\μ s' < μ s/\JcJ ρ n0 H'.length=true/\Kl ρ H'=hp s'/\forget (JB ρ T') (inv s')) [.code x] (inv s) (hp s)):Ok P E n0 N Q (.code (.loop x)::k) T H:=by
 refine ok_loop (I:=λs T H=>I s/\∃ρ,RenOk ρ n0 H/\wks (JB ρ T) (inv s)/\Kl ρ H=hp s) μ s0 ⟨h0,ρ0,QP P8,Yg hT,hH⟩ ?_;rintro s T H ⟨hs,ρ,hr,hw,hH⟩;refine Jfv hr (K7 hw ?_);rw[hH];refine(JA _ _ _ (hb s hs)).mono λe T' H' hq=>Jc6 (λT2 H2 h2=>?_) hq
 obtain⟨s',ρ',Az,Ab,h3,h4,hf⟩:=h2;exact⟨s',⟨Az,ρ',QP h3,Yg hf,h4⟩,Ab⟩
end
end
section
def gp:List (Nat×CV)->Nat->List CV
 |[],n=>GI n .un
 |(g,v)::l,n=>GI g .un++v::gp l n
def K6 (id:Nat)(els:List (List CV)):CV:=match els with
 |[]=>.nils
 |_::_=>.slc id 0 els.length none
def QO (z:Nat)(els:List (List CV)):CObj:=match els with
 |[]=>.dead
 |_::_=>.arr z els
theorem Q8 {id:Nat}:K6 id []=.nils:=rfl
theorem Yc {z:Nat}:QO z []=.dead:=rfl
theorem Yi {id:Nat}{e:List CV}{els:List (List CV)}:K6 id (e::els)=.slc id 0 (els.length+1) none:=rfl
theorem JaH {z:Nat}{e:List CV}{els:List (List CV)}:QO z (e::els)=.arr z (e::els):=rfl
theorem XK {id:Nat}{els:List (List CV)}(h:els≠[]):K6 id els=.slc id 0 els.length none:=by cases els <;> simp_all [K6]
theorem Xu {z:Nat}{els:List (List CV)}(h:els≠[]):QO z els=.arr z els:=by cases els <;> simp_all [QO]
theorem Ko {id:Nat}{e:List CV}{l els:List (List CV)}:K6 id (els++e::l)=.slc id 0 (els.length+(l.length+1)) none:=by rw[XK (by simp)];simp
theorem Kq {z:Nat}{e:List CV}{l els:List (List CV)}:QO z (els++e::l)=.arr z (els++e::l):=Xu (by simp)
theorem Jk {ρ:List Nat}{z:Nat}{els:List (List CV)}:Xv ρ (.arr z els)=.arr z (els.map (JB ρ)):=rfl
theorem Jgr {ρ:List Nat}{kvs:List (CV×CV)}:Xv ρ (.map kvs)=.map (kvs.map λp=>(ren ρ p.1,ren ρ p.2)):=rfl
theorem Jj {ρ:List Nat}:Xv ρ .dead=.dead:=rfl
theorem Qg {ρ:List Nat}{z:Nat}{els:List (List CV)}(hc:els.map (JB ρ)=els):Xv ρ (QO z els)=QO z els:=by
 cases els with
 |nil=>rfl
 |cons e l=>simp only[QO,Xv];rw[hc]
mutual
theorem YT {ρ:List Nat}:∀(c:CV),c.closed=true->ren ρ c=c
 |.un,_=>rfl
 |.bool _,_=>rfl
 |.int _ _,_=>rfl
 |.str _,_=>rfl
 |.nilp,_=>rfl
 |.ptr _ _ _,h=>by simp[CV.closed]at h
 |.rptr _,_=>rfl
 |.nils,_=>rfl
 |.slc _ _ _ _,h=>by simp[CV.closed]at h
 |.rslc _ _ _,_=>rfl
 |.nilm,_=>rfl
 |.map _,h=>by simp[CV.closed]at h
 |.fn f l1 l2,h=>by
  simp only[CV.closed,Ga]at h;simp only[ren,Xb l1 h.1,Xb l2 h.2]
 |.yld _,_=>rfl
 |.nilf,_=>rfl
 |.iface t c,h=>by
  simp only[CV.closed]at h;simp only[ren,YT c h]
 |.nili,_=>rfl
 |.agg l,h=>by
  simp only[CV.closed]at h;simp only[ren,Xb l h]
 |.tup l,h=>by
  simp only[CV.closed]at h;simp only[ren,Xb l h]
theorem Xb {ρ:List Nat}:∀(l:List CV),Jp l=true->JB ρ l=l
 |[],_=>rfl
 |c::cs,h=>by
  simp only[Jp,Ga]at h;simp only[JB,YT c h.1,Xb cs h.2]
end
theorem Ja {ρ:List Nat}:∀{els:List (List CV)},Jr els=true->els.map (JB ρ)=els
 |[],_=>rfl
 |e::l,h=>by
  simp only[Jr,Ga]at h;simp only[GK,Xb e h.1,Ja h.2]
section
variable {P:Program}{E:Env}{n0:Nat}{N:Fr}{Q:Exit->List CV->List CObj->Prop}{H:List CObj}{T:List CV}{k:List KItem}{m:Bk}{w:World}
theorem vr_ren (ρ:List Nat)(hr:JcJ ρ n0 H.length=true)(h:Kn P E n0 N Q k (JB ρ T) (Kl ρ H)):Ok P E n0 N Q k T H:=
 Jfv (QP hr) (JA _ _ _ h)
theorem CallsC.ren {f:Nat}{args:List CV}{R R':CV->List CObj->Prop}(h:CallsC P E f args H R)(hR:∀v H',R v H'->∃ρ,JcJ ρ H.length H'.length=true/\R' (ren ρ v) (Kl ρ H')):CallsC P E f args H R':=by
 intro m w vs hs hv;refine(h m w vs hs hv).mono ?_;rintro e w' ⟨r,m',v,H',h1,h2,h3,h4,h5⟩;obtain⟨ρ,g1,g2⟩:=hR _ _ h5;have Ad:H.length<=H'.length:=by have:=h2.long (by rw[hs.len];exact Gd _);rw[h3.len]at this;exact this
 obtain⟨own',Az,he,hf,_⟩:=Sim.ren (n0:=H.length) h3 (QP g1) Ad;exact⟨r,_,_,_,h1,h2.trans he,Az,hf _ _ h4,g2⟩
theorem Sim.pad (hs:Sim E m H w):Sim E { m with own:=m.own++[⟨0,0,0,0⟩] } (H++[.dead]) w/\KL m.own (m.own++[⟨0,0,0,0⟩])/\Ext n0 m H w { m with own:=m.own++[⟨0,0,0,0⟩] } (H++[.dead]) w:=by
 have ho:=KL.append m.own [⟨0,0,0,0⟩];have key:∀(k:Nat) o x,(H++[CObj.dead])[k]? = some o->o≠.dead->(m.own++[⟨0,0,0,0⟩])[k]? = some x->H[k]? = some o/\m.own[k]? = some x:=by
  intro k o x hk hd hx;by_cases Ab:k<H.length
  ·rw[Gu Ab]at hk;rw[Gu (by rw[hs.len];exact Ab)]at hx;exact⟨hk,hx⟩
  ·rw[Gp (by omega)]at hk
   cases hj:k-H.length with
   |zero=>rw[hj]at hk;simp at hk;exact absurd hk.symm hd
   |succ j=>rw[hj]at hk;simp at hk
 have al:∀o:CObj,o.alive=true->o≠.dead:=by rintro o h rfl;simp[CObj.alive]at h
 refine⟨⟨by simp[hs.len],λk o x hk hx=>?_,hs.imm,hs.one,λk k' o o' x x' hk AA ha AV hx Ar hB=>?_,λk o x hk ha hx=>?_,λk s b hk=>?_,λk o x hk ha hx=>?_,hs.extlt,hs.gl⟩,ho,
  ⟨Gd _,λ_ _ _=>rfl,Kv.refl _,λB hB=>.inl ?_,λB i v hv=>.inl hv,λk x _ hx=>ho _ _ hx,λh=>by simp;omega,rfl,rfl,rfl⟩⟩
 ·by_cases hd:o=.dead
  ·subst hd;trivial
  ·obtain⟨h1,h2⟩:=key k o x hk hd hx;exact Kw ho (Kv.refl _) (λ_=>rfl) (hs.obj k o x h1 h2)
 ·obtain⟨h1,h2⟩:=key k o x hk (al o ha) hx;obtain⟨h3,h4⟩:=key k' o' x' AA (al o' AV) Ar;exact hs.sep k k' o o' x x' h1 h3 ha AV h2 h4 hB
 ·obtain⟨h1,h2⟩:=key k o x hk (al o ha) hx;exact hs.ro k o x h1 ha h2
 ·have Ab:k<H.length:=by
   refine Lc λAb=>?_
   rw[Gp (by omega)]at hk
   cases hj:k-H.length with
   |zero=>rw[hj]at hk;simp at hk
   |succ j=>rw[hj]at hk;simp at hk
  rw[Gu Ab]at hk;exact hs.ext k s b hk
 ·obtain⟨h1,h2⟩:=key k o x hk (al o ha) hx;exact hs.extsep k o x h1 ha h2
 ·rcases hB with h|⟨k,o,x,hk,ha,hx,hB⟩
  ·exact .inl h
  ·obtain⟨h1,h2⟩:=key k o x hk (al o ha) hx;exact .inr ⟨k,o,x,h1,ha,h2,hB⟩
theorem XW (h:Kn P E n0 N Q k T (H++[.dead])):Ok P E n0 N Q k T H:=by
 intro m w a b cs kr rest hp hd hk;obtain⟨hs,ho,he⟩:=Sim.pad (n0:=n0) hp.sim;exact Reach.step (.refl _ _) he (JA _ _ _ h _ w a b cs kr rest ⟨hs,KJ ho (Kv.refl _) _ _ hp.tmps,by have:=hp.long;simp;omega⟩ (hd.ext he) hk)
theorem exAppend_row {z bytes id:Nat}{els:List (List CV)}{x:List CV}{xs:List (List CV)}(hH:H[id]? = some (QO z els)) :
  KR z bytes H (K6 id els) (x::xs)=some (Jy (els.length+(xs.length+1)) bytes,.slc H.length 0 (els.length+(xs.length+1)) none,H.set id .dead++[.arr z (els++x::xs)]):=by
 cases els with
 |nil=>
  have Ab:=(Gg.1 hH).1;have:H.set id .dead=H:=by
   refine GG λi=>?_
   rw[Gv]
   split
   ·rename_i h;subst h;rw[hH];simp[QO]
   ·rfl
  simp[KR,K6,this]
 |cons e l=>
  simp only[QO]at hH;simp[KR,K6,hH]
def JbT (els:List (List CV)):Option Nat:=match els with
 |[]=>some 0
 |_::_=>none
def deadE (z:Nat)(els:List (List CV)):CObj:=match els with
 |[]=>.arr z []
 |_::_=>.dead
def condE (els:List (List CV))(n:Nat)(c:Cond):Cond:=match els with
 |[]=>.and (.le 1 (0+n)) c
 |_::_=>c
theorem condE_holds {els:List (List CV)}{n:Nat}{c:Cond}:(condE els (n+1) c).holds=c.holds:=by
 cases els with
 |nil=>simp[condE,Cond.holds]
 |cons e l=>rfl
theorem Jaj {e:List CV}{l els:List (List CV)}:JbT (els++e::l)=none:=by cases els <;> rfl
theorem exAppend_E {z bytes id n:Nat}{els:List (List CV)}{x:List CV}{xs:List (List CV)}(hH:H[id]? = some (.arr z els))(hn:n=els.length) :
  KR z bytes H (.slc id 0 n (JbT els)) (x::xs)=some (condE els (xs.length+1) (Jy (els.length+(xs.length+1)) bytes),.slc H.length 0 (els.length+(xs.length+1)) none,H.set id (deadE z els)++[.arr z (els++x::xs)]):=by
 subst hn
 cases els with
 |nil=>
  have Ab:=(Gg.1 hH).1;have:H.set id (.arr z [])=H:=by
   refine GG λi=>?_
   rw[Gv]
   split
   ·rename_i h;subst h;rw[hH]
   ·rfl
  simp[KR,JbT,deadE,condE,hH,this]
 |cons e l=>simp[KR,JbT,deadE,condE,hH]
mutual
theorem XN {id z:Nat}{els:List (List CV)}:∀(c:CV),c.closed=true->frz id z els c=c
 |.un,_=>rfl
 |.bool _,_=>rfl
 |.int _ _,_=>rfl
 |.str _,_=>rfl
 |.nilp,_=>rfl
 |.ptr _ _ _,h=>by simp[CV.closed]at h
 |.rptr _,_=>rfl
 |.nils,_=>rfl
 |.slc _ _ _ _,h=>by simp[CV.closed]at h
 |.rslc _ _ _,_=>rfl
 |.nilm,_=>rfl
 |.map _,h=>by simp[CV.closed]at h
 |.fn f l1 l2,h=>by
  simp only[CV.closed,Ga]at h;simp only[frz,Qx l1 h.1,Qx l2 h.2]
 |.yld _,_=>rfl
 |.nilf,_=>rfl
 |.iface t c,h=>by
  simp only[CV.closed]at h;simp only[frz,XN c h]
 |.nili,_=>rfl
 |.agg l,h=>by
  simp only[CV.closed]at h;simp only[frz,Qx l h]
 |.tup l,h=>by
  simp only[CV.closed]at h;simp only[frz,Qx l h]
theorem Qx {id z:Nat}{els:List (List CV)}:∀(l:List CV),Jp l=true->JX id z els l=l
 |[],_=>rfl
 |c::cs,h=>by
  simp only[Jp,Ga]at h;simp only[JX,XN c h.1,Qx cs h.2]
end
theorem JfO {f:Nat}{args:List CV}{z:Nat}{els:List (List CV)}(h:CallsC P Env.none f args [] λv H'=>∃id,v=K6 id els/\H'[id]? = some (QO z els))(ha:Jp args=true)(hc:Jr els=true):Fn P f args (.rslc z els none):=by
 refine fn_of_row (h.mono λv H' ⟨id,h1,h2⟩=>?_) ha hc
 cases els with
 |nil=>exact .inl ⟨rfl,h1⟩
 |cons e l=>exact .inr ⟨id,h2,none,h1⟩
theorem JfP {f:Nat}{args:List CV}{z:Nat}{els:List (List CV)}(h:CallsC P Env.none f args [] λv H'=>∃id off len cap es,v=.slc id off len cap/\H'[id]? = some (.arr z es)/\off+len<=es.length/\(es.drop off).take len=els/\Jr es=true)(ha:Jp args=true):Fn P f args (.rslc z els none):=by
 refine JgS ?_ ha rfl;have h2:=h.freeze (R':=λv H'=>v=.rslc z els none) λv H' ⟨id,off,len,cap,es,h1,h2,h5,h4,h3⟩=>⟨id,z,es,h2,h3,by rw[h1];simp[frz,h4,h5]⟩
 exact h2
end
attribute [go_sem high] exAppend_E
attribute [go_sem] condE_holds exAppend_row gp List.length_set
end
section
section
variable {P:Program}{E:Env}{n0:Nat}{N:Fr}{Q:Exit->List CV->List CObj->Prop}{H:List CObj}{T:List CV}{k:List KItem}{m:Bk}{w:World}{a:Act}{o:Oper}
theorem invo_bin {op:Op}{b:BinOp}{tk:TK}{i j:IArg}(h:XG P op=some (.bin b tk i j)):∃t d x y ty,op=.binOp b t x y ty/\P.underlying t=some d/\tk=Xi d/\JE x=some i/\JE y=some j:=by
 unfold XG at h
 split at h
 all_goals (repeat' split at h)
 all_goals first
  |(cases h;done)
  |(obtain⟨_,_,h9⟩:=X6 h;cases h9;done)
  |skip
 cases h
 exact⟨_,_,_,_,_,rfl,‹_›,rfl,‹_›,‹_›⟩
theorem eqnil_good {i:IArg}{z:Nat}(Ac:XG P o.op=some (.bin .eql .slice i (.c .nils)))(hx:J7 T i=.rslc z [] none)(hp:Pre E n0 m H w T a):∃b:Bool,Good P E n0 m H w (execOp a.eval o) (.bool b) H:=by
 obtain⟨t,d,x,y,ty,ho,hd,CE,Dg,dG⟩:=invo_bin Ac;obtain⟨e,rfl⟩:=Xt CE.symm;have h1:=JJ hp.tmps Dg;have h2:=JJ hp.tmps dG;rw[hx]at h1;rw[aget_c]at h2;simp only[rel]at h1 h2;have key:∀u:Value,(∃p,u=.slice p 0 0)\/(∃p q r,u=.slice (some p) q r)->∃b:Bool,∀w,(binOp .eql t u (.slice none 0 0)).run P w=.ok (.bool b) w:=by
  rintro u (⟨p,rfl⟩|⟨p,q,r,rfl⟩)
  ·cases p with
   |none=>
    obtain⟨r,hr,_,_,Af⟩:=eqv (P:=P) (op:=.eql) (t:=t) (b:=true) (v:=.bool true) (c:=.tt) (own:=[]) (imm:=λ_ _=>none) (z:=.slice none 0 0) (z':=.slice none 0 0) (λn w=>by simp only[Op.equalIn,Sem.run_bind,run_underlying hd,Result.andThen_ok];rfl) rfl rfl rfl (by simp) (by simp);simp only[rel]at hr;subst hr;exact⟨true,Af⟩
   |some p=>
    obtain⟨r,hr,_,_,Af⟩:=eqv (P:=P) (op:=.eql) (t:=t) (b:=false) (v:=.bool false) (c:=.tt) (own:=[]) (imm:=λ_ _=>none) (z:=.slice (some p) 0 0) (z':=.slice none 0 0) (λn w=>by simp only[Op.equalIn,Sem.run_bind,run_underlying hd,Result.andThen_ok];rfl) rfl rfl rfl (by simp) (by simp);simp only[rel]at hr;subst hr;exact⟨false,Af⟩
  ·obtain⟨r',hr,_,_,Af⟩:=eqv (P:=P) (op:=.eql) (t:=t) (b:=false) (v:=.bool false) (c:=.tt) (own:=[]) (imm:=λ_ _=>none) (z:=.slice (some p) q r) (z':=.slice none 0 0) (λn w=>by simp only[Op.equalIn,Sem.run_bind,run_underlying hd,Result.andThen_ok];rfl) rfl rfl rfl (by simp) (by simp);simp only[rel]at hr;subst hr;exact⟨false,Af⟩
 have hu:(∃p,a.eval x=.slice p 0 0)\/(∃p q r,a.eval x=.slice (some p) q r):=by
  rcases h1 with ⟨_,_,b,hb⟩|⟨B,o1,c,hb,_⟩
  ·exact .inl ⟨b,hb⟩
  ·exact .inr ⟨_,_,_,hb⟩
 obtain⟨b,Af⟩:=key _ hu;refine⟨b,Jt (r:=.bool b) hp.sim ?_ (by simp only[rel])⟩;have SS:∀cs ds,¬(a.eval x=.agg cs/\a.eval y=.agg ds):=by
  rintro cs ds ⟨_,h⟩;rw[h2]at h;cases h
 have Ox:¬(a.eval x=.nilIface/\a.eval y=.nilIface):=by
  rintro⟨_,h⟩;rw[h2]at h;cases h
 simp only[execOp,ho,Sem.run_bind,Jcm .eql t x y _ _ w SS Ox,Result.andThen_ok,Sem.run_pure];rw[h2,Af w];rfl
theorem ok_eqnil {d:Option Nat}{i:IArg}{z:Nat}{l:List IOper}(hx:J7 T i=.rslc z [] none)(h:∀b,Kn P E n0 N Q (.ops l::k) (put T d (.bool b)) H):Ok P E n0 N Q (.ops (⟨d,.bin .eql .slice i (.c .nils),none⟩::l)::k) T H:=by
 intro m w a b cs kr rest hp hd hk;obtain⟨ops,j,is,kr',o,rfl,ho,Fq,AA⟩:=Jbf hk;obtain⟨hw,BX,AX⟩:=Jaw Fq (.inl rfl) hp.tmps;obtain⟨bb,m',w',r,nx,Af,Cy,Ae,CR,Ao,CF⟩:=eqnil_good AX hx hp;have Al:=JcE (b:=b) (cs:=cs) (is:=is) (kr:=kr'++rest) ho hw (semAt_plain AX) Af Cy;rw[BX]at Al;have Ad:n0<=H.length:=by rw[<-CR.len];exact Ae.long (by rw[hp.sim.len];exact hp.long)
 refine Reach.step (.one Al) Ae ((JA _ _ _ (h bb)) m' w' _ b cs (.inRegion ops is::kr') rest (JcM CR (KJ CF Ae.imm _ _ hp.tmps) Ad Ao) ?_ AA);rw[put_defers];exact hd.ext Ae
end
end
end Go.Cm
end
section
open Go.ChangeShapes Go.WideShapes Go.RowKit
namespace Go.Cm
section
def immW (W:World)(B i:Nat):Option Value:=match W.cell? ⟨B,i,none⟩ with
 |some v=>if v.oneCell'=true then some v else none
 |none=>none
theorem immW_some {W:World}{B i:Nat}{v:Value}(h:immW W B i=some v):W.cell? ⟨B,i,none⟩=some v/\v.oneCell'=true:=by
 unfold immW at h
 split at h
 ·split at h
  ·cases h;exact⟨‹_›,‹_›⟩
  ·cases h
 ·cases h
theorem immW_mk {W:World}{B i:Nat}{v:Value}(h:W.cell? ⟨B,i,none⟩=some v)(h1:v.oneCell'=true):immW W B i=some v:=by
 simp[immW,h,h1]
theorem sim_start (W:World)(hg:GLw W):Sim Env.none { own:=[],imm:=immW W,ext:=λ_=>False } [] W:=
 ⟨rfl,by simp,λB i v h=>(immW_some h).1,λB i v h=>(immW_some h).2,by simp,by simp,by simp,by simp,λB h=>hg.lt (h.resolve_left id),hg,by simp⟩
theorem one_of_rel {own:List Own}{imm:Nat->Nat->Option Value}{c:CV}{v:Value}(h:c.oneCell=true)(hr:rel own imm c v):v.oneCell'=true:=by
 cases c <;> simp[CV.oneCell]at h <;> simp only[rel]at hr
 case bool=>subst hr;rfl
 case int=>subst hr;rfl
 case str=>subst hr;rfl
 case nilp=>subst hr;rfl
 case ptr=>obtain⟨x,_,rfl⟩:=hr;rfl
 case rptr=>obtain⟨B,o,rfl,_⟩:=hr;rfl
 case nils=>subst hr;rfl
 case slc=>obtain⟨x,a,c,_,rfl,_⟩:=hr;rfl
 case rslc=>rcases hr with ⟨_,_,b,rfl⟩|⟨B,o,c,rfl,_⟩ <;> rfl
 case nilm=>subst hr;rfl
 case map=>obtain⟨x,_,rfl⟩:=hr;rfl
 case fn=>obtain⟨a,b,rfl,_⟩:=hr;rfl
 case yld=>subst hr;rfl
 case nilf=>subst hr;rfl
 case iface=>obtain⟨r,rfl,_⟩:=hr;rfl
 case nili=>subst hr;rfl
def JaM (P:Program):Nat->TypeId->Bool
 |0,_=>false
 |d+1,t=>match P.underlying t with
  |some .bool=>true
  |some (.int _)=>true
  |some .string=>true
  |some (.slice e)=>JaM P d e && decide (0<P.cellsOf e)
  |some (.struct fs)=>fs.toList.all λf=>JaM P d f.type
  |_=>false
def fits (P:Program):Nat->TypeId->List CV->Prop
 |0,_,_=>False
 |d+1,t,l=>match P.underlying t with
  |some .bool=>∃b,l=[.bool b]
  |some (.int k)=>∃x,l=[.int k x]/\InR k x
  |some .string=>∃s,l=[.str s]/\s.size<=maxLen
  |some (.slice e)=>∃els,l=[.rslc (P.cellsOf e) els none]/\els.length<=maxLen/\∀x∈els,fits P d e x
  |some (.struct fs)=>∃ls:List (List CV),l=ls.flatten/\ls.length=fs.size/\∀(i:Nat) f li,fs[i]? = some f->ls[i]? = some li->fits P d f.type li
  |_=>False
theorem Jbn:∀{l:List CV},QZ l=true↔∀c∈l,c.oneCell=true
 |[]=>by simp[QZ]
 |c::l=>by simp[QZ,Jbn (l:=l)]
theorem Jdd {own:List Own}{imm:Nat->Nat->Option Value}:∀(sizes:List Nat) (cs:List Value) (ls:List (List CV)),cs.length=sizes.sum->ls.length=sizes.length->
  (∀(j:Nat) n li,sizes[j]? = some n->ls[j]? = some li->JP own imm li ((cs.drop (sizes.take j).sum).take n))->JP own imm ls.flatten cs
 |[],cs,ls,h1,h2,_=>by
  have:ls=[]:=G7 h2;subst this;have:cs=[]:=G7 (by simpa using h1);subst this;simp[JP]
 |n::sizes,cs,[],_,h2,_=>by simp at h2
 |n::sizes,cs,l::ls,h1,h2,h=>by
  simp only[La]at h1;have e:cs=cs.take n++cs.drop n:=(List.take_append_drop n cs).symm;have h3:=h 0 n l rfl rfl;simp only[H8,List.sum_nil,H9]at h3;have ih:=Jdd sizes (cs.drop n) ls (by rw[List.length_drop];omega) (by simpa using h2) (λj m li hj hl=>by
   have:=h (j+1) m li (by simpa using hj) (by simpa using hl);simp only[Hy,La]at this;rw[List.drop_drop];exact this)
  rw[e,List.flatten_cons];exact QQ h3 ih
section
variable {H:Type}{enc:TypeId×Value->H}{P:Program}{W:World}{IR:Bool}
theorem cells?_get {base:Nat}{a:Addr}{n:Nat}{cs:List Value}(h:W.cells? base a n=some cs):cs.length=n/\∀t,t<n->W.cell? (a.add t)=cs[t]?:=by
 unfold World.cells? at h
 split at h
 ·have hl:=mapM_some_length h;refine⟨by simpa using hl,λt ht=>mapM_some_get h t t (by simp[ht])⟩
 ·cases h
theorem JdX {T:TypeId->Prop}(K:Kids P T):∀(d:Nat) (t:TypeId) (cs:List Value) (x:DataW H×List MemPlace) (fuel:Nat),T t->JaM P d t=true->
  DataW.trod enc P W 0 (λ_=>true) IR fuel t cs=some x->∃l,JP [] (immW W) l cs/\QZ l=true/\fits P d t l
 |0,_,_,_,_,_,h,_=>by simp[JaM]at h
 |d+1,t,cs,x,fuel,hT,hp,h=>by
  unfold JaM at hp
  split at hp
  ·rename_i ht;obtain⟨b,rfl,_⟩:=DataW.trod_bool ht h;exact⟨[.bool b],by simp[JP,rel],rfl,by simp[fits,ht]⟩
  ·rename_i k ht;obtain⟨n,rfl,_,hw⟩:=DataW.trod_int ht h;refine⟨[.int k n],by simp[JP,rel],rfl,?_⟩;simp only[fits,ht];refine⟨n,rfl,?_⟩;simp only[Lit.wf,Ga,decide_eq_true_eq]at hw;exact⟨hw.1,hw.2⟩
  ·rename_i ht;obtain⟨s,rfl,_,hs⟩:=DataW.trod_string ht h;exact⟨[.str s],by simp[JP,rel],rfl,by simp[fits,ht];exact hs⟩
  ·rename_i e ht;simp only[Ga,decide_eq_true_eq]at hp;obtain⟨fq,hz⟩:=hp;have gY:=K.slice hT ht;rcases DataW.trod_slice ht h with ⟨rfl,_⟩|⟨a,len,cap,elems,rest,n,rfl,rfl,_,_,CX,Mm,D5,he,hr,_⟩
   ·refine⟨[.rslc (P.cellsOf e) [] none],by simp[JP,rel],rfl,?_⟩;simp only[fits,ht];exact⟨[],rfl,by simp,by simp⟩
   ·have hr:=hr rfl;have key:∀i,i<len->∃li,(∃csi,W.cells? 0 (a.add (i*P.cellsOf e)) (P.cellsOf e)=some csi/\JP [] (immW W) li csi)/\QZ li=true/\fits P d e li:=by
     intro i hi;have h1:=he i hi;rw[Gb (by omega)]at h1;obtain⟨csi,h2,h3⟩:=Hr.1 h1;obtain⟨li,g1,g2,g3⟩:=JdX K d e csi _ n gY fq h3;exact⟨li,⟨csi,h2,g1⟩,g2,g3⟩
    have keyC:∃F:Nat->List CV,∀i,i<len->(∃csi,W.cells? 0 (a.add (i*P.cellsOf e)) (P.cellsOf e)=some csi/\JP [] (immW W) (F i) csi)/\QZ (F i)=true/\fits P d e (F i):=by
     refine⟨λi=>if hi:i<len then Le (key i hi) else [],λi hi=>?_⟩;simp only[dif_pos hi];exact Ld (key i hi)
    obtain⟨F,hF⟩:=keyC;refine⟨[.rslc (P.cellsOf e) ((Gj len).map F) none],?_,rfl,?_⟩
    ·simp only[JP];refine⟨_,_,rfl,?_,rfl⟩;simp only[rel];by_cases Dn:cap=0
     ·subst Dn;have:len=0:=by omega
      subst this;exact .inl ⟨.inl trivial,rfl,_,rfl⟩
     ·have Oq:∃b off,a=⟨b,off,none⟩:=by
       have El:∃v,W.cell? a=some v:=by
        by_cases BI:len=0
        ·subst BI;have h1:=hr.2 0 (by omega);rw[Gb (by omega)]at h1;obtain⟨csi,h2,_⟩:=Hr.1 h1;obtain⟨h3,h4⟩:=cells?_get h2;have h5:=h4 0 hz;rw[Gb (by omega)]at h5;exact⟨_,by simpa [Addr.add]using h5⟩
        ·obtain⟨csi,h2,_⟩:=(hF 0 (by omega)).1;obtain⟨h3,h4⟩:=cells?_get h2;have h5:=h4 0 hz;rw[Gb (by omega)]at h5;exact⟨_,by simpa [Addr.add]using h5⟩
       obtain⟨v,hv⟩:=El;obtain⟨b,off,spot⟩:=a;have PO:spot=none:=World.cell?_spot hv;subst PO;exact⟨b,off,rfl⟩
      obtain⟨b,off,rfl⟩:=Oq;refine .inr ⟨b,off,cap,by simp,by simpa using CX,by simp,?_⟩;rw[Qd];intro j el hj;have A8:j<len:=by have:=(Gg.1 hj).1;simpa using this
      simp[A8]at hj;subst hj;obtain⟨⟨csi,h2,h3⟩,h4,_⟩:=hF j A8;obtain⟨h5,h6⟩:=cells?_get h2;have Ad:=JK h3;refine⟨by rw[Ad,h5],λt c hc=>?_⟩;obtain⟨v,hv,Ao⟩:=XT h3 hc;have Dz:t<P.cellsOf e:=by have:=(Gg.1 hv).1;omega
      have h7:=h6 t Dz;rw[hv]at h7;rw[Go.WideShapes.add_plain,Go.WideShapes.add_plain]at h7;refine⟨v,immW_mk h7 (one_of_rel (Jbn.1 h4 c (Gl hc)) Ao),Ao⟩
    ·simp only[fits,ht];refine⟨_,rfl,by simp;omega,λy hy=>?_⟩;obtain⟨i,hi,rfl⟩:=GQ.1 hy;exact(hF i (Gy.1 hi)).2.2
  ·rename_i fs ht;obtain⟨xs,n,rfl,rfl,Ad,EX,hf⟩:=DataW.trod_struct ht h;obtain⟨BR,Aw,IE⟩:=K.struct hT ht;rw[GH]at hp;have key:∀(i:Nat) f,fs[i]? = some f->∃li,JP [] (immW W) li ((cs.drop f.offset).take (P.cellsOf f.type))/\QZ li=true/\fits P d f.type li:=by
    intro i f hi;have h1:=hf i f hi;have Ab:i<fs.size:=(Gz.1 hi).1;rw[Gb (by omega)]at h1;have hm:f∈fs.toList:=Gl (by rw[GR];exact hi);exact JdX K d f.type _ _ n (BR f hm) (hp f hm) h1
   have keyC:∃F:Nat->List CV,∀(i:Nat) f,fs[i]? = some f->JP [] (immW W) (F i) ((cs.drop f.offset).take (P.cellsOf f.type))/\QZ (F i)=true/\fits P d f.type (F i):=by
    refine⟨λi=>if hi:i<fs.size then Le (key i fs[i] (Gf hi)) else [],λi f hi=>?_⟩;have Ab:i<fs.size:=(Gz.1 hi).1;simp only[dif_pos Ab];have:=Ld (key i fs[i] (Gf Ab));rw[Gf Ab]at hi
    cases hi
    exact this
   obtain⟨F,hF⟩:=keyC;refine⟨((Gj fs.size).map F).flatten,?_,?_,?_⟩
   ·refine Jdd (fs.toList.map λf=>P.cellsOf f.type) cs _ (by rw[Ad,Aw]) (by simp) (λj n li hj hl=>?_);rw[Gw]at hj
    cases Ue:fs.toList[j]? with
    |none=>simp[Ue]at hj
    |some f=>
     simp[Ue]at hj;subst hj;have RJ:fs[j]? = some f:=by rw[<-GR];exact Ue
     have Ab:j<fs.size:=(Gz.1 RJ).1;simp[Ab]at hl;subst hl;have h1:=(hF j f RJ).1;rw[IE j f Ue]at h1;rw[<-List.map_take];exact h1
   ·rw[Jbn];intro c hc;obtain⟨l1,Fa,C8⟩:=List.mem_flatten.1 hc;obtain⟨i,hi,rfl⟩:=GQ.1 Fa;rw[Gy]at hi;exact Jbn.1 (hF i fs[i] (Gf hi)).2.1 c C8
   ·simp only[fits,ht];refine⟨_,rfl,by simp,λi f li hi hl=>?_⟩;have Ab:i<fs.size:=(Gz.1 hi).1;simp[Ab]at hl;subst hl;exact(hF i f hi).2.2
  ·simp at hp
def Jag (P:Program)(d:Nat)(t:TypeId)(c:CV):Prop:=match P.underlying t with
 |some (.struct _)=>∃l,c=.agg l/\fits P d t l
 |_=>fits P d t [c]
def fitsAll (P:Program)(d:Nat):List TypeId->List CV->Prop
 |[],l=>l=[]
 |t::ts,l=>∃c cs,l=c::cs/\Jag P d t c/\fitsAll P d ts cs
theorem trod_top {T:TypeId->Prop}(K:Kids P T){d:Nat}{t:TypeId}{v:Value}{dd:DataW H}{p:List MemPlace}{base:Nat}(hT:T t)(hp:JaM P d t=true)(hv:Value.okWide P W .any base t v)
  (h:DataW.Trod enc P W 0 (λ_=>true) IR t v dd p):∃c,rel [] (immW W) c v/\Jag P d t c:=by
 obtain⟨fuel,hf⟩:=h;obtain⟨l,h1,h2,h3⟩:=JdX K d t _ _ fuel hT hp hf
 cases d with
 |zero=>simp[JaM]at hp
 |succ d=>
  have one:∀w:Value,w=v->v.cells=#[v]->(∀fs,P.underlying t≠some (.struct fs))->∃c,rel [] (immW W) c v/\Jag P (d+1) t c:=by
   intro w _ hc UO;rw[hc]at h1;simp only[JP]at h1
   cases l with
   |nil=>simp[JP]at h1
   |cons c l=>
    simp only[JP]at h1;obtain⟨r,rs,e,g1,g2⟩:=h1;simp at e;obtain⟨rfl,rfl⟩:=e;have:l=[]:=G7 (by rw[JK g2];rfl);subst this;refine⟨c,g1,?_⟩;unfold Jag
    split
    ·rename_i fs Fh;exact absurd Fh (UO fs)
    ·exact h3
  have Du:=hp;unfold JaM at hp
  split at hp
  ·rename_i ht;obtain⟨b,rfl⟩:=okWide_bool ht hv;exact one _ rfl rfl (by rw[ht];simp)
  ·rename_i k ht;obtain⟨b,rfl⟩:=okWide_int ht hv;exact one _ rfl rfl (by rw[ht];simp)
  ·rename_i ht;obtain⟨b,rfl⟩:=okWide_string ht hv;exact one _ rfl rfl (by rw[ht];simp)
  ·rename_i e ht;obtain⟨a,b,c,rfl⟩:=okWide_slice ht hv;exact one _ rfl rfl (by rw[ht];simp)
  ·rename_i fs ht;obtain⟨cs,rfl,_⟩:=okWide_struct ht hv;refine⟨.agg l,?_,?_⟩
   ·simp only[rel];exact⟨cs,rfl,h1⟩
   ·simp only[Jag,ht];exact⟨l,rfl,h3⟩
  ·simp at hp
theorem trod_all {T:TypeId->Prop}(K:Kids P T){d:Nat}{base:Nat}:∀{ts:List TypeId}{vs:List Value}{ds:List (DataW H)}{p:List MemPlace},(∀t∈ts,T t/\JaM P d t=true)->
  (∀(j:Nat) t v,ts[j]? = some t->vs[j]? = some v->Value.okWide P W .any base t v)->DataW.TrodAll enc P W 0 (λ_=>true) IR ts vs ds p->∃l,JP [] (immW W) l vs/\fitsAll P d ts l
 |[],[],[],_,_,_,_=>⟨[],by simp[JP],rfl⟩
 |t::ts,v::vs,dd::ds,_,hT,hv,⟨p,q,h1,h2,_⟩=>by
  obtain⟨c,g1,g2⟩:=trod_top K (hT t (by simp)).1 (hT t (by simp)).2 (hv 0 t v rfl rfl) h1;obtain⟨l,g3,g4⟩:=trod_all K (λt ht=>hT t (by simp[ht])) (λj t v hj Uw=>hv (j+1) t v (by simpa using hj) (by simpa using Uw)) h2;exact⟨c::l,by simp only[JP];exact⟨v,vs,rfl,g1,g3⟩,c,l,rfl,g2,g4⟩
 |[],[],_::_,_,_,_,h=>h.elim
 |[],_::_,_,_,_,_,h=>by cases h
 |_::_,[],_,_,_,_,h=>by cases h
 |_::_,_::_,[],_,_,_,h=>h.elim
theorem JbX {W':World}{sp:Nat->Bool}:∀{ts:List TypeId}{vs:List Value}{ds:List (DataW H)}{p:List MemPlace},DataW.TrodAll enc P W 0 sp IR ts vs ds p->(∀x∈p,W.sameAt W' x)->DataW.TrodAll enc P W' 0 sp IR ts vs ds p
 |[],[],[],_,h,_=>h
 |t::ts,v::vs,dd::ds,_,⟨p,q,⟨n,h1⟩,h2,e⟩,hs=>by
  subst e;exact⟨p,q,⟨n,DataW.trod_carry n _ _ _ h1 λx hx=>hs x (List.mem_append_left _ hx)⟩,JbX h2 λx hx=>hs x (List.mem_append_right _ hx),rfl⟩
 |[],[],_::_,_,h,_=>h.elim
 |[],_::_,_,_,h,_=>by cases h
 |_::_,[],_,_,h,_=>by cases h
 |_::_,_::_,[],_,h,_=>h.elim
theorem Jgw {f:Func}{s:ChangeSpec}{apart fresh De again:Bool}{W W':World}{args:Array Value}{v:Value}{ds gs:List (DataW H)}{before pa pv:List MemPlace}
  (hW:DataW.Whole enc P f.params.toList s.vars apart W args.toList ds gs before)
  (Bu:∀(b:Nat) (sp:Nat->Bool) (hd:Bool),DataW.TrodAll enc P W' b sp hd f.resultTypes.toList (v.resultList f.resultTypes.size) (s.fn H (ds++gs)).results [])
  (Dp:∀sp:Nat->Bool,(∀p∈before,sp p.block=true)->DataW.TrodAll enc P W' 0 sp true f.params.toList args.toList (s.fn H (ds++gs)).args pa)
  (Ee:∀sp:Nat->Bool,(∀p∈before,sp p.block=true)->DataW.TrodVars enc P W' sp s.vars (s.fn H (ds++gs)).vars pv)
  (EG:before=pa++pv) (hb:Below W.heap.size W W')
  (Ap:∀(j:Nat) (t:TypeId) (r:Value),f.resultTypes[j]? = some t->(v.resultList f.resultTypes.size)[j]? = some r->Value.okWide P W' .any 0 t r) :
  s.post enc P f apart fresh De again W args v W':=by
 have Ab:∀p∈before,p.block<W.heap.size:=λp hp=>hW.lt p hp
 have Iw:∀p∈before,(λb=>decide (b<W.heap.size)) p.block=true:=λp hp=>by simpa using Ab p hp
 refine⟨ds,gs,before,[],pa,pv,hW,Bu _ _ _,Dp _ Iw,Ee _ Iw,World.keptBut_mono (λp hp=>⟨hp,?_⟩) (hb.frame (·∈before)),λ_=>?_⟩
 ·rw[EG,List.mem_append]at hp;exact Or.inr hp
 ·obtain⟨_,_,_,_,_,hz,hn⟩:=hW;refine⟨Ap,_,_,([]++pa)++pv,⟨[]++pa,pv,trodAll_append (Dp _ (λ_ _=>rfl)) (Bu _ _ _),Ee _ (λ_ _=>rfl),rfl,?_,?_⟩,?_⟩
  ·intro b off hp;have AU:MemPlace.cell b off∈before:=by rw[EG];simpa using hp
   rw[hb.frozen (Ab _ AU)];exact hz b off AU
  ·intro ha;have:=hn ha;rw[EG]at this;simpa using this
  ·intro p hp _;rw[EG];simpa using hp
theorem law_contract {f:Nat}{fn:Func}{s:ChangeSpec}{bt:TypeId}{d:Nat}(hl:laidOutB P=true)(hm:mapsRowed P=true)
  (hz:((Gj P.types.size).all λt=>match P.underlying t with|some (.slice e)=>decide (0<P.cellsOf e)|_=>true)=true)
  (bQ:P.underlying bt=some .bool) (Bu:fn.resultTypes=#[bt]) (Ee:s.vars=[]) (Fz:∀ds:List (DataW H),ds.length=fn.params.size->(s.fn H ds).results=[.lit (.bool true)]/\(s.fn H ds).args=ds/\(s.fn H ds).vars=[])
  (AC:(fn.params.toList.all λt=>decide (t<P.types.size) && JaM P d t)=true)
  (law:∀l:List CV,fitsAll P d fn.params.toList l->Fn P f l (.bool true))
  (W:World) (base:Nat) (args:Array Value) (ds gs:List (DataW H)) (before:List MemPlace) (Fx:∀(j:Nat) t v,fn.params[j]? = some t->args[j]? = some v->Value.okWide P W .any base t v)
  (hW:DataW.Whole enc P fn.params.toList s.vars false W args.toList ds gs before) (hg:GLw W) :
  Calls P f args W λe W'=>∃v,e=.returned v/\s.post enc P fn false true false false W args v W':=by
 have K:=kids_rows hl hm;have RH:=slices_full_of P hz;rw[GH]at AC;have hT:∀t∈fn.params.toList,t<P.types.size/\JaM P d t=true:=λt ht=>by simpa using AC t ht
 have bR:=hW;obtain⟨p,q,hA,hV,rfl,bI,FE⟩:=hW;rw[Ee]at hV;obtain⟨rfl,rfl⟩:=trodVars_none hV;obtain⟨l,h1,h2⟩:=trod_all (d:=d) (base:=base) K hT (λj t v hj Uw=>Fx j t v (by rw[<-GR];exact hj) (by rw[<-GR];exact Uw)) hA;have hc:=law l h2 Env.none [] _ W args (sim_start W hg) h1;refine(hc.calls λk=>Jd7 none k).mono ?_;rintro e W' ⟨r,m',v,H',rfl,Ae,hs,Ao,rfl,rfl⟩;simp only[rel]at Ao;subst Ao;have BN:∀B,¬owned { own:=[],imm:=immW W,ext:=λ_=>False } [] B:=by
  rintro B (h|⟨k,o,x,hk,_⟩)
  ·exact h
  ·simp at hk
 have hb:Below W.heap.size W W':=⟨Ae.same.1,Ae.same.2.2,Ae.same.2.1,Ae.size,λk hk=>Ae.frame k hk (BN k)⟩;have Ab:∀x∈p++[],x.block<W.heap.size:=λx hx=>bR.lt x hx
 have Bi:ds.length=fn.params.size:=by have:=(trodAll_length hA).2;simpa using this
 obtain⟨Ew,Im,UE⟩:=Fz (ds++[]) (by simpa using Bi);refine⟨_,rfl,Jgw (pa:=p) (pv:=[]) bR (λ_ _ _=>?_) (λsp UD=>?_) (λ_ _=>?_) (by simp) hb (ok_one Bu rfl (okWide_bool_mk bQ _))⟩
 ·rw[Bu,Ew];exact trodAll_cons_mk (shut_bool bQ _) trodAll_mk0
 ·rw[Im,List.append_nil];exact DataW.TrodAll.respare K RH (λt ht=>(hT t ht).1) (JbX hA λx hx=>hb.same (Ab x (by simpa using hx))) (λx hx=>UD x (by simpa using hx))
 ·rw[Ee,UE];rfl
theorem fits_int {d:Nat}{t:TypeId}{k:IntKind}{l:List CV}(ht:P.underlying t=some (.int k))(h:fits P d t l):∃x,l=[.int k x]/\InR k x:=by
 cases d with
 |zero=>exact h.elim
 |succ d=>simpa only[fits,ht]using h
theorem fits_str {d:Nat}{t:TypeId}{l:List CV}(ht:P.underlying t=some .string)(h:fits P d t l):∃b,l=[.str b]/\b.size<=maxLen:=by
 cases d with
 |zero=>exact h.elim
 |succ d=>simpa only[fits,ht]using h
theorem JcY {d:Nat}{t e:TypeId}{l:List CV}(ht:P.underlying t=some (.slice e))(h:fits P (d+1) t l):∃els,l=[.rslc (P.cellsOf e) els none]/\els.length<=maxLen/\∀x∈els,fits P d e x:=by
 simpa only[fits,ht]using h
theorem fits_struct2 {d:Nat}{t:TypeId}{f0 f1:Field}{l:List CV}(ht:P.underlying t=some (.struct #[f0,f1]))(h:fits P (d+1) t l):∃a b,l=a++b/\fits P d f0.type a/\fits P d f1.type b:=by
 simp only[fits,ht]at h;obtain⟨ls,rfl,hl,hf⟩:=h
 match ls,hl with
 |[a,b],_=>exact⟨a,b,by simp,hf 0 f0 a rfl rfl,hf 1 f1 b rfl rfl⟩
theorem top_int {d:Nat}{t:TypeId}{k:IntKind}{c:CV}(ht:P.underlying t=some (.int k))(h:Jag P d t c):∃x,c=.int k x/\InR k x:=by
 simp only[Jag,ht]at h;obtain⟨x,h1,h2⟩:=fits_int ht h
 cases h1
 exact⟨x,rfl,h2⟩
end
end
end Go.Cm
end
section
namespace Go.Cm
section
inductive Foot where
 |all
 |on (l:List Nat)
def Foot.has:Foot->Nat->Prop
 |.all,_=>True
 |.on l,x=>x∈l
def Foot.meets:Foot->Foot->Bool
 |.all,.all=>true
 |.all,.on l=>!l.isEmpty
 |.on l,.all=>!l.isEmpty
 |.on l,.on l'=>l.any λx=>l'.contains x
theorem Foot.meets_of {a b:Foot}{x:Nat}(ha:a.has x)(hb:b.has x):a.meets b=true:=by
 cases a <;> cases b <;> simp only[Foot.has,Foot.meets]at *
 ·rename_i l;cases l <;> simp_all
 ·rename_i l;cases l <;> simp_all
 ·exact H6.2 ⟨x,ha,by simpa using hb⟩
def hat (H:List CObj):Nat->Option CObj×Nat
 |0=>(none,H.length)
 |i+1=>(H[i]?,0)
theorem YL {H H':List CObj}(h:∀x,hat H x=hat H' x):H=H':=GG λi=>by
 have:=h (i+1);simpa [hat]using this
def Q4 (fs:List (Foot×Foot))(i:Nat):Foot×Foot:=fs.getD i (.all,.all)
section
variable (P:Program)(E:Env)
structure HS (io:IOper)(T:List CV)(H:List CObj)(v:CV)(H':List CObj)(f:Foot×Foot):Prop where
 out:∀x,¬f.2.has x->hat H' x=hat H x
 run:∀T2 H2,agree io.rd T T2->(∀x,f.1.has x->hat H2 x=hat H x)->∃H2',(∀x,f.2.has x->hat H2' x=hat H' x)/\(∀x,¬f.2.has x->hat H2' x=hat H2 x)/\
  ∀(n0:Nat) (N:Fr) (Q:Exit->List CV->List CObj->Prop) (k:List KItem) (l:List IOper),Ok P E n0 N Q (.ops l::k) (put T2 io.dst v) H2'->Ok P E n0 N Q (.ops (io::l)::k) T2 H2
end
def Qh (l:List IOper)(es:List (List Nat))(fs:List (Foot×Foot)):Bool:=
 ordered l es && (Gj l.length).all λi=>(Gj l.length).all λj=>i == j || !((Q4 fs i).2.meets (Q4 fs j).1 || (Q4 fs i).2.meets (Q4 fs j).2) || (es.getD j []).contains i || (es.getD i []).contains j
structure OrderedH (l:List IOper)(es:List (List Nat))(fs:List (Foot×Foot)):Prop where
 base:Ordered l es
 ord:∀i j x,i<l.length->j<l.length->i≠j->(Q4 fs i).2.has x->((Q4 fs j).1.has x\/(Q4 fs j).2.has x)->i∈es.getD j []\/j∈es.getD i []
theorem YI {l:List IOper}{es:List (List Nat)}{fs:List (Foot×Foot)}(h:Qh l es fs=true):OrderedH l es fs:=by
 simp only[Qh,Ga,GH,Gy]at h;refine⟨Jb7 h.1,λi j x hi hj Ah h1 h2=>?_⟩;have h3:=h.2 i hi j hj;have hm:((Q4 fs i).2.meets (Q4 fs j).1 || (Q4 fs i).2.meets (Q4 fs j).2)=true:=by
  rcases h2 with h2|h2
  ·rw[Foot.meets_of h1 h2];rfl
  ·rw[Foot.meets_of h1 h2,Hl]
 have Oy:(i == j)=false:=by simpa using Ah
 rw[hm,Oy]at h3;simp only[Hg,Hf,GA,GN]at h3;exact h3
def AtH (l:List IOper)(fs:List (Foot×Foot))(hh:Nat->List CObj)(S:Nat->Bool)(H:List CObj):Prop:=
 ∀x m,m<=l.length->(∀i,i<l.length->(Q4 fs i).2.has x->(S i=true↔i<m))->hat H x=hat (hh m) x
section
variable {P:Program}{E:Env}{n0:Nat}{N:Fr}{Q:Exit->List CV->List CObj->Prop}{H:List CObj}{T:List CV}{k:List KItem}{l:List IOper}{es:List (List Nat)}{fs:List (Foot×Foot)}{v:Nat->CV}{hh:Nat->List CObj}
theorem JdI (hv:∀j,j<l.length->HS P E (Q3 l j) (tst l v T j) (hh j) (v j) (hh (j+1)) (Q4 fs j)){x a:Nat}:∀d,a+d<=l.length->(∀i,a<=i->i<a+d->¬(Q4 fs i).2.has x)->hat (hh (a+d)) x=hat (hh a) x
 |0,_,_=>rfl
 |d+1,h,hn=>by
  have h1:=(hv (a+d) (by omega)).out x (hn (a+d) (by omega) (by omega));have h2:=JdI hv d (by omega) λi hi CY=>hn i hi (by omega)
  rw[<-h2];exact h1
theorem Jf2 (ho:OrderedH l es fs)(hv:∀j,j<l.length->HS P E (Q3 l j) (tst l v T j) (hh j) (v j) (hh (j+1)) (Q4 fs j))(AL:Ok P E n0 N Q k (tst l v T l.length) (hh l.length)){S:Nat->Bool}{is:List Nat}(h:Sched l.length es S is) :
  ∀T' H',(∀i,i<l.length->S i=true->∀e∈es.getD i [],S e=true)->At l v T S T'->AtH l fs hh S H'->Ok P E n0 N Q (.ops (is.map (Q3 l))::k) T' H':=by
 induction h with
 |nil hn=>
  rename_i S;intro T' H' Aq hA hB;have Aj:∀i,i<l.length->S i=true:=by
   intro i
   induction i using GZ with
   |_ i ih=>
    intro hi
    cases hS:S i with
    |true=>rfl
    |false=>
     obtain⟨e,he,M8⟩:=hn i hi hS;have Ab:=ho.base.lt i hi e he;have:=ih e Ab (by omega);rw[this]at M8;cases M8
  have hH:H'=hh l.length:=YL λx=>hB x l.length (Gd _) λi hi _=>⟨λ_=>hi,λ_=>Aj i hi⟩
  rw[hA.all ho.base Aj,hH];exact Jbg AL
 |cons hi hS hr _ ih=>
  rename_i S j is Cu;intro T' H' Aq hA hB;have key:∀i,i<l.length->i≠j->∀x,(Q4 fs i).2.has x->((Q4 fs j).1.has x\/(Q4 fs j).2.has x)->(S i=true↔i<j):=by
   intro i Ak Ah x h1 h2;have h3:=ho.ord i j x Ak hi Ah h1 h2
   constructor
   ·intro Ey;rcases h3 with h3|h3
    ·exact ho.base.lt j hi i h3
    ·have:=Aq i Ak Ey j h3;rw[hS]at this;cases this
   ·intro Ab;rcases h3 with h3|h3
    ·exact hr i h3
    ·have:=ho.base.lt i Ak j h3;omega
  obtain⟨H2',g1,g2,g3⟩:=(hv j hi).run T' H' (hA.agree ho.base Aq hi hS hr) (λx hx=>hB x j (by omega) λi Ak hw=>by
   by_cases Cv:i=j
   ·subst Cv;rw[hS];simp
   ·exact key i Ak Cv x hw (.inl hx))
  refine g3 n0 N Q k _ (ih _ _ (λi Ak Ey e he=>?_) (hA.step ho.base hi hS) ?_)
  ·simp only[GA,beq_iff_eq]at Ey|-;rcases Ey with h|h
   ·exact .inl (Aq i Ak h e he)
   ·subst h;exact .inl (hr e he)
  ·intro x m hm hw;by_cases hx:(Q4 fs j).2.has x
   ·rw[g1 x hx];have SY:j<m:=(hw j hi hx).1 (by simp);have hc:=JdI hv (x:=x) (a:=j+1) (m-(j+1)) (by omega) (λi h1 h2 Dg=>by
     have Ak:i<l.length:=by omega
     have h4:=(hw i Ak Dg).2 (by omega);have Ah:i≠j:=by omega
     have h5:S i=true:=by simpa [Ah]using h4
     have:=(key i Ak Ah x Dg (.inr hx)).1 h5;omega)
    have e:j+1+(m-(j+1))=m:=by omega
    rw[e]at hc;exact hc.symm
   ·rw[g2 x hx];refine hB x m hm λi Ak Dg=>?_
    have Ah:i≠j:=λe=>hx (e▸Dg)
    have:=hw i Ak Dg;simpa [Ah]using this
def clo (es:List (List Nat)):List (List Nat):=es.foldl (λacc e=>acc++[(e++e.flatMap λd=>acc.getD d []).eraseDups]) []
def Ja1 (n:Nat)(es es':List (List Nat)):Bool:=(Gj n).all λj=>((es.getD j []).all λe=>(es'.getD j []).contains e) && (es'.getD j []).all λe=>(es.getD j []).contains e || (es.getD j []).any λd=>decide (d<j) && (es'.getD d []).contains e
theorem Jd2 {n:Nat}{es es':List (List Nat)}(h:Ja1 n es es'=true){S:Nat->Bool}{is:List Nat}(hs:Sched n es S is):(∀i,i<n->S i=true->∀e∈es.getD i [],S e=true)->Sched n es' S is:=by
 simp only[Ja1,GH,Gy,Ga,GA,H6,decide_eq_true_eq,GN]at h;have up:∀(S:Nat->Bool),(∀i,i<n->S i=true->∀e∈es.getD i [],S e=true)->∀j,j<n->(∀e∈es.getD j [],S e=true)->∀e∈es'.getD j [],S e=true:=by
  intro S Aq j
  induction j using GZ with
  |_ j ih=>
   intro hj hd e he;rcases (h j hj).2 e he with h1|⟨d,h1,h2,h3⟩
   ·exact hd e h1
   ·exact ih d h2 (by omega) (Aq d (by omega) (hd d h1)) e h3
 induction hs with
 |nil hn=>
  intro _;refine .nil λi hi hS=>?_
  obtain⟨e,h1,h2⟩:=hn i hi hS;exact⟨e,(h i hi).1 e h1,h2⟩
 |cons hi hS hr _ ih=>
  rename_i S j is _;intro Aq;refine .cons hi hS (up S Aq j hi hr) (ih λi Ak Ey e he=>?_);simp only[GA,beq_iff_eq]at Ey|-;rcases Ey with h1|h1
  ·exact .inl (Aq i Ak h1 e he)
  ·subst h1;exact .inl (hr e he)
theorem Jgz {es':List (List Nat)}(DK:Ja1 l.length es es'=true)(hm:P.follows .mixedOrders=true)(AO:Qh l es' fs=true)(hv:∀j,j<l.length->HS P E (Q3 l j) (tst l v T j) (hh j) (v j) (hh (j+1)) (Q4 fs j))(h0:hh 0=H)(AL:Ok P E n0 N Q k (tst l v T l.length) (hh l.length)):Ok P E n0 N Q (.code (.dreg l es)::k) T H:=by
 intro m w a b cs kr rest hp hd hk;simp only[Yt]at hk;obtain⟨c',kr',rfl,hc,AA⟩:=hk;obtain⟨id,ops,rfl,h1,rfl⟩:=JgH hc;obtain⟨hl,hg⟩:=XE _ _ h1;have Cz:ops.size=l.length:=by simpa using hl.symm
 have Bn:=Jgi ops ops.size (w.tape w.drawn (.order b.fn id)) (Gm ops.size false) (by simp) (by simp);have Al:=stepR_region_draw (P:=P) (b:=b) (a:=a) (k:=kr'++rest) (cs:=cs) (w:=w) (ops:=ops) (id:=id);simp only[Region.schedule,hm,GL,if_true,Region.linearise]at Al;generalize Region.linearise.go .any ops ops.size (w.tape w.drawn (.order b.fn id)) (Gm ops.size false) []=is at Bn Al;have FZ:(λi=>(Gm ops.size false).getD i false)=λ_=>false:=by
  funext i
  simp only[Gr,He]
  split <;> rfl
 rw[FZ,Cz]at Bn;have Di:∀i∈is,i<l.length:=by
  clear Al;generalize (λ_=>false:Nat->Bool)=S at Bn
  induction Bn with
  |nil _=>intro i hi;cases hi
  |cons h _ _ _ ih=>
   intro i hi;exact(Gq.1 hi).elim (λh'=>by subst h';exact h) (ih i)
 have Re:=YI AO;have Bn:=Jd2 DK Bn λ_ _ h=>by cases h
 have Af:=Jf2 (n0:=n0) (N:=N) (Q:=Q) (k:=k) Re hv AL Bn T H (λ_ _ h=>by cases h) ⟨rfl,λ_ _=>rfl,λ_ _ _ h=>by cases h⟩ (λx m hm hw=>by
  have hc:=JdI hv (x:=x) (a:=0) m (by omega) (λi _ h2 Dg=>by
   have:=(hw i (by omega) Dg).2 (by omega)
   cases this)
  rw[G5]at hc;rw[hc,h0])
 have Az:Sim E m H { w with drawn:=w.drawn+1 }:=hp.sim.congr rfl;have hx:Ext n0 m H w m H { w with drawn:=w.drawn+1 }:=Ext.congr rfl ⟨rfl,rfl,rfl⟩;refine Reach.step (.one Al) hx (Af m _ a b cs (.inRegion ops is::kr') rest ⟨Az,hp.tmps,hp.long⟩ (hd.ext hx) ?_);simp only[Yt];refine⟨ops,is,kr',rfl,⟨by simp,λj i hj=>?_⟩,AA⟩;have hi:=Di i (Gl hj);obtain⟨io,h2,h3⟩:=hg i (ops[i]'(by omega)) (by simp);exact⟨ops[i]'(by omega),io,Gf (by omega),by simp[hj,Q3,Gc,h2],h3⟩
abbrev Foot.no:Foot×Foot:=(.on [],.on [])
abbrev Foot.any:Foot×Foot:=(.all,.all)
theorem Jbz {io:IOper}{x:CV}(h:∀H2,Val P E io T H2 x):HS P E io T H x H Foot.no:=
 ⟨λ_ _=>rfl,λT2 H2 ha _=>⟨H2,λy hy=>(by cases hy),λ_ _=>rfl,λ_ _ _ _ _ Ap=>((h H2).congr ha).ok Ap⟩⟩
theorem Ym {io:IOper}{T2:List CV}(h:agree io.rd T T2)(hg:GOk T io.guard):GOk T2 io.guard:=by
 obtain⟨d,op,g⟩:=io;rcases hg with h1|⟨s,want,h1,h4⟩
 ·exact .inl h1
 ·simp only at h1;subst h1;exact .inr ⟨s,want,rfl,by rw[<-(Ji h).1 s (by simp)];exact h4⟩
theorem hs_op {io:IOper}{x:CV}{c:Cond}{H':List CObj}(hg:GOk T io.guard)(he:exec io.op T H=some (c,x,H'))(hc:c.holds):HS P E io T H x H' Foot.any:=by
 refine⟨λ_ hn=>absurd trivial hn,λT2 H2 ha hx=>?_⟩;have hH:H2=H:=YL λy=>hx y trivial
 subst hH;exact⟨H',λ_ _=>rfl,λ_ hn=>absurd trivial hn,λ_ _ _ _ _ Ap=>Jej (Ym ha hg) (by rw[<-Qr (Ji ha).2];exact he) hc Ap⟩
end
def stays:IOp->Bool
 |.mv _=>true
 |.bin _ _ _ _=>true
 |.slice _ _ _ _ _=>true
 |.len _ _=>true
 |.not _=>true
 |.neg _=>true
 |.conv _ _=>true
 |.pick _ _ _=>true
 |.build _ _=>true
 |.field _ _ _ _=>true
 |.faddr _ _=>true
 |.extract _ _=>true
 |.load _ _ _=>true
 |.iaddr _ _ _=>true
 |_=>false
theorem exSlice_nil {z:Nat}{x:CV}{lo hi:Int}{mx:Option Int}{r:Cond×CV}(h:XP z [] x lo hi mx=some r)(H:List CObj):XP z H x lo hi mx=some r:=by
 cases x <;> simp only[XP,List.getElem?_nil,reduceCtorEq]at h|- <;> exact h
theorem Jg0 {op:IOp}{T:List CV}{c:Cond}{x:CV}(AX:stays op=true)(h:exec op T []=some (c,x,[]))(H:List CObj):exec op T H=some (c,x,H):=by
 cases op <;> simp only[stays,GX]at AX
 case slice z y lo hi mx=>
  simp only[exec]at h|-
  split at h
  ·rename_i l hh m h1 h2 h3
   split at h
   ·rename_i c' v' h4;rw[exSlice_nil h4 H]
    simp_all
   ·cases h
  ·cases h
 case len tk y=>
  simp only[exec]at h|-
  split at h <;> simp_all
 all_goals
  simp only[exec]at h|-
  repeat' split at h
  all_goals simp_all
def Jex (b:Bool)(op:IOp)(T:List CV)(H:List CObj):Option (Cond×CV×List CObj):=
 if b=true then exec op T H else if stays op=true then(match exec op T []with|some (c,v,[])=>some (c,v,H)|_=>none) else none
def QY (b:Bool):Foot×Foot:=if b then Foot.any else Foot.no
section
variable (P:Program)(E:Env)(n0:Nat)(N:Fr)(Q:Exit->List CV->List CObj->Prop)
def vdh (k:List KItem):List IOper->List Bool->List CV->List CObj->Prop
 |[],_,T,H=>Kn P E n0 N Q k T H
 |_::_,[],_,_=>False
 |⟨d,op,none⟩::l,b::bs,T,H=>match Jex b op T H with
  |some (c,v,H')=>c.holds/\vdh k l bs (put T d v) H'
  |none=>∃v H',HS P E ⟨d,op,none⟩ T H v H' (QY b)/\vdh k l bs (put T d v) H'
 |⟨d,op,some g⟩::l,b::bs,T,H=>∃v H',HS P E ⟨d,op,some g⟩ T H v H' (QY b)/\vdh k l bs (put T d v) H'
def vdhR (r:Option (Cond×CV×List CObj))(d:Option Nat)(op:IOp)(b:Bool)(k:List KItem)(l:List IOper)(bs:List Bool)(T:List CV)(H:List CObj):Prop:=
 match r with
 |some (c,v,H')=>c.holds/\vdh P E n0 N Q k l bs (put T d v) H'
 |none=>∃v H',HS P E ⟨d,op,none⟩ T H v H' (QY b)/\vdh P E n0 N Q k l bs (put T d v) H'
end
section
variable {P:Program}{E:Env}{n0:Nat}{N:Fr}{Q:Exit->List CV->List CObj->Prop}{H H':List CObj}{T:List CV}{k:List KItem}{l:List IOper}{es:List (List Nat)}{bs:List Bool}
theorem vh_nil:vdh P E n0 N Q k [] bs T H=Kn P E n0 N Q k T H:=propext (by cases bs <;> exact Gi)
theorem vh_op {d:Option Nat}{op:IOp}{b:Bool}:vdh P E n0 N Q k (⟨d,op,none⟩::l) (b::bs) T H=vdhR P E n0 N Q (Jex b op T H) d op b k l bs T H:=propext Gi
theorem vdhR_some {d:Option Nat}{op:IOp}{b:Bool}{c:Cond}{v:CV}:vdhR P E n0 N Q (some (c,v,H')) d op b k l bs T H=(c.holds/\vdh P E n0 N Q k l bs (put T d v) H'):=propext Gi
theorem vdh_look {T':List CV}{H':List CObj}(hT:T=T')(hH:H=H'):vdh P E n0 N Q k l bs T H=vdh P E n0 N Q k l bs T' H':=by rw[hT,hH]
theorem vdhR_look {r r':Option (Cond×CV×List CObj)}{d:Option Nat}{op:IOp}{b:Bool}(h:r=r'):vdhR P E n0 N Q r d op b k l bs T H=vdhR P E n0 N Q r' d op b k l bs T H:=by rw[h]
attribute [congr] vdh_look vdhR_look
theorem Jew {b:Bool}{d:Option Nat}{op:IOp}{c:Cond}{v:CV}(he:Jex b op T H=some (c,v,H'))(hc:c.holds):HS P E ⟨d,op,none⟩ T H v H' (QY b):=by
 unfold Jex at he
 split at he
 ·rename_i hb;subst hb;exact hs_op (.inl rfl) he hc
 ·rename_i hb
  split at he
  ·rename_i hs
   split at he
   ·rename_i c' v' h1;simp only[GV,GJ]at he;obtain⟨rfl,rfl,rfl⟩:=he;have:b=false:=by simpa using hb
    subst this;exact Jbz λH2=>.inr ⟨.inl rfl,.inl ⟨_,Jg0 hs h1 H2,hc⟩⟩
   ·cases he
  ·cases he
theorem vdh_vals:∀(l:List IOper) (bs:List Bool) (T:List CV) (H:List CObj),vdh P E n0 N Q k l bs T H->l.length=bs.length->∃(v:Nat->CV) (hh:Nat->List CObj),hh 0=H/\(∀j,j<l.length->HS P E (Q3 l j) (tst l v T j) (hh j) (v j) (hh (j+1)) (Q4 (bs.map QY) j))/\Kn P E n0 N Q k (tst l v T l.length) (hh l.length)
 |[],bs,T,H,h,_=>⟨λ_=>.un,λ_=>H,rfl,by simp,by rw[vh_nil]at h;exact h⟩
 |io::l,[],T,H,h,hl=>by simp at hl
 |io::l,b::bs,T,H,h,hl=>by
  have ES:∃v0 H',HS P E io T H v0 H' (QY b)/\vdh P E n0 N Q k l bs (put T io.dst v0) H':=by
   obtain⟨d,op,g⟩:=io
   cases g with
   |none=>
    rw[vh_op]at h;unfold vdhR at h
    split at h
    ·rename_i c v H' he;exact⟨v,H',Jew he h.1,h.2⟩
    ·exact h
   |some g=>exact h
  obtain⟨v0,H',h1,h2⟩:=ES;obtain⟨v,hh,h0,h3,h4⟩:=vdh_vals l bs _ _ h2 (by simpa using hl)
  let v':Nat->CV:=λj=>match j with|0=>v0|j+1=>v j
  let Ff:Nat->List CObj:=λj=>match j with|0=>H|j+1=>hh j
  have key:∀j,tst (io::l) v' T (j+1)=tst l v (put T io.dst v0) j:=by
   intro j
   induction j with
   |zero=>rfl
   |succ j ih=>rw[tst,ih];rfl
  refine⟨v',Ff,rfl,λj hj=>?_,?_⟩
  ·cases j with
   |zero=>
    have e:Ff (0+1)=H':=h0;rw[e];exact h1
   |succ j=>rw[key];exact h3 j (by simpa using hj)
  ·rw[Gx,key];exact h4
theorem Ya (bs:List Bool)(hm:P.follows .mixedOrders=true)(AO:(l.length == bs.length && (Ja1 l.length es (clo es) && Qh l (clo es) (bs.map QY)))=true)(h:vdh P E n0 N Q k l bs T H):Ok P E n0 N Q (.code (.dreg l es)::k) T H:=by
 simp only[Ga,beq_iff_eq]at AO;obtain⟨v,hh,h0,h1,h2⟩:=vdh_vals l bs T H h AO.1;exact Jgz AO.2.1 hm AO.2.2 h1 h0 (JA _ _ _ h2)
end
attribute [go_sem] Jex stays vh_nil vh_op vdhR_some
end
section
section
variable (P:Program)(E:Env)
def vdk (K:List CV->List CObj->Prop):List IOper->List Bool->List CV->List CObj->Prop
 |[],_,T,H=>K T H
 |_::_,[],_,_=>False
 |⟨d,op,none⟩::l,b::bs,T,H=>match Jex b op T H with
  |some (c,v,H')=>c.holds/\vdk K l bs (put T d v) H'
  |none=>∃v H',HS P E ⟨d,op,none⟩ T H v H' (QY b)/\vdk K l bs (put T d v) H'
 |⟨d,op,some g⟩::l,b::bs,T,H=>∃v H',HS P E ⟨d,op,some g⟩ T H v H' (QY b)/\vdk K l bs (put T d v) H'
def vdkR (r:Option (Cond×CV×List CObj))(d:Option Nat)(op:IOp)(b:Bool)(K:List CV->List CObj->Prop)(l:List IOper)(bs:List Bool)(T:List CV)(H:List CObj):Prop:=
 match r with
 |some (c,v,H')=>c.holds/\vdk P E K l bs (put T d v) H'
 |none=>∃v H',HS P E ⟨d,op,none⟩ T H v H' (QY b)/\vdk P E K l bs (put T d v) H'
def leads (n0:Nat)(N:Fr)(Q:Exit->List CV->List CObj->Prop)(T':List CV)(H':List CObj)(T:List CV)(H:List CObj):Prop:=
 ∀k,Ok P E n0 N Q k T' H'->Ok P E n0 N Q k T H
end
section
variable {P:Program}{E:Env}{n0:Nat}{N:Fr}{Q:Exit->List CV->List CObj->Prop}{H H':List CObj}{T T':List CV}{k:List KItem}{l:List IOper}{es:List (List Nat)}{bs:List Bool}{K:List CV->List CObj->Prop}
theorem vk_nil:vdk P E K [] bs T H=K T H:=propext (by cases bs <;> exact Gi)
theorem vk_op {d:Option Nat}{op:IOp}{b:Bool}:vdk P E K (⟨d,op,none⟩::l) (b::bs) T H=vdkR P E (Jex b op T H) d op b K l bs T H:=propext Gi
theorem vdkR_some {d:Option Nat}{op:IOp}{b:Bool}{c:Cond}{v:CV}:vdkR P E (some (c,v,H')) d op b K l bs T H=(c.holds/\vdk P E K l bs (put T d v) H'):=propext Gi
theorem vdk_look {T':List CV}{H':List CObj}(hT:T=T')(hH:H=H'):vdk P E K l bs T H=vdk P E K l bs T' H':=by rw[hT,hH]
theorem vdkR_look {r r':Option (Cond×CV×List CObj)}{d:Option Nat}{op:IOp}{b:Bool}(h:r=r'):vdkR P E r d op b K l bs T H=vdkR P E r' d op b K l bs T H:=by rw[h]
attribute [congr] vdk_look vdkR_look
theorem vdk_vals:∀(l:List IOper) (bs:List Bool) (T:List CV) (H:List CObj),vdk P E K l bs T H->l.length=bs.length->∃(v:Nat->CV) (hh:Nat->List CObj),hh 0=H/\(∀j,j<l.length->HS P E (Q3 l j) (tst l v T j) (hh j) (v j) (hh (j+1)) (Q4 (bs.map QY) j))/\K (tst l v T l.length) (hh l.length)
 |[],bs,T,H,h,_=>⟨λ_=>.un,λ_=>H,rfl,by simp,by rw[vk_nil]at h;exact h⟩
 |io::l,[],T,H,h,hl=>by simp at hl
 |io::l,b::bs,T,H,h,hl=>by
  have ES:∃v0 H',HS P E io T H v0 H' (QY b)/\vdk P E K l bs (put T io.dst v0) H':=by
   obtain⟨d,op,g⟩:=io
   cases g with
   |none=>
    rw[vk_op]at h;unfold vdkR at h
    split at h
    ·rename_i c v H' he;exact⟨v,H',Jew he h.1,h.2⟩
    ·exact h
   |some g=>exact h
  obtain⟨v0,H',h1,h2⟩:=ES;obtain⟨v,hh,h0,h3,h4⟩:=vdk_vals l bs _ _ h2 (by simpa using hl)
  let v':Nat->CV:=λj=>match j with|0=>v0|j+1=>v j
  let Ff:Nat->List CObj:=λj=>match j with|0=>H|j+1=>hh j
  have key:∀j,tst (io::l) v' T (j+1)=tst l v (put T io.dst v0) j:=by
   intro j
   induction j with
   |zero=>rfl
   |succ j ih=>rw[tst,ih];rfl
  refine⟨v',Ff,rfl,λj hj=>?_,?_⟩
  ·cases j with
   |zero=>
    have e:Ff (0+1)=H':=h0;rw[e];exact h1
   |succ j=>rw[key];exact h3 j (by simpa using hj)
  ·rw[Gx,key];exact h4
theorem sched_run (AO:(l.length == bs.length && (Ja1 l.length es (clo es) && Qh l (clo es) (bs.map QY)))=true)(h:vdk P E (leads P E n0 N Q T' H') l bs T H)(AL:Ok P E n0 N Q k T' H'){is:List Nat}(hs:Sched l.length es (λ_=>false) is):Ok P E n0 N Q (.ops (is.map (Q3 l))::k) T H:=by
 simp only[Ga,beq_iff_eq]at AO;obtain⟨v,hh,h0,hv,h2⟩:=vdk_vals l bs T H h AO.1;have Bn:=Jd2 AO.2.1 hs λ_ _ h=>by cases h
 exact Jf2 (YI AO.2.2) hv (h2 k AL) Bn T H (λ_ _ h=>by cases h) ⟨rfl,λ_ _=>rfl,λ_ _ _ h=>by cases h⟩ (λx m hm hw=>by
  have hc:=JdI hv (x:=x) (a:=0) m (by omega) (λi _ h2 Dg=>by
   have:=(hw i (by omega) Dg).2 (by omega)
   cases this)
  rw[G5]at hc;rw[hc,h0])
theorem ok_draw (hm:P.follows .mixedOrders=true)(h:∀is,Sched l.length es (λ_=>false) is->Ok P E n0 N Q (.ops (is.map (Q3 l))::k) T H):Ok P E n0 N Q (.code (.dreg l es)::k) T H:=by
 intro m w a b cs kr rest hp hd hk;simp only[Yt]at hk;obtain⟨c',kr',rfl,hc,AA⟩:=hk;obtain⟨id,ops,rfl,h1,rfl⟩:=JgH hc;obtain⟨hl,hg⟩:=XE _ _ h1;have Cz:ops.size=l.length:=by simpa using hl.symm
 have Bn:=Jgi ops ops.size (w.tape w.drawn (.order b.fn id)) (Gm ops.size false) (by simp) (by simp);have Al:=stepR_region_draw (P:=P) (b:=b) (a:=a) (k:=kr'++rest) (cs:=cs) (w:=w) (ops:=ops) (id:=id);simp only[Region.schedule,hm,GL,if_true,Region.linearise]at Al;generalize Region.linearise.go .any ops ops.size (w.tape w.drawn (.order b.fn id)) (Gm ops.size false) []=is at Bn Al;have FZ:(λi=>(Gm ops.size false).getD i false)=λ_=>false:=by
  funext i
  simp only[Gr,He]
  split <;> rfl
 rw[FZ,Cz]at Bn;have Di:∀i∈is,i<l.length:=by
  clear Al h;generalize (λ_=>false:Nat->Bool)=S at Bn
  induction Bn with
  |nil _=>intro i hi;cases hi
  |cons h _ _ _ ih=>
   intro i hi;exact(Gq.1 hi).elim (λh'=>by subst h';exact h) (ih i)
 have Af:=h is Bn;have Az:Sim E m H { w with drawn:=w.drawn+1 }:=hp.sim.congr rfl;have hx:Ext n0 m H w m H { w with drawn:=w.drawn+1 }:=Ext.congr rfl ⟨rfl,rfl,rfl⟩;refine Reach.step (.one Al) hx (Af m _ a b cs (.inRegion ops is::kr') rest ⟨Az,hp.tmps,hp.long⟩ (hd.ext hx) ?_);simp only[Yt];refine⟨ops,is,kr',rfl,⟨by simp,λj i hj=>?_⟩,AA⟩;have hi:=Di i (Gl hj);obtain⟨io,h2,h3⟩:=hg i (ops[i]'(by omega)) (by simp);exact⟨ops[i]'(by omega),io,Gf (by omega),by simp[hj,Q3,Gc,h2],h3⟩
def JbV (es:List (List Nat))(j i:Nat):List (List Nat):=es.set j (i::es.getD j [])
theorem Jam {es:List (List Nat)}{j i a:Nat}(hj:j<es.length):(JbV es j i).getD a []=if a=j then i::es.getD j [] else es.getD a []:=by
 unfold JbV;simp only[Gc,Gv];by_cases h:j=a
 ·subst h;simp[hj]
 ·rw[if_neg h,if_neg λe=>h e.symm]
theorem sched_add {n:Nat}{i j:Nat}(hj:j<es.length){S:Nat->Bool}{is:List Nat}(h:Sched n es S is):S i=true->Sched n (JbV es j i) S is:=by
 induction h with
 |nil hn=>
  intro hi;refine .nil λa ha hS=>?_
  obtain⟨e,h1,h2⟩:=hn a ha hS;refine⟨e,?_,h2⟩;rw[Jam hj]
  split
  ·rename_i h;subst h;exact Hw _ h1
  ·exact h1
 |cons ha hS hr _ ih=>
  intro hi;refine .cons ha hS (λe he=>?_) (ih (by simp[hi]));rw[Jam hj]at he
  split at he
  ·rename_i h;subst h;rcases Gq.1 he with h|h
   ·rw[h];exact hi
   ·exact hr e h
  ·exact hr e he
theorem sched_pair {n i j:Nat}(Cv:i≠j)(hi:i<es.length)(hj:j<es.length){S:Nat->Bool}{is:List Nat}(h:Sched n es S is):S i=false->S j=false->Sched n (JbV es j i) S is\/Sched n (JbV es i j) S is:=by
 induction h with
 |nil hn=>
  intro _ _;refine .inl (.nil λa ha hS=>?_);obtain⟨e,h1,h2⟩:=hn a ha hS;refine⟨e,?_,h2⟩;rw[Jam hj]
  split
  ·rename_i h;subst h;exact Hw _ h1
  ·exact h1
 |cons ha hS hr Cu ih=>
  rename_i S a is;intro h1 h2;by_cases I9:a=i
  ·subst I9;refine .inl (.cons ha hS (λe he=>?_) (sched_add hj Cu (by simp)));rw[Jam hj,if_neg Cv]at he;exact hr e he
  ·by_cases aj:a=j
   ·subst aj;refine .inr (.cons ha hS (λe he=>?_) (sched_add hi Cu (by simp)));rw[Jam hi,if_neg I9]at he;exact hr e he
   ·rcases ih (by simp[h1,Ne.symm I9]) (by simp[h2,Ne.symm aj]) with h|h
    ·exact .inl (.cons ha hS (λe he=>by rw[Jam hj,if_neg aj]at he;exact hr e he) h)
    ·exact .inr (.cons ha hS (λe he=>by rw[Jam hi,if_neg I9]at he;exact hr e he) h)
theorem Jn (h:forget T T'):leads P E n0 N Q T' H T H:=λ_ Ap=>K7 (Yg h) Ap
theorem leads_ren {T1:List CV}{H1:List CObj}(ρ:List Nat)(hr:JcJ ρ n0 H.length=true)(h:leads P E n0 N Q T1 H1 (JB ρ T) (Kl ρ H)):leads P E n0 N Q T1 H1 T H:=λk Ap=>Jfv (QP hr) (h k Ap)
theorem leads_to (ρ:List Nat)(hr:JcJ ρ n0 H.length=true)(hT:forget (JB ρ T) T')(hH:Kl ρ H=H'):leads P E n0 N Q T' H' T H:=leads_ren ρ hr (by rw[hH];exact Jn hT)
end
attribute [go_sem] vk_nil vk_op vdkR_some
end
section
section
variable {P:Program}{E:Env}{n0:Nat}{N:Fr}{Q:Exit->List CV->List CObj->Prop}{H:List CObj}{T:List CV}{k:List KItem}
theorem vr_rfuncJ {f:IArg}{ps:List Nat}{x y:ICode}{g:Nat}{l1 l2:List CV}{xs:List (List CV)}{Γ:Type}(J:Nat->Γ->Prop) (hp:Nat->Γ->List CObj) (γ0:Γ) (iL:J 0 γ0) (Oo:N.rnd=false) (hf:J7 T f=.fn g l1 l2) (C8:Jp l1=true) (Ca:Jp l2=true) {F:IFunc}(hF:Jf P g=some F) (EI:(P.funcs[g]?.map (·.name))≠some "runtime.NumGoroutine")
  (MW:Iter P g l1 l2 xs) (EX:∀c∈xs,c.length=ps.length) (h0:H=hp 0 γ0)
  (Co:∀s γ c,J s γ->xs[s]? = some c->Kn P E H.length ⟨0,true⟩ (asgQ λT2 H2=>Kn P E H.length ⟨0,true⟩ (JdR P E n0 N Q k T (λH'=>∃γ',J (s+1) γ'/\H'=hp (s+1) γ')) [.code y] T2 H2) [.code x] (pset T ps c) (hp s γ))
  (BZ:∀γ,J xs.length γ->Kn P E n0 N Q k T (hp xs.length γ)):Ok P E n0 N Q (.code (.rfunc f ps x y)::k) T H:=by
 have Bg:∃fn,P.funcs[g]? = some fn/\fn.body.isSome=true:=by
  unfold Jf at hF
  split at hF
  ·rename_i fn Bg
   split at hF
   ·rename_i c hb;exact⟨fn,Bg,by rw[hb];rfl⟩
   ·cases hF
  ·cases hF
 obtain⟨fn,Bg,DL⟩:=Bg;refine ok_rfunc (λs H'=>∃γ,J s γ/\H'=hp s γ) Oo hf C8 Ca Bg DL (λe=>EI (by rw[Bg,<-e];rfl)) MW EX ⟨γ0,iL,h0⟩ (λs Hs c hI hc=>?_) (λH' ⟨γ,hJ,hI⟩=>by rw[hI];exact JA _ _ _ (BZ γ hJ));obtain⟨γ,hJ,rfl⟩:=hI;refine(JA _ _ _ (Co s γ c hJ hc)).mono λe T2 H2 hq=>?_
 cases e with
 |normal=>
  refine(JA _ _ _ hq).mono λe T3 H3 Mh=>?_
  cases e with
  |normal=>exact Mh
  |ret=>exact ok_ret Mh
  |exit id=>
   refine ok_exit ?_;simp only[JdR,JcA]at Mh
   split <;> rename_i hx <;> rw[hx]at Mh
   ·exact JA _ _ _ Mh
   ·exact Mh
  |goto l=>exact Mh.elim
  |panic c=>exact Mh.elim
  |outgrown=>exact Mh.elim
 |ret=>exact hq.elim
 |exit id=>exact hq.elim
 |goto l=>exact hq.elim
 |panic c=>exact hq.elim
 |outgrown=>exact hq.elim
end
section
variable {P:Program}{E:Env}{n0:Nat}{N:Fr}{Q:Exit->List CV->List CObj->Prop}{H:List CObj}{T:List CV}{k:List KItem}{l:List IOper}{bs:List Bool}{K:List CV->List CObj->Prop}
theorem hs_f {d:Option Nat}{g:Option (Nat×Bool)}{f:Nat}{as:List IArg}{v:CV}(hg:GOk T g)(Ag:Fn P f (as.map (J7 T)) v):HS P E ⟨d,.call f as,g⟩ T H v H Foot.no:=
 Jbz λH2=>.inr ⟨hg,.inr (.inl ⟨f,as,rfl,Ag E H2⟩)⟩
theorem JgJ {d:Option Nat}{g:Option (Nat×Bool)}{f:Nat}{as:List IArg}{v:CV}{H':List CObj}(hg:GOk T g)(Ag:CallsC P E f (as.map (J7 T)) H λv2 H2=>v2=v/\H2=H'):HS P E ⟨d,.call f as,g⟩ T H v H' Foot.any:=by
 refine⟨λ_ hn=>absurd trivial hn,λT2 H2 ha hx=>?_⟩;have hH:H2=H:=YL λy=>hx y trivial
 subst hH;have hT:as.map (J7 T)=as.map (J7 T2):=Xo (Ji ha).2;refine⟨H',λ_ _=>rfl,λ_ hn=>absurd trivial hn,λ_ _ _ _ _ Ap=>Jek (Ym ha hg) (by rw[<-hT];exact Ag) ?_⟩;rintro v2 H2 ⟨rfl,rfl⟩;exact Ap
theorem vh_f {d:Option Nat}{f:Nat}{as:List IArg}{v:CV}(Ag:Fn P f (as.map (J7 T)) v)(h:vdh P E n0 N Q k l bs (put T d v) H):vdhR P E n0 N Q none d (.call f as) false k l bs T H:=
 ⟨v,H,hs_f (.inl rfl) Ag,h⟩
theorem vk_c {d:Option Nat}{f:Nat}{as:List IArg}{v:CV}{H':List CObj}(Ag:CallsC P E f (as.map (J7 T)) H λv2 H2=>v2=v/\H2=H')(h:vdk P E K l bs (put T d v) H'):vdkR P E none d (.call f as) true K l bs T H:=
 ⟨v,H',JgJ (.inl rfl) Ag,h⟩
end
section
variable (P:Program)(E:Env)(n0:Nat)(N:Fr)(Q:Exit->List CV->List CObj->Prop)
def vdf (k:List KItem):List IOper->List (Foot×Foot)->List CV->List CObj->Prop
 |[],_,T,H=>Kn P E n0 N Q k T H
 |_::_,[],_,_=>False
 |io::l,f::fs,T,H=>∃v H',HS P E io T H v H' f/\vdf k l fs (put T io.dst v) H'
end
section
variable {P:Program}{E:Env}{n0:Nat}{N:Fr}{Q:Exit->List CV->List CObj->Prop}{H:List CObj}{T:List CV}{k:List KItem}{l:List IOper}{es:List (List Nat)}
theorem vdf_vals:∀(l:List IOper) (fs:List (Foot×Foot)) (T:List CV) (H:List CObj),vdf P E n0 N Q k l fs T H->l.length=fs.length->∃(v:Nat->CV) (hh:Nat->List CObj),hh 0=H/\(∀j,j<l.length->HS P E (Q3 l j) (tst l v T j) (hh j) (v j) (hh (j+1)) (Q4 fs j))/\Kn P E n0 N Q k (tst l v T l.length) (hh l.length)
 |[],fs,T,H,h,_=>⟨λ_=>.un,λ_=>H,rfl,by simp,by cases fs <;> exact h⟩
 |io::l,[],T,H,h,hl=>by simp at hl
 |io::l,f::fs,T,H,h,hl=>by
  obtain⟨v0,H',h1,h2⟩:=h;obtain⟨v,hh,h0,h3,h4⟩:=vdf_vals l fs _ _ h2 (by simpa using hl)
  let v':Nat->CV:=λj=>match j with|0=>v0|j+1=>v j
  let Ff:Nat->List CObj:=λj=>match j with|0=>H|j+1=>hh j
  have key:∀j,tst (io::l) v' T (j+1)=tst l v (put T io.dst v0) j:=by
   intro j
   induction j with
   |zero=>rfl
   |succ j ih=>rw[tst,ih];rfl
  refine⟨v',Ff,rfl,λj hj=>?_,?_⟩
  ·cases j with
   |zero=>
    have e:Ff (0+1)=H':=h0;rw[e];exact h1
   |succ j=>rw[key];exact h3 j (by simpa using hj)
  ·rw[Gx,key];exact h4
theorem Ja7 (fs:List (Foot×Foot))(hm:P.follows .mixedOrders=true)(AO:(l.length == fs.length && (Ja1 l.length es (clo es) && Qh l (clo es) fs))=true)(h:vdf P E n0 N Q k l fs T H):Ok P E n0 N Q (.code (.dreg l es)::k) T H:=by
 simp only[Ga,beq_iff_eq]at AO;obtain⟨v,hh,h0,h1,h2⟩:=vdf_vals l fs T H h AO.1;exact Jgz AO.2.1 hm AO.2.2 h1 h0 (JA _ _ _ h2)
theorem hs_new {d:Option Nat}{f:Nat}{as:List IArg}{id:Nat}{ob:CObj}{mk:Nat->CV}(Ad:H.length=id)(Ag:∀H2:List CObj,CallsC P E f (as.map (J7 T)) H2 λv2 H3=>v2=mk H2.length/\H3=H2++[ob]) :
  HS P E ⟨d,.call f as,none⟩ T H (mk id) (H++[ob]) (.on [0],.on [0,id+1]):=by
 subst Ad;refine⟨λx hx=>?_,λT2 H2 ha hx=>?_⟩
 ·simp only[Foot.has,Gq,G8,or_false,not_or]at hx
  cases x with
  |zero=>exact absurd rfl hx.1
  |succ x=>
   simp only[hat,GJ,and_true];have Ah:x≠H.length:=λe=>hx.2 (by rw[e])
   rcases Hq x H.length with h|h
   ·rw[Gu h]
   ·rw[Gh (by simp;omega),Gh h]
 ·have hl:H2.length=H.length:=by
   have:=hx 0 (by simp[Foot.has]);simpa [hat]using this
  have hT:as.map (J7 T)=as.map (J7 T2):=Xo (Ji ha).2;refine⟨H2++[ob],λx hx=>?_,λx hx=>?_,λ_ _ _ _ _ Ap=>Jek (.inl rfl) (by rw[<-hT];exact Ag H2) ?_⟩
  ·simp only[Foot.has,Gq,G8,or_false]at hx;rcases hx with rfl|rfl
   ·simp[hat,hl]
   ·simp only[hat,GJ,and_true];rw[<-hl,Gp (Gd _),hl,Gp (Gd _)]
  ·simp only[Foot.has,Gq,G8,or_false,not_or]at hx
   cases x with
   |zero=>exact absurd rfl hx.1
   |succ x=>
    simp only[hat,GJ,and_true];have Ah:x≠H2.length:=λe=>hx.2 (by rw[e,hl])
    rcases Hq x H2.length with h|h
    ·rw[Gu h]
    ·rw[Gh (by simp;omega),Gh h]
  ·rintro v2 H3 ⟨rfl,rfl⟩;rw[hl];exact Ap
theorem hs_ld {d:Option Nat}{ag:Bool}{n:Nat}{a:IArg}{id i off:Nat}{c:Cond}{x:CV}(ha:J7 T a=.ptr id i off)(he:exec (.load ag n a) T H=some (c,x,H))(hc:c.holds) :
  HS P E ⟨d,.load ag n a,none⟩ T H x H (.on [id+1],.on []):=by
 refine⟨λ_ _=>rfl,λT2 H2 BG hx=>⟨H2,λy hy=>(by cases hy),λ_ _=>rfl,λ_ _ _ _ _ Ap=>?_⟩⟩;have hH:H2[id]? = H[id]?:=by
  have:=hx (id+1) (by simp[Foot.has]);simpa [hat]using this
 have hT:J7 T a=J7 T2 a:=Ju (Ji BG).2;have Ex:exec (.load ag n a) T2 H2=some (c,x,H2):=by
  simp only[exec,ha]at he;simp only[exec,<-hT,ha,hH]
  split at he
  ·split at he
   ·rename_i h1;simp only[GV,GJ]at he;obtain⟨rfl,rfl,_⟩:=he;simp[h1]
   ·rename_i h1;simp only[GV,GJ]at he;obtain⟨rfl,rfl,_⟩:=he;simp[h1]
  ·cases he
 exact Jej (.inl rfl) Ex hc Ap
theorem hs_any {io:IOper}{x:CV}{c:Cond}{H':List CObj}(hg:GOk T io.guard)(he:exec io.op T H=some (c,x,H'))(hc:c.holds):HS P E io T H x H' Foot.any:=hs_op hg he hc
theorem hs_all {d:Option Nat}{op:IOp}{x:CV}{c:Cond}(he:∀H2,exec op T H2=some (c,x,H2))(hc:c.holds):HS P E ⟨d,op,none⟩ T H x H Foot.no:=
 Jbz λH2=>.inr ⟨.inl rfl,.inl ⟨_,he H2,hc⟩⟩
theorem hs_row {d:Option Nat}{z n:Nat}{zero:List CV}{ps:List (Nat×IArg)}(els:List (List CV))(Aq:Jp ((IOp.bslice z n zero ps).rd.map λs=>T.getD s .un)=true)(he:XO T z (GI n zero) ps=some els)(hn:els.length=n)(hc:Jr els=true):HS P E ⟨d,.bslice z n zero ps,none⟩ T H (.rslc z els none) H Foot.no:=by
 refine Jbz λH2=>.inr ⟨.inl rfl,.inr (.inr ⟨Aq,rfl,.tt,.slc 0 0 n (some n),[.arr z els],0,z,els,?_,trivial,rfl,hc,?_⟩)⟩
 ·simp[exec,he]
 ·subst hn;simp[frz]
theorem YK {d:Option Nat}{op:IOp}{x:CV}{c:Cond}(AX:stays op=true)(he:exec op T []=some (c,x,[]))(hc:c.holds):HS P E ⟨d,op,none⟩ T H x H Foot.no:=
 Jbz λH2=>.inr ⟨.inl rfl,.inl ⟨_,Jg0 AX he H2,hc⟩⟩
end
section
variable {P:Program}{E:Env}{n0:Nat}{N:Fr}{Q:Exit->List CV->List CObj->Prop}{H:List CObj}{T:List CV}{k:List KItem}{l:List IOper}{bs:List Bool}
theorem vh_all {d:Option Nat}{op:IOp}(x:CV){c:Cond}(he:∀H2,exec op T H2=some (c,x,H2))(hc:c.holds)(h:vdh P E n0 N Q k l bs (put T d x) H):vdhR P E n0 N Q none d op false k l bs T H:=
 ⟨x,H,hs_all he hc,h⟩
theorem Jfe {d:Option Nat}{z n:Nat}{zero:List CV}{ps:List (Nat×IArg)}(els:List (List CV))(Aq:Jp ((IOp.bslice z n zero ps).rd.map λs=>T.getD s .un)=true)(he:XO T z (GI n zero) ps=some els)(hn:els.length=n)(hc:Jr els=true)(h:vdh P E n0 N Q k l bs (put T d (.rslc z els none)) H):vdhR P E n0 N Q none d (.bslice z n zero ps) false k l bs T H:=
 ⟨_,H,hs_row els Aq he hn hc,h⟩
end
theorem Qt {ρ:List Nat}{id j:Nat}{els:List (List CV)}(h:ren ρ (.slc id 0 els.length none)=.slc j 0 els.length none):ren ρ (K6 id els)=K6 j els:=by
 cases els with
 |nil=>rfl
 |cons e l=>simpa [K6]using h
end
section
def KY:List (Nat×CV)->Nat->CV
 |[],_=>.un
 |p::l,i=>if i=p.1 then p.2 else KY l i
def mkTF (al:List (Nat×CV)):Nat->Nat->List CV
 |0,_=>[]
 |n+1,i=>KY al i::mkTF al n (i+1)
def mkT (n:Nat)(al:List (Nat×CV)):List CV:=mkTF al n 0
def zipA:Nat->List CV->List (Nat×CV)
 |_,[]=>[]
 |i,c::l=>(i,c)::zipA (i+1) l
theorem mkTF_get {al:List (Nat×CV)}:∀(n i j:Nat),(mkTF al n i)[j]? = if j<n then some (KY al (i+j)) else none
 |0,i,j=>by simp[mkTF]
 |n+1,i,0=>by simp[mkTF]
 |n+1,i,j+1=>by
  simp only[mkTF,Ht,mkTF_get n (i+1) j];rw[show i+1+j=i+(j+1) by omega];simp
theorem mkT_get? {n j:Nat}{al:List (Nat×CV)}:(mkT n al)[j]? = if j<n then some (KY al j) else none:=by
 rw[mkT,mkTF_get];simp
theorem mkT_get {n i:Nat}{al:List (Nat×CV)}(h:i<n):(mkT n al).getD i .un=KY al i:=by
 rw[Gc,mkT_get?,if_pos h];rfl
theorem mkT_set {n d:Nat}{v:CV}{al:List (Nat×CV)}:(mkT n al).set d v=mkT n ((d,v)::al):=by
 refine GG λj=>?_
 rw[Gv,mkT_get?,mkT_get?];have hl:(mkT n al).length=n:=by
  have:∀m i,(mkTF al m i).length=m:=by
   intro m
   induction m with
   |zero=>intro i;rfl
   |succ m ih=>intro i;simp[mkTF,ih]
  exact this n 0
 rw[hl];by_cases h:d=j
 ·subst h;simp[KY]
 ·have h':j≠d:=λe=>h e.symm
  simp[KY,h,h']
theorem mkT_ext {n:Nat}{T:List CV}{al:List (Nat×CV)}(hl:T.length=n)(h:∀j,j<n->T.getD j .un=KY al j):T=mkT n al:=by
 refine GG λj=>?_
 rw[mkT_get?];by_cases hj:j<n
 ·have:=h j hj;rw[Gc,Gb (by omega)]at this;rw[if_pos hj,<-this,Gb (by omega)];rfl
 ·rw[if_neg hj,Gh (by omega)]
theorem alook_zip:∀(l:List CV) (i j:Nat),i<=j->KY (zipA i l) j=l.getD (j-i) .un
 |[],i,j,_=>by simp[zipA,KY]
 |c::l,i,j,h=>by
  simp only[zipA,KY];by_cases e:j=i
  ·subst e;simp
  ·rw[if_neg e,alook_zip l (i+1) j (by omega),show j-i=(j-(i+1))+1 by omega,Hz]
theorem mkT_start {n:Nat}{args:List CV}(h:args.length<=n):args++GI (n-args.length) .un=mkT n (zipA 0 args):=by
 refine mkT_ext (by simp;omega) λj hj=>?_
 rw[alook_zip args 0 j (GD _),Nat.sub_zero];simp only[Gc];by_cases hl:j<args.length
 ·rw[Gu hl]
 ·rw[Gp (by omega),List.getElem?_replicate,Gh (l:=args) (by omega)]
  split <;> rfl
def Qj (al:List (Nat×CV)):List (Nat×CV)->Prop
 |[]=>True
 |p::l=>KY al p.1=p.2/\Qj al l
theorem JfC {al:List (Nat×CV)}:∀{l:List (Nat×CV)}(j:Nat),Qj al l->KY l j=.un\/KY al j=KY l j
 |[],j,_=>.inl rfl
 |p::l,j,h=>by
  simp only[KY]
  split
  ·rename_i e;subst e;exact .inr h.1
  ·exact JfC j h.2
theorem JR {n:Nat}{al l:List (Nat×CV)}(h:Qj al l):forget (mkT n al) (mkT n l):=by
 have:∀m i,forget (mkTF al m i) (mkTF l m i):=by
  intro m
  induction m with
  |zero=>intro i;trivial
  |succ m ih=>intro i;exact⟨JfC i h,ih (i+1)⟩
 exact this n 0
theorem QJ {id z n:Nat}{els:List (List CV)}{al:List (Nat×CV)}:JX id z els (mkT n al)=mkT n (al.map λp=>(p.1,frz id z els p.2)):=by
 have Dc:∀(al:List (Nat×CV)) i,frz id z els (KY al i)=KY (al.map λp=>(p.1,frz id z els p.2)) i:=by
  intro al i
  induction al with
  |nil=>rfl
  |cons p l ih=>
   simp only[KY,GK]
   split
   ·rfl
   ·exact ih
 have:∀m i,JX id z els (mkTF al m i)=mkTF (al.map λp=>(p.1,frz id z els p.2)) m i:=by
  intro m
  induction m with
  |zero=>intro i;rfl
  |succ m ih=>intro i;simp only[mkTF,JX,ih,Dc]
 exact this n 0
theorem QI {ρ:List Nat}{n:Nat}{al:List (Nat×CV)}:JB ρ (mkT n al)=mkT n (al.map λp=>(p.1,ren ρ p.2)):=by
 have Dc:∀(al:List (Nat×CV)) i,ren ρ (KY al i)=KY (al.map λp=>(p.1,ren ρ p.2)) i:=by
  intro al i
  induction al with
  |nil=>rfl
  |cons p l ih=>
   simp only[KY,GK]
   split
   ·rfl
   ·exact ih
 have:∀m i,JB ρ (mkTF al m i)=mkTF (al.map λp=>(p.1,ren ρ p.2)) m i:=by
  intro m
  induction m with
  |zero=>intro i;rfl
  |succ m ih=>intro i;simp only[mkTF,JB,ih,Dc]
 exact this n 0
section
variable {P:Program}{E:Env}{n0:Nat}{N:Fr}{Q:Exit->List CV->List CObj->Prop}{H:List CObj}{T:List CV}{k:List KItem}
theorem vr_fnS {f:Nat}{F:IFunc}{args:List CV}{R:CV->List CObj->Prop}(hF:Jf P f=some F)(hn:args.length<=F.ntmps)(h:∀n,vrun0 P E H.length ⟨n,false⟩ (retQ F.results R) [.code F.body] (mkT F.ntmps (zipA 0 args)) H):CallsC P E f args H R:=
 J8 hF λn=>by rw[mkT_start hn];exact h n
theorem Jae {f:Nat}{F:IFunc}{args:List CV}{v:CV}(hF:Jf P f=some F)(ha:Jp args=true)(hv:v.closed=true)(hn:args.length<=F.ntmps)(h:∀n,vrun0 P Env.none 0 ⟨n,false⟩ (retQ F.results λv' _=>v'=v) [.code F.body] (mkT F.ntmps (zipA 0 args)) []):Fn P f args v:=
 Jc hF ha hv λn=>by rw[mkT_start hn];exact h n
theorem YG {d:Option Nat}{g:Option (Nat×Bool)}{f:Nat}{as:List IArg}{l:List IOper}{args:List CV}{v:CV}(Ag:Fn P f args v)(ha:as.map (J7 T)=args)(hg:GOk T g)(h:Kn P E n0 N Q (.ops l::k) (put T d v) H):Ok P E n0 N Q (.ops (⟨d,.call f as,g⟩::l)::k) T H:=
 Kb hg (by rw[ha];exact Ag) h
theorem vr_fvS {d:Option Nat}{g:Option (Nat×Bool)}{x:IArg}{f:Nat}{l1 l2:List CV}{xs:List IArg}{l:List IOper}{args:List CV}{v:CV}{F:IFunc}(hF:Jf P f=some F) (EI:(P.funcs[f]?.map (·.name))≠some "runtime.NumGoroutine")
  (Ag:Fn P f (l1++args++l2) v) (hx:J7 T x=.fn f l1 l2) (ha:xs.map (J7 T)=args) (hg:GOk T g) (h:Kn P E n0 N Q (.ops l::k) (put T d v) H):Ok P E n0 N Q (.ops (⟨d,.callv x xs,g⟩::l)::k) T H:=
 vr_fv hg hx hF EI (by rw[ha];exact Ag) h
theorem vr_fgB {d:Option Nat}{g:Option (Nat×Bool)}{f:Nat}{as:List IArg}{l:List IOper}{b:Bool}(hg:GOk T g)(Ag:Fn P f (as.map (J7 T)) (.bool b))(h:∀B,b=B->Kn P E n0 N Q (.ops l::k) (put T d (.bool B)) H):Ok P E n0 N Q (.ops (⟨d,.call f as,g⟩::l)::k) T H:=Kb hg Ag (h b rfl)
theorem vr_fvSB {d:Option Nat}{g:Option (Nat×Bool)}{x:IArg}{f:Nat}{l1 l2:List CV}{xs:List IArg}{l:List IOper}{args:List CV}{b:Bool}{F:IFunc}(hF:Jf P f=some F) (EI:(P.funcs[f]?.map (·.name))≠some "runtime.NumGoroutine")
  (Ag:Fn P f (l1++args++l2) (.bool b)) (hx:J7 T x=.fn f l1 l2) (ha:xs.map (J7 T)=args) (hg:GOk T g) (h:∀B,b=B->Kn P E n0 N Q (.ops l::k) (put T d (.bool B)) H):Ok P E n0 N Q (.ops (⟨d,.callv x xs,g⟩::l)::k) T H:=
 vr_fvS hF EI Ag hx ha hg (h b rfl)
theorem Jey {T:List CV}:GOk T none:=.inl rfl
theorem gokS {T:List CV}{s:Nat}{want:Bool}(h:J7 T (.s s)=.bool want):GOk T (some (s,want)):=gok h
end
attribute [go_sem] mkT_get mkT_set KY zipA QJ QI Qj
theorem fcS {P:Program}{f:Nat}{F:IFunc}{args:List CV}{v:CV}(hF:Jf P f=some F)(h:∀n,vrun0 P Env.none 0 ⟨n,false⟩ (retQ F.results λv' _=>v'=v) [.code F.body] (mkT F.ntmps (zipA 0 args)) [])(ha:Jp args=true:=by rfl)(hv:v.closed=true:=by rfl)(hn:args.length<=F.ntmps:=by simp;decide):Fn P f args v:=Jae hF ha hv hn h
theorem vfS {P:Program}{E:Env}{H:List CObj}{f:Nat}{F:IFunc}{args:List CV}{R:CV->List CObj->Prop}(hF:Jf P f=some F)(h:∀n,vrun0 P E H.length ⟨n,false⟩ (retQ F.results R) [.code F.body] (mkT F.ntmps (zipA 0 args)) H)(hn:args.length<=F.ntmps:=by simp;decide):CallsC P E f args H R:=vr_fnS hF hn h
end
end Go.Cm
end
end
