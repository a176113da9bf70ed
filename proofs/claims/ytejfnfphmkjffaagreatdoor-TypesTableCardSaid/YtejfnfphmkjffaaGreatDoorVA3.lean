/-
  A part of the proof. Conditions: none.
-/
import Derived.Test.YtejfnfphmkjffaaGreatDoorVA1
import Derived.Orders
import Derived.RangeFuncRecord
import Derived.RowKit
import Derived.RowKit2
import Derived.RowKit3
import Derived.Carry
import Derived.Below
import Derived.ReadAgain
import Derived.ChangeSame
import Derived.WideShapes
import Derived.ChangeArms
import Derived.OpenShut
import Derived.ChangeCalls
set_option linter.unusedSimpArgs false
set_option linter.unusedVariables false
open Bool renaming and_eq_true->Ga,or_eq_true->GA,false_eq_true->GX,not_eq_true'->GY,true_or->GL,not_true->Hf,false_or->Hg,or_true->Hl
open Nat renaming le_refl->Gd,lt_of_lt_of_le->Gs,le_trans->Gt,zero_le->GD,lt_succ_self->GM,strongRecOn->GZ,zero_add->G5,lt_succ_of_lt->Hm,le_add_right->Ho,lt_or_ge->Hq
open Option renaming getD_some->Gn,map_some->G6,bind_eq_some_iff->Hr
open List renaming getElem?_eq_getElem->Gb,getD_eq_getElem?_getD->Gc,getElem?_eq_some_iff->Gg,getElem?_eq_none->Gh,getElem?_append_right->Gp,mem_of_getElem?->Gl,getElem?_append_left->Gu,getElem?_set->Gv,getElem?_map->Gw,length_cons->Gx,mem_cons->Gq,ext_getElem?->GG,mem_range->Gy,all_eq_true->GH,range->Gj,replicate->GI,contains_iff_mem->GN,eq_nil_of_length_eq_zero->G7,map_cons->GK,mem_map->GQ,not_mem_nil->G8,mem_filter->G9,length_nil->Ha,getElem?_cons_succ->Ht,set_append_right->Hu,mem_cons_of_mem->Hw,take_succ_cons->Hy,getD_cons_succ->Hz,getElem?_drop->HV,append_assoc->HY,reverse_nil->HZ,cons_append->H5,any_eq_true->H6,nil_append->H7,getD->Hd,take_zero->H8,drop_zero->H9,sum_cons->La
open Array renaming getElem?_eq_getElem->Gf,getD_eq_getD_getElem?->Gr,getElem?_eq_some_iff->Gz,replicate->Gm,getElem?_toList->GR,getElem?_push->GU,getElem?_replicate->He,toList_setIfInBounds->Lb
open Classical renaming byContradiction->Lc,choose_spec->Ld,choose->Le
open Option.some renaming injEq->GV
open Iff renaming rfl->Gi
open Prod.mk renaming injEq->GJ
noncomputable section
section
namespace Go.Cm
section
section
variable {P:Program}{E:Env}{n0:Nat}{N:Fr}{Q:Exit->List CV->List CObj->Prop}{H:List CObj}{T:List CV}
theorem retQ_ret {ts:List RVar}{R:CV->List CObj->Prop}:retQ ts R .ret T H=resK (Xu T H ts) R H:=rfl
theorem retQ_normal {ts:List RVar}{R:CV->List CObj->Prop}:retQ ts R .normal T H=resK (Xu T H ts) R H:=rfl
theorem resAll_tmp {t:Nat}{R:CV->List CObj->Prop}:resK (Xu T H [.tmp t]) R H=R (T.getD t .un) H:=by simp[Xu,Jdm,resK,Cond.holds]
theorem resAll_nil {R:CV->List CObj->Prop}:resK (Xu T H []) R H=R (.tup []) H:=by simp[Xu,resK,Cond.holds]
theorem resAll_tmp2 {t t':Nat}{R:CV->List CObj->Prop}:resK (Xu T H [.tmp t,.tmp t']) R H=R (.tup [T.getD t .un,T.getD t' .un]) H:=by simp[Xu,Jdm,resK,Cond.holds]
theorem resAll_tmp3 {t t' t'':Nat}{R:CV->List CObj->Prop}:resK (Xu T H [.tmp t,.tmp t',.tmp t'']) R H=R (.tup [T.getD t .un,T.getD t' .un,T.getD t'' .un]) H:=by simp[Xu,Jdm,resK,Cond.holds]
theorem put_some {d:Nat}{v:CV}:put T (some d) v=T.set d v:=rfl
theorem put_none {v:CV}:put T none v=T:=rfl
theorem aget_s {n:Nat}:Ka T (.s n)=T.getD n .un:=rfl
theorem aget_c {v:CV}:Ka T (.c v)=v:=rfl
theorem JeX {z b:Nat}:KU z b H .nils []=some (.tt,.nils,H):=rfl
theorem Jfp {z b id off len:Nat}{cap:Option Nat}:KU z b H (.slc id off len cap) []=some (.tt,.slc id off len cap,H):=rfl
theorem JeW {z b z':Nat}{els:List (List CV)}{cap:Option Nat}:KU z b H (.rslc z' els cap) []=some (.tt,.rslc z' els cap,H):=rfl
theorem Jhp {z bytes:Nat}{x0:List CV}{xs':List (List CV)}:KU z bytes H .nils (x0::xs')=some (Jy (x0::xs').length bytes,.slc H.length 0 (x0::xs').length none,H++[.arr z (x0::xs')]):=rfl
theorem Jho {z bytes z' c:Nat}{els:List (List CV)}{x0:List CV}{xs':List (List CV)}:KU z bytes H (.rslc z' els (some c)) (x0::xs')=if z'=z then some (.and (.le (c+1) (els.length+(x0::xs').length)) (Jy (els.length+(x0::xs').length) bytes),.slc H.length 0 (els.length+(x0::xs').length) none,H++[.arr z (els++(x0::xs'))]) else none:=rfl
theorem exAppend_slc {z bytes id off len:Nat}{cap:Option Nat}{x0:List CV}{xs':List (List CV)}:KU z bytes H (.slc id off len cap) (x0::xs')=match H[id]? with
   |some (.arr z' els)=>if z'=z/\off+len=els.length then
     match cap with
     |none=>some (Jy (len+(x0::xs').length) bytes,.slc H.length 0 (len+(x0::xs').length) none,(H.set id .dead)++[.arr z (els.drop off++(x0::xs'))])
     |some c=>some (.and (.le (c+1) (len+(x0::xs').length)) (Jy (len+(x0::xs').length) bytes),.slc H.length 0 (len+(x0::xs').length) none,H++[.arr z (els.drop off++(x0::xs'))])
    else if z'=z/\off+len<=els.length/\cap=none then
     some (Jy (len+(x0::xs').length) bytes,.slc H.length 0 (len+(x0::xs').length) none,(H.set id .dead)++[.arr z ((els.take (off+len)).drop off++(x0::xs'))])
    else none
   |_=>none:=rfl
theorem ite_true_eq {α:Type}{a b:α}:(if True then a else b)=a:=if_pos trivial
end
attribute [go_sem] vrun0_eq v_nil v_blk v_ops_nil v_op v_gop v_skip v_seq v_block v_cond v_ret v_exit v_reg v_loop v_dreg v_rfunc vres_some vres_none Cond.holds true_and and_true Bool.and_true Bool.true_and Bool.and_self if_true if_false ite_true_eq forall_const decide_true decide_false Hf Bool.not_false Bool.false_and Bool.and_false GL Hl Hg Bool.or_false eq_self reduceCtorEq decide_eq_true_eq decide_eq_false_iff_not Bool.true_eq_false GX false_implies true_implies implies_true not_true_eq_false not_false_eq_true false_and and_false and_self Nat.add_zero G5 Gd Int.toNat_natCast Int.natCast_zero or_false false_or or_true true_or G6 Option.map_none Gn Option.getD_none bne_self_eq_false beq_self_eq_true vcond_true vcond_false vguard_skip vguard_tt vguard_ff vguard_tf vguard_ft vexit_some vexit_none
 Jgm vloopQ_exit vloopQ_ret retQ_ret retQ_normal resAll_tmp resAll_nil resAll_tmp2 resAll_tmp3 resK Xu Jdm put_some put_none aget_s aget_c exec binI binK exBin JbB Ja6 XT exLen exHi exMx XR JeX Jfp JeW Jhp Jho exAppend_slc Ya QE XQ CV.cells CV.oneCell Q5 splice Jhr YE QL isKey XU
 List.getD_cons_zero Hz List.set_cons_zero List.set_cons_succ List.getElem?_cons_zero Ht GK List.map_nil H5 H7 Gx Ha Hy List.drop_succ_cons H8 H9 List.take_nil List.drop_nil List.replicate_succ List.replicate_zero
attribute [go_sem low] vcond_bool vguard_bool
attribute [go_sem_proc] Nat.reduceAdd Nat.reduceSub Nat.reduceMul Nat.reduceLeDiff Nat.reduceEqDiff Nat.reduceLT Nat.reduceBEq Int.reduceToNat Int.reduceAdd Int.reduceSub Int.reduceMul Int.reduceNeg Int.reduceLE Int.reduceLT Int.reduceEq Int.reduceBEq Int.reduceBNe reduceIte
end
section
mutual
def CV.closed:CV->Bool
 |.ptr _ _ _=>false
 |.slc _ _ _ _=>false
 |.map _=>false
 |.fn _ l1 l2=>Jm l1 && Jm l2
 |.iface _ c=>c.closed
 |.agg l=>Jm l
 |.tup l=>Jm l
 |_=>true
def Jm:List CV->Bool
 |[]=>true
 |c::cs=>c.closed && Jm cs
end
mutual
theorem Qi {own own':List Own}{imm:Nat->Nat->Option Value}:∀(c:CV) (v:Value),c.closed=true->rel own imm c v->rel own' imm c v
 |.un,_,_,_=>by simp only[rel]
 |.bool _,_,_,h=>by simp only[rel]at h|-;exact h
 |.int _ _,_,_,h=>by simp only[rel]at h|-;exact h
 |.str _,_,_,h=>by simp only[rel]at h|-;exact h
 |.nilp,_,_,h=>by simp only[rel]at h|-;exact h
 |.ptr _ _ _,_,hc,_=>by simp[CV.closed]at hc
 |.rptr _,_,_,h=>by simp only[rel]at h|-;exact h
 |.nils,_,_,h=>by simp only[rel]at h|-;exact h
 |.slc _ _ _ _,_,hc,_=>by simp[CV.closed]at hc
 |.rslc _ _ _,_,_,h=>by simp only[rel]at h|-;exact h
 |.nilm,_,_,h=>by simp only[rel]at h|-;exact h
 |.map _,_,hc,_=>by simp[CV.closed]at hc
 |.fn _ l1 l2,_,hc,h=>by
  simp only[rel]at h|-;simp only[CV.closed,Ga]at hc;obtain⟨vs1,vs2,e,h1,h2⟩:=h;exact⟨vs1,vs2,e,KO l1 _ hc.1 h1,KO l2 _ hc.2 h2⟩
 |.yld _,_,_,h=>by simp only[rel]at h|-;exact h
 |.nilf,_,_,h=>by simp only[rel]at h|-;exact h
 |.iface _ c,_,hc,h=>by
  simp only[rel]at h|-;simp only[CV.closed]at hc;obtain⟨r,e,h1⟩:=h;exact⟨r,e,Qi c _ hc h1⟩
 |.nili,_,_,h=>by simp only[rel]at h|-;exact h
 |.agg l,_,hc,h=>by
  simp only[rel]at h|-;simp only[CV.closed]at hc;obtain⟨vs,e,h1⟩:=h;exact⟨vs,e,KO l _ hc h1⟩
 |.tup l,_,hc,h=>by
  simp only[rel]at h|-;simp only[CV.closed]at hc;obtain⟨vs,e,h1⟩:=h;exact⟨vs,e,KO l _ hc h1⟩
theorem KO {own own':List Own}{imm:Nat->Nat->Option Value}:∀(l:List CV) (vs:List Value),Jm l=true->JS own imm l vs->JS own' imm l vs
 |[],vs,_,h=>by simp only[JS]at h|-;exact h
 |c::cs,vs,hc,h=>by
  simp only[JS]at h|-;simp only[Jm,Ga]at hc;obtain⟨r,rs,e,h1,h2⟩:=h;exact⟨r,rs,e,Qi c _ hc.1 h1,KO cs _ hc.2 h2⟩
end
def Jq:List (List CV)->Bool
 |[]=>true
 |e::es=>Jm e && Jq es
theorem Yi:∀{els:List (List CV)},Jq els=true->∀(j:Nat) e,els[j]? = some e->Jm e=true
 |[],_,j,e,h=>by simp at h
 |x::xs,hc,j,e,h=>by
  simp only[Jq,Ga]at hc
  cases j with
  |zero=>simp at h;subst h;exact hc.1
  |succ j=>exact Yi hc.2 j e (by simpa using h)
theorem Yx:∀{l:List CV},Jm l=true->∀(j:Nat) c,l[j]? = some c->c.closed=true
 |[],_,j,e,h=>by simp at h
 |x::xs,hc,j,e,h=>by
  simp only[Jm,Ga]at hc
  cases j with
  |zero=>simp at h;subst h;exact hc.1
  |succ j=>exact Yx hc.2 j e (by simpa using h)
mutual
def frz (id z:Nat)(els:List (List CV)):CV->CV
 |.slc j off len cap=>if j=id then(if off+len<=els.length then .rslc z ((els.drop off).take len) none else .un) else .slc j off len cap
 |.ptr j i off=>if j=id then .rptr ((els.getD i []).drop off) else .ptr j i off
 |.fn f l1 l2=>.fn f (JY id z els l1) (JY id z els l2)
 |.iface t c=>.iface t (frz id z els c)
 |.agg l=>.agg (JY id z els l)
 |.tup l=>.tup (JY id z els l)
 |c=>c
def JY (id z:Nat)(els:List (List CV)):List CV->List CV
 |[]=>[]
 |c::cs=>frz id z els c::JY id z els cs
end
def Qc (id z:Nat)(els:List (List CV)):CObj->CObj
 |.arr z' e=>.arr z' (e.map (JY id z els))
 |.map kvs=>.map (kvs.map λp=>(frz id z els p.1,frz id z els p.2))
 |o=>o
theorem JbX {id z:Nat}{els:List (List CV)}:∀(l:List CV),(JY id z els l).length=l.length
 |[]=>rfl
 |_::cs=>by simp[JY,JbX cs]
theorem Jhd {id z:Nat}{els:List (List CV)}:∀(l:List CV) (i:Nat),(JY id z els l)[i]? = (l[i]?).map (frz id z els)
 |[],_=>by simp[JY]
 |c::cs,0=>by simp[JY]
 |c::cs,i+1=>by simp[JY,Jhd cs i]
def Ky (id z:Nat)(els:List (List CV))(H:List CObj):List CObj:=(H.map (Qc id z els)).set id .dead
def JbD (imm:Nat->Nat->Option Value)(B:Nat)(cells:Array Value):Nat->Nat->Option Value:=λB' i=>if B'=B then cells[i]? else imm B' i
section
variable {E:Env}{n0:Nat}{m:Bk}{H:List CObj}{w:World}
theorem Jfk {own:List Own}{imm:Nat->Nat->Option Value}{z o:Nat}{els:List (List CV)}{R:Nat->Option Value}(h:relO own imm z els R o)(hc:Jq els=true):XC imm z els R o:=by
 rw[Qh];intro j e he;refine⟨(h j e he).1,λt c ht=>?_⟩;obtain⟨r,h1,h2⟩:=(h j e he).2 t c ht;exact⟨r,h1,Qi c r (Yx (Yi hc j e he) t c ht) h2⟩
theorem relEls_sub {imm:Nat->Nat->Option Value}{z o:Nat}{els:List (List CV)}{R:Nat->Option Value}(h:XC imm z els R o)(k n:Nat):XC imm z ((els.drop k).take n) R (o+k*z):=by
 rw[Qh]at h|-;intro j e hj;have IK:j<n:=by have:=(Gg.1 hj).1;simp at this;omega
 rw[List.getElem?_take_of_lt IK,HV]at hj;have:=h _ _ hj;rw[Nat.add_mul]at this;refine⟨this.1,λt c hc=>?_⟩;have:=this.2 t c hc;rw[show o+k*z+j*z+t=o+(k*z+j*z)+t by omega];exact this
mutual
theorem frz_rel {own:List Own}{imm imm':Nat->Nat->Option Value}{id z:Nat}{els:List (List CV)}{x:Own}(hi:Kw imm imm')(hx:own[id]? = some x)(hz:x.z=z)(hr:XC imm' z els (imm' x.B) x.o) :
  ∀(c:CV) (v:Value),rel own imm c v->rel own imm' (frz id z els c) v
 |.un,_,_=>by simp only[frz,rel]
 |.bool _,_,h=>by simp only[frz,rel]at h|-;exact h
 |.int _ _,_,h=>by simp only[frz,rel]at h|-;exact h
 |.str _,_,h=>by simp only[frz,rel]at h|-;exact h
 |.nilp,_,h=>by simp only[frz,rel]at h|-;exact h
 |.ptr j i off,v,h=>by
  simp only[frz];by_cases hj:j=id
  ·subst hj;simp only[rel]at h;obtain⟨x',Aq,rfl⟩:=h;rw[hx]at Aq;cases Aq;simp only[if_true,rel];refine⟨x.B,x.o+i*x.z+off,rfl,?_⟩;rw[Y1];intro t c ht;rw[HV]at ht
   cases he:els[i]? with
   |none=>simp[Hd,he]at ht
   |some e=>
    simp[Hd,he]at ht;obtain⟨r,h1,h2⟩:=((Qh _ _).1 hr i e he).2 _ _ ht;exact⟨r,by rw[hz];rw[show x.o+i*z+off+t=x.o+i*z+(off+t) by omega];exact h1,h2⟩
  ·rw[if_neg hj];exact Xg (KN.refl _) hi _ _ h
 |.rptr cs,v,h=>by
  simp only[frz];exact Xg (KN.refl _) hi _ _ h
 |.nils,_,h=>by simp only[frz,rel]at h|-;exact h
 |.slc j off len cap,v,h=>by
  simp only[frz];by_cases hj:j=id
  ·subst hj;rw[if_pos rfl];by_cases hl:off+len<=els.length
   ·rw[if_pos hl];simp only[rel]at h;obtain⟨x',a,c,Aq,rfl,C9,Bi,ha,A9⟩:=h;rw[hx]at Aq;cases Aq;have Ad:((els.drop off).take len).length=len:=by simp;omega
    simp only[rel];by_cases Dx:c=0
    ·subst Dx;have:len=0:=by omega
     subst this;exact .inl ⟨.inl trivial,by simp,_,rfl⟩
    ·refine .inr ⟨x.B,x.o+off*x.z,c,by rw[Ad,ha Dx],by rw[Ad];exact C9,by simp,?_⟩;rw[hz];exact relEls_sub hr off len
   ·rw[if_neg hl];simp only[rel]
  ·rw[if_neg hj];exact Xg (KN.refl _) hi _ _ h
 |.rslc z' e cap,v,h=>by
  simp only[frz];exact Xg (KN.refl _) hi _ _ h
 |.nilm,_,h=>by simp only[frz,rel]at h|-;exact h
 |.map _,_,h=>by simp only[frz,rel]at h|-;exact h
 |.fn f l1 l2,_,h=>by
  simp only[frz,rel]at h|-;obtain⟨vs1,vs2,e,h1,h2⟩:=h;exact⟨vs1,vs2,e,Jcu hi hx hz hr l1 _ h1,Jcu hi hx hz hr l2 _ h2⟩
 |.yld _,_,h=>by simp only[frz,rel]at h|-;exact h
 |.nilf,_,h=>by simp only[frz,rel]at h|-;exact h
 |.iface _ c,_,h=>by
  simp only[frz,rel]at h|-;obtain⟨r,e,h1⟩:=h;exact⟨r,e,frz_rel hi hx hz hr c _ h1⟩
 |.nili,_,h=>by simp only[frz,rel]at h|-;exact h
 |.agg l,_,h=>by
  simp only[frz,rel]at h|-;obtain⟨vs,e,h1⟩:=h;exact⟨vs,e,Jcu hi hx hz hr l _ h1⟩
 |.tup l,_,h=>by
  simp only[frz,rel]at h|-;obtain⟨vs,e,h1⟩:=h;exact⟨vs,e,Jcu hi hx hz hr l _ h1⟩
theorem Jcu {own:List Own}{imm imm':Nat->Nat->Option Value}{id z:Nat}{els:List (List CV)}{x:Own}(hi:Kw imm imm')(hx:own[id]? = some x)(hz:x.z=z)(hr:XC imm' z els (imm' x.B) x.o) :
  ∀(l:List CV) (vs:List Value),JS own imm l vs->JS own imm' (JY id z els l) vs
 |[],vs,h=>by simp only[JY,JS]at h|-;exact h
 |c::cs,vs,h=>by
  simp only[JY,JS]at h|-;obtain⟨r,rs,e,h1,h2⟩:=h;exact⟨r,rs,e,frz_rel hi hx hz hr c _ h1,Jcu hi hx hz hr cs _ h2⟩
end
theorem Jbs {id z:Nat}{els:List (List CV)}(o:CObj):(Qc id z els o).alive=o.alive:=by cases o <;> rfl
theorem Jat {id z k:Nat}{els:List (List CV)}{o:CObj}(h:(Ky id z els H)[k]? = some o):∃o0,H[k]? = some o0/\((k=id/\o=.dead)\/(k≠id/\o=Qc id z els o0)):=by
 simp only[Ky,Gv,List.length_map]at h
 split at h
 ·rename_i hk;subst hk
  split at h
  ·rename_i Ab;exact⟨H[id],Gb Ab,.inl ⟨rfl,(Option.some.inj h).symm⟩⟩
  ·cases h
 ·rename_i hk;rw[Gw]at h
  cases hH:H[k]? with
  |none=>simp[hH]at h
  |some o0=>simp[hH]at h;exact⟨o0,rfl,.inr ⟨λe=>hk e.symm,h.symm⟩⟩
theorem relO_frz {own:List Own}{imm imm':Nat->Nat->Option Value}{id z zz o:Nat}{els es:List (List CV)}{R:Nat->Option Value}(hf:∀c v,rel own imm c v->rel own imm' (frz id z els c) v)(h:relO own imm zz es R o):relO own imm' zz (es.map (JY id z els)) R o:=by
 intro j e he;rw[Gw]at he
 cases IR:es[j]? with
 |none=>simp[IR]at he
 |some e0=>
  simp[IR]at he;subst he;obtain⟨h1,h2⟩:=h j e0 IR;refine⟨by rw[JbX];exact h1,λt c hc=>?_⟩;rw[Jhd]at hc
  cases ht:e0[t]? with
  |none=>simp[ht]at hc
  |some c0=>
   simp[ht]at hc;subst hc;obtain⟨r,h3,h4⟩:=h2 t c0 ht;exact⟨r,h3,hf _ _ h4⟩
theorem Sim.freeze {id z:Nat}{els:List (List CV)}(hs:Sim E m H w)(hH:H[id]? = some (.arr z els))(hc:Jq els=true) :
  ∃imm',Sim E { m with imm:=imm' } (Ky id z els H) w/\Ext n0 m H w { m with imm:=imm' } (Ky id z els H) w/\∀c v,rel m.own m.imm c v->rel m.own imm' (frz id z els c) v:=by
 have Ab:id<m.own.length:=by rw[hs.len];exact(Gg.1 hH).1
 have hx:m.own[id]? = some m.own[id]:=Gb Ab;generalize m.own[id]=x at hx;obtain⟨hz,cells,elem,hb,BA,A9,AB,Bo⟩:=hs.obj id _ x hH hx;have hi:Kw m.imm (JbD m.imm x.B cells):=by
  intro B i v hv;simp only[JbD]
  split
  ·rename_i hB;subst hB;have:=hs.imm _ i v hv;simpa [World.cell?,hb]using this
  ·exact hv
 have Ao:XC (JbD m.imm x.B cells) z els (JbD m.imm x.B cells x.B) x.o:=by
  have h1:relO m.own (JbD m.imm x.B cells) x.z els (λi=>cells[i]?) x.o:=JaT (KN.refl _) hi AB;have h2:=Jfk h1 hc;rw[hz]at h2;have e:JbD m.imm x.B cells x.B=λi=>cells[i]?:=by funext i;simp[JbD]
  rw[e];exact h2
 have hf:∀c v,rel m.own m.imm c v->rel m.own (JbD m.imm x.B cells) (frz id z els c) v:=frz_rel hi hx hz Ao;have jh:x.B<w.heap.size:=(Gz.1 hb).1;refine⟨JbD m.imm x.B cells,⟨by simp[Ky,hs.len],λk o x' hk Aq=>?_,λB i v hv=>?_,λB i v hv=>?_,λk k' o o' x1 x2 h1 h2 Df Dl Be Bd hB=>?_,λk o x' hk ha Aq i hi=>?_,λk s b hk=>?_,λk o x' hk ha Aq=>?_,hs.extlt,hs.gl⟩,⟨Gd _,λ_ _ _=>rfl,hi,λB ho=>.inl ?_,λB i v hv=>?_,λ_ _ _ h=>h,λh=>h,rfl,rfl,rfl⟩,hf⟩
 ·obtain⟨o0,h0,hh⟩:=Jat hk;rcases hh with ⟨_,rfl⟩|⟨Ai,rfl⟩
  ·trivial
  ·have:=hs.obj k o0 x' h0 Aq
   cases o0 with
   |arr z' es=>
    obtain⟨a1,c,el,a2,a3,a4,a5,a6⟩:=this;exact⟨a1,c,el,a2,a3,by simpa using a4,relO_frz hf a5,a6⟩
   |map kvs=>
    obtain⟨es,clock,a1,a2,a3⟩:=this;refine⟨es,clock,a1,by simpa using a2,λi k v e hk he=>?_⟩;rw[Gw]at hk
    cases Cj:kvs[i]? with
    |none=>simp[Cj]at hk
    |some p=>
     simp[Cj]at hk;obtain⟨rfl,rfl⟩:=hk;have:=a3 i p.1 p.2 e Cj he;exact⟨hf _ _ this.1,hf _ _ this.2⟩
   |dead=>trivial
   |ext s b=>trivial
 ·simp only[JbD]at hv
  split at hv
  ·rename_i hB;subst hB;simpa [World.cell?,hb]using hv
  ·exact hs.imm B i v hv
 ·simp only[JbD]at hv
  split at hv
  ·exact Bo _ v hv
  ·exact hs.one B i v hv
 ·obtain⟨p1,q1,MG⟩:=Jat h1;obtain⟨p2,q2,gG⟩:=Jat h2;rcases MG with ⟨_,rfl⟩|⟨_,rfl⟩
  ·cases Df
  rcases gG with ⟨_,rfl⟩|⟨_,rfl⟩
  ·cases Dl
  rw[Jbs]at Df Dl;exact hs.sep k k' p1 p2 x1 x2 q1 q2 Df Dl Be Bd hB
 ·obtain⟨p1,q1,MG⟩:=Jat hk;rcases MG with ⟨_,rfl⟩|⟨Ai,rfl⟩
  ·cases ha
  rw[Jbs]at ha;have aT:x'.B≠x.B:=λe=>Ai (hs.sep k id p1 _ x' x q1 hH ha rfl Aq hx e)
  simp only[JbD,if_neg aT];exact hs.ro k p1 x' q1 ha Aq i hi
 ·obtain⟨p1,q1,MG⟩:=Jat hk;rcases MG with ⟨_,h⟩|⟨Ai,h⟩
  ·cases h
  have:p1=.ext s b:=by cases p1 <;> simp[Qc]at h;simp[h]
  subst this;refine E.stable _ _ _ _ _ _ _ (hs.ext k s b q1) (λ_ _=>rfl) (Gd _) hi (λB i v hv=>?_) (λB i v hv=>?_) (λB i v hv=>?_)
  ·simp only[JbD]at hv
   split at hv
   ·rename_i hB;subst hB;exact .inr λhb=>hs.extsep id _ x hH rfl hx (.inl hb)
   ·exact .inl hv
  ·simp only[JbD]at hv
   split at hv
   ·rename_i hB;subst hB;simpa [World.cell?,hb]using hv
   ·exact hs.imm B i v hv
  ·simp only[JbD]at hv
   split at hv
   ·exact Bo _ v hv
   ·exact hs.one B i v hv
 ·obtain⟨p1,q1,MG⟩:=Jat hk;rcases MG with ⟨_,rfl⟩|⟨Ai,rfl⟩
  ·cases ha
  rw[Jbs]at ha;exact hs.extsep k p1 x' q1 ha Aq
 ·rcases ho with h|⟨k,o,x',hk,ha,Aq,hB⟩
  ·exact .inl h
  ·obtain⟨p1,q1,MG⟩:=Jat hk;rcases MG with ⟨_,rfl⟩|⟨Ai,rfl⟩
   ·cases ha
   rw[Jbs]at ha;exact .inr ⟨k,p1,x',q1,ha,Aq,hB⟩
 ·simp only[JbD]at hv
  split at hv
  ·rename_i hB;subst hB;exact .inr (.inl (.inr ⟨id,_,x,hH,rfl,hx,rfl⟩))
  ·exact .inl hv
end
end
section
section
variable {P:Program}{E:Env}{n0:Nat}{N:Fr}{Q:Exit->List CV->List CObj->Prop}{H:List CObj}{T:List CV}{k:List KItem}
theorem ok_freeze {id z:Nat}{els:List (List CV)}(hH:H[id]? = some (.arr z els))(hc:Jq els=true)(h:Ok P E n0 N Q k (JY id z els T) (Ky id z els H)):Ok P E n0 N Q k T H:=by
 intro m w a b cs kr rest hp hd hk;obtain⟨imm',hs,he,hf⟩:=Sim.freeze (n0:=n0) hp.sim hH hc;have hT:JS m.own imm' (JY id z els T) a.tmps.toList:=by
  have ht:=hp.tmps;rw[XB]at ht|-;refine⟨by rw[JbX];exact ht.1,λi c v CU hv=>?_⟩;rw[Jhd]at CU
  cases aJ:T[i]? with
  |none=>simp[aJ]at CU
  |some c0=>simp[aJ]at CU;subst CU;exact hf _ _ (ht.2 i c0 v aJ hv)
 exact Reach.step (.refl _ _) he (h { m with imm:=imm' } w a b cs kr rest ⟨hs,hT,by simpa [Ky]using hp.long⟩ (hd.ext he) hk)
theorem CallsC.freeze {f:Nat}{args:List CV}{R R':CV->List CObj->Prop}(h:CallsC P E f args H R)(hR:∀v H',R v H'->∃id z els,H'[id]? = some (.arr z els)/\Jq els=true/\R' (frz id z els v) (Ky id z els H')):CallsC P E f args H R':=by
 intro m w vs hs hv;refine(h m w vs hs hv).mono ?_;rintro e w' ⟨r,m',v,H',h1,h2,h3,h4,h5⟩;obtain⟨id,z,els,g1,g2,g3⟩:=hR _ _ h5;obtain⟨imm',Az,he,hf⟩:=Sim.freeze (n0:=H.length) h3 g1 g2;exact⟨r,_,_,_,h1,h2.trans he,Az,hf _ _ h4,g3⟩
theorem Sim.back {m:Bk}{w w':World}{m':Bk}{H':List CObj}(hs:Sim E m H w)(Ae:Ext n0 { own:=[],imm:=m.imm,ext:=λ_=>False } [] w m' H' w')(Az:Sim Env.none m' H' w') :
  Sim E { m with imm:=m'.imm } H w'/\∀n1,Ext n1 m H w { m with imm:=m'.imm } H w':=by
 have BJ:∀B,¬owned { own:=[],imm:=m.imm,ext:=λ_=>False } [] B:=by
  rintro B (h|⟨k,o,x,hk,_⟩)
  ·exact h
  ·simp at hk
 have IM:∀B,B<w.heap.size->w'.heap[B]? = w.heap[B]?:=λB hB=>Ae.frame B hB (BJ B)
 have hi:Kw m.imm m'.imm:=Ae.imm;have DN:∀B i v,m'.imm B i=some v->m.imm B i=some v\/w.heap.size<=B:=λB i v hv=>by
  rcases Ae.newImm B i v hv with h|h|h
  ·exact .inl h
  ·exact absurd h (BJ B)
  ·exact .inr h
 refine⟨⟨hs.len,λk o x hk hx=>?_,Az.imm,Az.one,hs.sep,λk o x hk Am hx i Dm=>?_,λk s b hk=>?_,hs.extsep,λB hB=>Gs (hs.extlt B hB) Ae.size,Az.gl.1,hs.gl.2⟩,λn1=>⟨Ae.size,λB hB _=>IM B hB,hi,λB ho=>.inl ho,λB i v hv=>?_,λ_ _ _ h=>h,λh=>h,Ae.same⟩⟩
 ·by_cases Am:o.alive=true
  ·exact KD (KN.refl _) hi (λ_=>IM _ (Yf hs hk Am hx)) (hs.obj k o x hk hx)
  ·cases o <;> simp[CObj.alive]at Am <;> trivial
 ·cases hv:m'.imm x.B i with
  |none=>rfl
  |some v=>
   rcases DN _ _ _ hv with h|h
   ·rw[hs.ro k o x hk Am hx i Dm]at h;cases h
   ·have:=Yf hs hk Am hx;omega
 ·exact E.stable _ _ _ _ _ _ _ (hs.ext k s b hk) (λB hB=>IM B (hs.extlt B hB)) Ae.size hi (λB i v hv=>by
   rcases DN B i v hv with h|h
   ·exact .inl h
   ·exact .inr λhb=>by have:=hs.extlt B (.inl hb);omega) Az.imm Az.one
 ·rcases DN B i v hv with h|h
  ·exact .inl h
  ·exact .inr (.inr h)
theorem Sim.nothing {m:Bk}{w:World}(hs:Sim E m H w):Sim Env.none { own:=[],imm:=m.imm,ext:=λ_=>False } [] w:=
 ⟨rfl,by simp,hs.imm,hs.one,by simp,by simp,by simp,by simp,λB h=>hs.gl.1.lt (h.resolve_left id),hs.gl.1,by simp⟩
theorem CallsC.frame {f:Nat}{args:List CV}{R:CV->List CObj->Prop}{R':CV->Prop}(h:CallsC P Env.none f args [] R)(ha:Jm args=true)(hR:∀v H',R v H'->v.closed=true/\R' v):CallsC P E f args H λv H'=>R' v/\H'=H:=by
 intro m w vs hs hv;refine(h _ w vs hs.nothing (KO _ _ ha hv)).mono ?_;rintro e w' ⟨r,m',v,H',rfl,Ae,Az,Ao,Si⟩;obtain⟨Ay,iG⟩:=hR _ _ Si;obtain⟨h1,h2⟩:=hs.back Ae Az;exact⟨r,{ m with imm:=m'.imm },v,H,rfl,h2 _,h1,Qi v r Ay Ao,iG,rfl⟩
def Fn (P:Program)(f:Nat)(args:List CV)(v:CV):Prop:=∀(E:Env) (H:List CObj),Pure P E f args H v
theorem Jhf {f:Nat}{args:List CV}{v:CV}(h:CallsC P Env.none f args [] λv' _=>v'=v)(ha:Jm args=true)(hv:v.closed=true):Fn P f args v:=
 λE H=>h.frame ha λv' _ Pg=>by subst Pg;exact⟨hv,rfl⟩
theorem Ja {f:Nat}{F:IFunc}{args:List CV}{v:CV}(hF:Je P f=some F)(ha:Jm args=true)(hv:v.closed=true)(h:∀n,vrun0 P Env.none 0 ⟨n,false⟩ (retQ F.results λv' _=>v'=v) [.code F.body] (args++GI (F.ntmps-args.length) .un) []):Fn P f args v:=
 Jhf (Kc hF h) ha hv
theorem JV {d:Option Nat}{f:Nat}{as:List IArg}{l:List IOper}{v:CV}(Ah:Fn P f (as.map (Ka T)) v)(h:Ko P E n0 N Q (.ops l::k) (put T d v) H):Ok P E n0 N Q (.ops (⟨d,.call f as,none⟩::l)::k) T H:=
 JaI (Ah E H) h
theorem Kh {d:Option Nat}{g:Option (Nat×Bool)}{f:Nat}{as:List IArg}{l:List IOper}{v:CV}(hg:GOk T g)(Ah:Fn P f (as.map (Ka T)) v)(h:Ko P E n0 N Q (.ops l::k) (put T d v) H):Ok P E n0 N Q (.ops (⟨d,.call f as,g⟩::l)::k) T H:=
 vr_pureg hg (Ah E H) h
end
end
section
def IArg.rd:IArg->List Nat
 |.s n=>[n]
 |.c _=>[]
def rdL:List IArg->List Nat
 |[]=>[]
 |x::l=>x.rd++rdL l
def rdO:Option IArg->List Nat
 |none=>[]
 |some x=>x.rd
def rdP:List (Nat×Nat×IArg)->List Nat
 |[]=>[]
 |(_,_,x)::l=>x.rd++rdP l
def rdE:List (Nat×IArg)->List Nat
 |[]=>[]
 |(_,x)::l=>x.rd++rdE l
def IOp.rd:IOp->List Nat
 |.mv a=>a.rd
 |.pick c a b=>c.rd++(a.rd++b.rd)
 |.alloc _=>[]
 |.box a=>a.rd
 |.build _ ps=>rdP ps
 |.bslice _ _ _ ps=>rdE ps
 |.load _ _ a=>a.rd
 |.store _ a v=>a.rd++v.rd
 |.bin _ _ x y=>x.rd++y.rd
 |.eqs _ _ x y=>x.rd++y.rd
 |.not x=>x.rd
 |.neg x=>x.rd
 |.conv _ x=>x.rd
 |.mkfn _ l1 l2=>rdL l1++rdL l2
 |.mkmap=>[]
 |.mkslice _ _ _ l c=>l.rd++c.rd
 |.slice _ x lo hi mx=>x.rd++(rdO lo++(rdO hi++rdO mx))
 |.faddr _ x=>x.rd
 |.field _ _ _ x=>x.rd
 |.iaddr _ x i=>x.rd++i.rd
 |.indexS x i=>x.rd++i.rd
 |.lookup _ _ _ m k=>m.rd++k.rd
 |.mapset _ m k v=>m.rd++(k.rd++v.rd)
 |.len _ x=>x.rd
 |.append _ _ s x=>s.rd++x.rd
 |.clear _ x=>x.rd
 |.extract x _=>x.rd
 |.nchk x=>x.rd
 |.sliceS x lo hi=>x.rd++(rdO lo++rdO hi)
 |.mmx _ x y=>x.rd++y.rd
 |.copy _ x y=>x.rd++y.rd
 |.call _ as=>rdL as
 |.callv x as=>x.rd++rdL as
def agree (l:List Nat)(T T':List CV):Prop:=∀s∈l,T.getD s .un=T'.getD s .un
theorem Jj {a b:List Nat}{T T':List CV}(h:agree (a++b) T T'):agree a T T'/\agree b T T':=
 ⟨λs hs=>h s (by simp[hs]),λs hs=>h s (by simp[hs])⟩
theorem Js {x:IArg}{T T':List CV}(h:agree x.rd T T'):Ka T x=Ka T' x:=by
 cases x with
 |s n=>exact h n (by simp[IArg.rd])
 |c v=>rfl
theorem Xy {T T':List CV}:∀{l:List IArg},agree (rdL l) T T'->l.map (Ka T)=l.map (Ka T')
 |[],_=>rfl
 |x::l,h=>by
  simp only[rdL]at h;simp only[GK,Js (Jj h).1,Xy (Jj h).2]
theorem Jbg {T T':List CV}:∀{ps:List (Nat×Nat×IArg)}{c:List CV},agree (rdP ps) T T'->QE T c ps=QE T' c ps
 |[],_,_=>rfl
 |(off,n,x)::ps,c,h=>by
  simp only[rdP]at h;simp only[QE,Js (Jj h).1]
  split
  ·rfl
  ·split
   ·exact Jbg (Jj h).2
   ·rfl
theorem JcI {z:Nat}{T T':List CV}:∀{ps:List (Nat×IArg)}{c:List (List CV)},agree (rdE ps) T T'->XQ T z c ps=XQ T' z c ps
 |[],_,_=>rfl
 |(i,x)::ps,c,h=>by
  simp only[rdE]at h;simp only[XQ,Js (Jj h).1]
  split
  ·rfl
  ·split
   ·exact JcI (Jj h).2
   ·rfl
theorem Jb5 {d:Int}{x:Option IArg}{T T':List CV}(h:agree (rdO x) T T'):XT T d x=XT T' d x:=by
 cases x with
 |none=>rfl
 |some x=>simp only[XT,Js (T:=T) (T':=T') (x:=x) h]
theorem agree_hi {v:CV}{x:Option IArg}{T T':List CV}(h:agree (rdO x) T T'):exHi T v x=exHi T' v x:=by
 cases x with
 |none=>rfl
 |some x=>simp only[exHi,Js (T:=T) (T':=T') (x:=x) h]
theorem agree_mx {x:Option IArg}{T T':List CV}(h:agree (rdO x) T T'):exMx T x=exMx T' x:=by
 cases x with
 |none=>rfl
 |some x=>simp only[exMx,Js (T:=T) (T':=T') (x:=x) h]
theorem Qv {op:IOp}{T T':List CV}{H:List CObj}(h:agree op.rd T T'):exec op T H=exec op T' H:=by
 cases op <;> simp only[IOp.rd]at h <;> simp only[exec]
 case mv a=>rw[Js h]
 case pick c a b=>rw[Js (Jj h).1,Js (Jj (Jj h).2).1,Js (Jj (Jj h).2).2]
 case box a=>rw[Js h]
 case build z ps=>rw[Jbg h]
 case bslice z n zero ps=>rw[JcI h]
 case load=>rw[Js h]
 case store=>rw[Js (Jj h).1,Js (Jj h).2]
 case bin=>rw[Js (Jj h).1,Js (Jj h).2]
 case eqs=>rw[Js (Jj h).1,Js (Jj h).2]
 case not=>rw[Js h]
 case neg=>rw[Js h]
 case conv=>rw[Js h]
 case mkfn=>rw[Xy (Jj h).1,Xy (Jj h).2]
 case mkslice=>rw[Js (Jj h).1,Js (Jj h).2]
 case slice=>rw[Js (Jj h).1,Jb5 (Jj (Jj h).2).1,agree_hi (Jj (Jj (Jj h).2).2).1,agree_mx (Jj (Jj (Jj h).2).2).2]
 case faddr=>rw[Js h]
 case field=>rw[Js h]
 case iaddr=>rw[Js (Jj h).1,Js (Jj h).2]
 case indexS=>rw[Js (Jj h).1,Js (Jj h).2]
 case lookup=>rw[Js (Jj h).1,Js (Jj h).2]
 case mapset=>rw[Js (Jj h).1,Js (Jj (Jj h).2).1,Js (Jj (Jj h).2).2]
 case len=>rw[Js h]
 case append=>rw[Js (Jj h).1,Js (Jj h).2]
 case clear=>rw[Js h]
 case extract=>rw[Js h]
 case nchk=>rw[Js h]
 case sliceS x lo hi=>
  rw[Js (Jj h).1]
  split
  ·rw[Jb5 (Jj (Jj h).2).1,Jb5 (Jj (Jj h).2).2]
  ·rfl
 case mmx=>rw[Js (Jj h).1,Js (Jj h).2]
 case copy=>rw[Js (Jj h).1,Js (Jj h).2]
def FV (op:IOp)(T:List CV)(v:CV):Prop:=
 Jm (op.rd.map λs=>T.getD s .un)=true/\v.closed=true/\∃c v0 H0 id z els,exec op T []=some (c,v0,H0)/\c.holds/\H0[id]? = some (.arr z els)/\Jq els=true/\v=frz id z els v0
theorem FV.congr {op:IOp}{T T':List CV}{v:CV}(h:agree op.rd T T')(hv:FV op T v):FV op T' v:=by
 obtain⟨h1,h2,c,v0,H0,id,z,els,h3,h4⟩:=hv;refine⟨?_,h2,c,v0,H0,id,z,els,by rw[<-Qv h];exact h3,h4⟩;rw[<-h1]
 congr 1
 exact List.map_congr_left λs hs=>(h s hs).symm
def IOper.rd (io:IOper):List Nat:=(match io.guard with|some (g,_)=>[g]|none=>[])++io.op.rd
section
variable (P:Program)(E:Env)
def Val (io:IOper)(T:List CV)(H:List CObj)(v:CV):Prop:=
 (∃g want,io.guard=some (g,want)/\(T.getD g .un=.bool (!want)\/T.getD g .un=.tup [])/\v=.tup [])\/
 (GOk T io.guard/\((∃c,exec io.op T H=some (c,v,H)/\c.holds)\/(∃f as,io.op=.call f as/\Pure P E f (as.map (Ka T)) H v)\/FV io.op T v))
end
section
variable {P:Program}{E:Env}{n0:Nat}{N:Fr}{Q:Exit->List CV->List CObj->Prop}{H:List CObj}{T T':List CV}{k:List KItem}{io:IOper}{v:CV}
theorem Val.congr (h:agree io.rd T T')(hv:Val P E io T H v):Val P E io T' H v:=by
 obtain⟨d,op,g⟩:=io;have hg:=(Jj h).1;have ho:=(Jj h).2;rcases hv with ⟨s,want,h1,h2,h3⟩|⟨h1,h2⟩
 ·simp only at h1;subst h1;exact .inl ⟨s,want,rfl,by rw[<-hg s (by simp)];exact h2,h3⟩
 ·refine .inr ⟨?_,?_⟩
  ·rcases h1 with h1|⟨s,want,h1,h4⟩
   ·exact .inl h1
   ·simp only at h1;subst h1;exact .inr ⟨s,want,rfl,by rw[<-hg s (by simp)];exact h4⟩
  ·rcases h2 with ⟨c,h5,h6⟩|⟨f,as,h5,h6⟩|h5
   ·exact .inl ⟨c,by rw[<-Qv ho];exact h5,h6⟩
   ·simp only at h5;subst h5;exact .inr (.inl ⟨f,as,rfl,by rw[<-Xy ho];exact h6⟩)
   ·exact .inr (.inr (h5.congr ho))
def Jcj (rd:List Nat)(T:List CV):Nat->List CV
 |0=>[]
 |n+1=>Jcj rd T n++[if rd.contains n then T.getD n .un else .un]
theorem XO (rd:List Nat)(T:List CV):∀n,(Jcj rd T n).length=n
 |0=>rfl
 |n+1=>by simp[Jcj,XO rd T n]
theorem Jc1 (rd:List Nat)(T:List CV):∀n i,i<n->(Jcj rd T n)[i]? = some (if rd.contains i then T.getD i .un else .un)
 |n+1,i,h=>by
  rw[Jcj];by_cases hi:i<n
  ·rw[Gu (by rw[XO];exact hi)];exact Jc1 rd T n i hi
  ·have:i=n:=by omega
   subst this;rw[Gp (by rw[XO];exact Gd _),XO,Nat.sub_self];rfl
theorem onlyAt_agree (rd:List Nat)(T:List CV):agree rd T (Jcj rd T T.length):=by
 intro s hs;by_cases h:s<T.length
 ·have h1:=Jc1 rd T T.length s h;have h2:rd.contains s=true:=by simpa using hs
  rw[h2,if_pos rfl]at h1;simp only[Gc,h1,Gn]
 ·have h1:(Jcj rd T T.length)[s]? = none:=Gh (by rw[XO];omega);have h2:T[s]? = none:=Gh (by omega);simp only[Gc,h1,h2]
theorem onlyAt_rels {rd:List Nat}{T:List CV}{vs:List Value}{own own':List Own}{imm:Nat->Nat->Option Value}(hc:Jm (rd.map λs=>T.getD s .un)=true)(h:JS own imm T vs):JS own' imm (Jcj rd T T.length) vs:=by
 rw[XB]at h|-;refine⟨by rw[XO];exact h.1,λi c v CU hv=>?_⟩;have hi:i<T.length:=by have:=(Gg.1 CU).1;rwa [XO]at this
 rw[Jc1 rd T _ i hi]at CU
 cases CU
 by_cases hm:rd.contains i=true
 ·rw[if_pos hm];refine Qi _ _ ?_ (h.2 i _ v (by rw[Gb hi,Gc,Gb hi];rfl) hv);have AC:i∈rd:=by simpa using hm
  obtain⟨j,hj⟩:=List.getElem?_of_mem (List.mem_map_of_mem (f:=λs=>T.getD s .un) AC);exact Yx hc j _ hj
 ·rw[if_neg hm];simp only[rel]
theorem ok_fv {d:Option Nat}{op:IOp}{g:Option (Nat×Bool)}{l:List IOper}(hg:GOk T g)(hv:FV op T v)(h:Ok P E n0 N Q (.ops l::k) (put T d v) H):Ok P E n0 N Q (.ops (⟨d,op,g⟩::l)::k) T H:=by
 obtain⟨Ay,dW,c,v0,H0,id,z,els,he,hc,hH,aA,dV⟩:=hv;intro m w a b cs kr rest hp hd hk;obtain⟨ops,i,is,kr',o,rfl,ho,E5,AA⟩:=Jbp hk;obtain⟨hw,Cc,AY⟩:=JaH E5 hg hp.tmps;have bE:Pre Env.none 0 { own:=[],imm:=m.imm,ext:=λ_=>False } [] w (Jcj op.rd T T.length) a:=⟨hp.sim.nothing,onlyAt_rels Ay hp.tmps,GD _⟩;obtain⟨m1,w1,r,nx,Ag,Dp,Ae,CX,Ao,_⟩:=Jf9 AY (by rw[<-Qv (onlyAt_agree op.rd T)];exact he) hc bE;obtain⟨imm',Az,Ch,hf⟩:=Sim.freeze (n0:=0) CX hH aA;obtain⟨g1,g2⟩:=hp.sim.back (Ae.trans Ch) Az;have hr:=Qi (own':=m.own) v r dW (by rw[dV];exact hf _ _ Ao);have Al:=JcR (b:=b) (cs:=cs) (is:=is) (kr:=kr'++rest) ho hw (semAt_plain AY) Ag Dp;rw[Cc]at Al;refine Reach.step (.one Al) (g2 n0) (h _ w1 _ b cs (.inRegion ops is::kr') rest (JcX g1 (KM (KN.refl _) (Ae.trans Ch).imm _ _ hp.tmps) hp.long hr) ?_ AA);rw[put_defers];exact hd.ext (g2 n0)
theorem Val.ok {l:List IOper}(hv:Val P E io T H v)(h:Ok P E n0 N Q (.ops l::k) (put T io.dst v) H):Ok P E n0 N Q (.ops (io::l)::k) T H:=by
 obtain⟨d,op,g⟩:=io;rcases hv with ⟨s,want,h1,h2,h3⟩|⟨h1,h2⟩
 ·subst h3;exact Jes h1 h2 h
 ·rcases h2 with ⟨c,h5,h6⟩|⟨f,as,h5,h6⟩|h5
  ·exact Jet h1 h5 h6 h
  ·simp only at h5;subst h5;exact Jeu h1 h6 λv' H' ⟨hv,hH⟩=>by rw[hv,hH];exact h
  ·exact ok_fv h1 h5 h
end
end
section
def Xb (l:List IOper)(i:Nat):IOper:=l.getD i ⟨none,.mv (.c .un),none⟩
inductive Sched (n:Nat)(es:List (List Nat)):(Nat->Bool)->List Nat->Prop
 |nil {S:Nat->Bool}:(∀i,i<n->S i=false->∃e∈es.getD i [],S e=false)->Sched n es S []
 |cons {S:Nat->Bool} {i:Nat} {is:List Nat}:i<n->S i=false->(∀e∈es.getD i [],S e=true)->Sched n es (λj=>S j || j == i) is->Sched n es S (i::is)
theorem edges_get {ops:Array Oper}{i:Nat}{o:Oper}(h:ops[i]? = some o):(ops.toList.map Ja7).getD i []=Ja7 o:=by
 have:ops.toList[i]? = some o:=by simpa using h
 simp[Hd,this]
theorem Jeo {o:Oper}{listed:Array Bool}:(o.after.all λe=>!Region.binds .any e || listed.getD e.on false)=true↔∀e∈Ja7 o,listed.getD e false=true:=by
 rw[Array.all_eq_true_iff_forall_mem];unfold Ja7
 constructor
 ·intro h e he;simp only[GQ,G9]at he;obtain⟨x,⟨h1,h2⟩,rfl⟩:=he;have:=h x (by simpa using h1);simpa [h2]using this
 ·intro h x hx;by_cases hb:Region.binds .any x=true
  ·have:=h x.on (by simp only[GQ,G9];exact⟨x,⟨by simpa using hx,hb⟩,rfl⟩);simpa [hb]using this
  ·simp[hb]
theorem listed_set {listed:Array Bool}{i:Nat}(hi:i<listed.size):(λj=>(listed.setIfInBounds i true).getD j false)=λj=>listed.getD j false || j == i:=by
 funext j
 simp only[Gr,Array.getElem?_setIfInBounds];by_cases h:i=j
 ·subst h;simp[hi]
 ·have:(j == i)=false:=by simpa using λe=>h e.symm
  simp[h,this]
theorem JgF (ops:Array Oper):∀(fuel t:Nat) (listed:Array Bool),listed.size=ops.size->listed.toList.count false<=fuel->
  Sched ops.size (ops.toList.map Ja7) (λi=>listed.getD i false) (Region.linearise.go .any ops fuel t listed []):=by
 intro fuel
 induction fuel with
 |zero=>
  intro t listed hs hc;simp only[Region.linearise.go,HZ];refine .nil λi hi hS=>?_
  have Ab:i<listed.size:=by omega
  have:listed.toList.count false=0:=by omega
  rw[List.count_eq_zero]at this;have hm:listed[i]∈listed.toList:=by simp
  have:listed[i]≠false:=λe=>this (e▸hm)
  simp only[Gr,Gf Ab,Gn]at hS;exact absurd hS this
 |succ fuel ih=>
  intro t listed hs hc;simp only[Region.linearise.go];generalize CY:(Gj ops.size).filter (λi=>!listed.getD i true && ((ops[i]?).map (·.after.all λe=>!Region.binds .any e || listed.getD e.on false)).getD false)=rs;have AC:∀i,i∈rs↔i<ops.size/\listed.getD i false=false/\∀e∈(ops.toList.map Ja7).getD i [],listed.getD e false=true:=by
   intro i;rw[<-CY,G9,Gy]
   constructor
   ·rintro⟨h1,h2⟩;simp only[Ga,GY]at h2;have ho:ops[i]? = some ops[i]:=Gf h1;have hl:listed[i]? = some (listed[i]'(by omega)):=Gf (by omega);refine⟨h1,?_,?_⟩
    ·have:=h2.1;simp only[Gr,hl,Gn]at this|-;exact this
    ·rw[edges_get ho];have:=h2.2;simp only[ho,G6,Gn]at this;exact Jeo.1 this
   ·rintro⟨h1,h2,h3⟩;have ho:ops[i]? = some ops[i]:=Gf h1;have hl:listed[i]? = some (listed[i]'(by omega)):=Gf (by omega);refine⟨h1,?_⟩;simp only[Ga,GY];refine⟨?_,?_⟩
    ·simp only[Gr,hl,Gn]at h2|-;exact h2
    ·simp only[ho,G6,Gn];rw[edges_get ho]at h3;exact Jeo.2 h3
  cases hi:rs[t % rs.length]? with
  |none=>
   have AZ:rs=[]:=by
    cases hr:rs with
    |nil=>rfl
    |cons x xs=>
     rw[hr]at hi;have Ab:t % (x::xs).length<(x::xs).length:=Nat.mod_lt _ (by simp);rw[Gb Ab]at hi
     cases hi
   simp only[HZ];refine .nil λi hi hS=>?_
   refine Lc λhn=>?_
   have:i∈rs:=(AC i).2 ⟨hi,hS,λe he=>by
    cases h:listed.getD e false with
    |true=>rfl
    |false=>exact absurd ⟨e,he,h⟩ hn⟩
   rw[AZ]at this;cases this
  |some i=>
   simp only;rw[linearise_go_acc,List.reverse_singleton,List.singleton_append];obtain⟨h1,h2,h3⟩:=(AC i).1 (Gl hi);refine .cons h1 h2 h3 ?_;have Ab:i<listed.size:=by omega
   have:=ih (t / rs.length) (listed.setIfInBounds i true) (by simpa using hs) (by
    have Db:=List.count_set (a:=true) (b:=false) (l:=listed.toList) (i:=i) (by simpa using Ab);simp only[Lb,Db];have:listed.toList[i]'(by simpa using Ab)=false:=by
     simp only[Gr,Gf Ab,Gn]at h2;simpa using h2
    have e1:(listed.toList[i]'(by simpa using Ab) == false)=true:=by rw[this];rfl
    have e2:(true == false)=false:=rfl;have e3:listed.toList.count false<=fuel+1:=hc;rw[if_pos e1,e2];simp only[GX,if_false];omega)
   rwa [listed_set Ab]at this
def tst (l:List IOper)(v:Nat->CV)(T:List CV):Nat->List CV
 |0=>T
 |j+1=>put (tst l v T j) (Xb l j).dst (v j)
def ordered (l:List IOper)(es:List (List Nat)):Bool:=
 (Gj l.length).all λj=>(es.getD j []).all (λe=>e<j) && (Gj l.length).all λi=>i == j || match (Xb l i).dst with
  |none=>true
  |some s=>!((Xb l j).dst == some s) && (!((Xb l j).rd.contains s) || (es.getD j []).contains i || (es.getD i []).contains j)
structure Ordered (l:List IOper)(es:List (List Nat)):Prop where
 lt:∀j,j<l.length->∀e∈es.getD j [],e<j
 uniq:∀i j s,i<l.length->j<l.length->(Xb l i).dst=some s->(Xb l j).dst=some s->i=j
 ord:∀i j s,i<l.length->j<l.length->i≠j->(Xb l i).dst=some s->s∈(Xb l j).rd->i∈es.getD j []\/j∈es.getD i []
theorem Jci {l:List IOper}{es:List (List Nat)}(h:ordered l es=true):Ordered l es:=by
 simp only[ordered,GH,Gy,Ga,decide_eq_true_eq]at h;refine⟨λj hj=>(h j hj).1,λi j s hi hj h1 h2=>?_,λi j s hi hj Ai h1 h2=>?_⟩
 ·have:=(h j hj).2 i hi;rw[h1]at this;by_cases he:i=j
  ·exact he
  ·simp[he,h2]at this
 ·have:=(h j hj).2 i hi;rw[h1]at this;simp only[GA,beq_iff_eq,Ai,false_or,Ga,GN,GY]at this;rcases this.2 with (h3|h3)|h3
  ·have:=GN.2 h2;rw[this]at h3;cases h3
  ·exact .inl h3
  ·exact .inr h3
theorem JfG {T:List CV}{d:Option Nat}{v:CV}:(put T d v).length=T.length:=by cases d <;> simp[put]
theorem YX {l:List IOper}{v:Nat->CV}{T:List CV}:∀j,(tst l v T j).length=T.length
 |0=>rfl
 |j+1=>by rw[tst,JfG,YX j]
theorem JdN {T:List CV}{d:Option Nat}{v:CV}{s:Nat}:(put T d v).getD s .un=if d=some s/\s<T.length then v else T.getD s .un:=by
 cases d with
 |none=>simp[put]
 |some d=>
  simp only[put,Gc,Gv,GV];by_cases h:d=s
  ·subst h;by_cases hl:d<T.length <;> simp[hl]
  ·simp[h]
theorem JaL {l:List IOper}{v:Nat->CV}{T:List CV}{s:Nat}:∀j,(∀i,i<j->(Xb l i).dst≠some s)->(tst l v T j).getD s .un=T.getD s .un
 |0,_=>rfl
 |j+1,h=>by
  rw[tst,JdN,if_neg (λhh=>h j (GM j) hh.1)];exact JaL j λi hi=>h i (Hm hi)
theorem tst_at {l:List IOper}{v:Nat->CV}{T:List CV}{s i:Nat}(hd:(Xb l i).dst=some s)(hs:s<T.length):∀j,i<j->(∀i',i' < j->(Xb l i').dst=some s->i'=i)->(tst l v T j).getD s .un=v i
 |0,h,_=>by omega
 |j+1,h,hu=>by
  rw[tst,JdN,YX];by_cases hj:(Xb l j).dst=some s
  ·have:=hu j (GM j) hj;subst this;rw[if_pos ⟨hj,hs⟩]
  ·rw[if_neg (λhh=>hj hh.1)];have:i≠j:=λe=>hj (e▸hd)
   exact tst_at hd hs j (by omega) λi' Da=>hu i' (Hm Da)
structure At (l:List IOper)(v:Nat->CV)(T:List CV)(S:Nat->Bool)(T':List CV):Prop where
 len:T'.length=T.length
 out:∀s,(∀i,i<l.length->S i=true->(Xb l i).dst≠some s)->T'.getD s .un=T.getD s .un
 inn:∀i s,i<l.length->S i=true->(Xb l i).dst=some s->s<T.length->T'.getD s .un=v i
section
variable {P:Program}{E:Env}{n0:Nat}{N:Fr}{Q:Exit->List CV->List CObj->Prop}{H:List CObj}{T T':List CV}{k:List KItem}{l:List IOper}{es:List (List Nat)}{v:Nat->CV}
theorem At.agree (ho:Ordered l es){S:Nat->Bool}(hA:At l v T S T')(Ay:∀i,i<l.length->S i=true->∀e∈es.getD i [],S e=true){j:Nat}(hj:j<l.length)(hS:S j=false)(hr:∀e∈es.getD j [],S e=true):agree (Xb l j).rd (tst l v T j) T':=by
 intro s hs;by_cases Ab:s<T.length
 ·by_cases Ej:∃i,i<l.length/\(Xb l i).dst=some s
  ·obtain⟨i,hi,hd⟩:=Ej;have hu:∀i',i' < l.length->(Xb l i').dst=some s->i'=i:=λi' Da Dw=>ho.uniq i' i s Da hi Dw hd
   rcases Nat.lt_trichotomy i j with h|h|h
   ·have AQ:i∈es.getD j []:=by
     rcases ho.ord i j s hi hj (by omega) hd hs with h1|h1
     ·exact h1
     ·have:=ho.lt i hi j h1;omega
    rw[hA.inn i s hi (hr i AQ) hd Ab];exact tst_at hd Ab j h λi' Da Dw=>hu i' (by omega) Dw
   ·subst h;rw[hA.out s λi' Da Ur Dw=>by have:=hu i' Da Dw;subst this;rw[hS]at Ur;cases Ur];exact JaL i λi' Da Dw=>by have:=hu i' (by omega) Dw;omega
   ·have AQ:j∈es.getD i []:=by
     rcases ho.ord i j s hi hj (by omega) hd hs with h1|h1
     ·have:=ho.lt j hj i h1;omega
     ·exact h1
    rw[hA.out s λi' Da Ur Dw=>by
     have:=hu i' Da Dw;subst this;have:=Ay i' Da Ur j AQ;rw[hS]at this;cases this]
    exact JaL j λi' Da Dw=>by have:=hu i' (by omega) Dw;omega
  ·rw[hA.out s λi hi _ hd=>Ej ⟨i,hi,hd⟩];exact JaL j λi hi hd=>Ej ⟨i,by omega,hd⟩
 ·have e1:(tst l v T j).getD s .un=.un:=by
   rw[Gc,Gh (by rw[YX];omega)];rfl
  have e2:T'.getD s .un=.un:=by
   rw[Gc,Gh (by rw[hA.len];omega)];rfl
  rw[e1,e2]
theorem At.step (ho:Ordered l es){S:Nat->Bool}(hA:At l v T S T'){j:Nat}(hj:j<l.length)(hS:S j=false):At l v T (λi=>S i || i == j) (put T' (Xb l j).dst (v j)):=by
 refine⟨by rw[JfG,hA.len],λs hs=>?_,λi s hi ED hd Ab=>?_⟩
 ·rw[JdN,if_neg (λhh=>hs j hj (by simp) hh.1)];exact hA.out s λi hi ED=>hs i hi (by simp[ED])
 ·rw[JdN,hA.len];by_cases Cw:i=j
  ·subst Cw;rw[if_pos ⟨hd,Ab⟩]
  ·rw[if_neg λhh=>Cw (ho.uniq i j s hi hj hd hh.1)];have:S i=true:=by simpa [Cw]using ED
   exact hA.inn i s hi this hd Ab
theorem At.all (ho:Ordered l es){S:Nat->Bool}(hA:At l v T S T')(hS:∀i,i<l.length->S i=true):T'=tst l v T l.length:=by
 apply GG;intro s;by_cases Ab:s<T.length
 ·have key:T'.getD s .un=(tst l v T l.length).getD s .un:=by
   by_cases Ej:∃i,i<l.length/\(Xb l i).dst=some s
   ·obtain⟨i,hi,hd⟩:=Ej;rw[hA.inn i s hi (hS i hi) hd Ab];exact(tst_at hd Ab _ hi λi' Da Dw=>ho.uniq i' i s Da hi Dw hd).symm
   ·rw[hA.out s λi hi _ hd=>Ej ⟨i,hi,hd⟩];exact(JaL _ λi hi hd=>Ej ⟨i,hi,hd⟩).symm
  have h1:s<T'.length:=by rw[hA.len];exact Ab
  have h2:s<(tst l v T l.length).length:=by rw[YX];exact Ab
  rw[Gb h1,Gb h2];simpa [Gc,Gb h1,Gb h2]using key
 ·rw[Gh (by rw[hA.len];omega),Gh (by rw[YX];omega)]
theorem any_order (ho:Ordered l es)(hv:∀j,j<l.length->Val P E (Xb l j) (tst l v T j) H (v j))(AL:Ok P E n0 N Q k (tst l v T l.length) H){S:Nat->Bool}{is:List Nat}(h:Sched l.length es S is) :
  ∀T',(∀i,i<l.length->S i=true->∀e∈es.getD i [],S e=true)->At l v T S T'->Ok P E n0 N Q (.ops (is.map (Xb l))::k) T' H:=by
 induction h with
 |nil hn=>
  rename_i S;intro T' Ay hA;have Ak:∀i,i<l.length->S i=true:=by
   intro i
   induction i using GZ with
   |_ i ih=>
    intro hi
    cases hS:S i with
    |true=>rfl
    |false=>
     obtain⟨e,he,Og⟩:=hn i hi hS;have Ab:=ho.lt i hi e he;have:=ih e Ab (by omega);rw[this]at Og;cases Og
  rw[hA.all ho Ak];exact Jbq AL
 |cons hi hS hr _ ih=>
  rename_i S i is Cu;intro T' Ay hA;refine Val.ok ((hv i hi).congr (hA.agree ho Ay hi hS hr)) (ih _ (λj hj aK e he=>?_) (hA.step ho hi hS));simp only[GA,beq_iff_eq]at aK|-;rcases aK with h|h
  ·exact .inl (Ay j hj h e he)
  ·subst h;exact .inl (hr e he)
theorem ok_dreg (hm:P.follows .mixedOrders=true)(AP:ordered l es=true)(hv:∀j,j<l.length->Val P E (Xb l j) (tst l v T j) H (v j))(AL:Ok P E n0 N Q k (tst l v T l.length) H):Ok P E n0 N Q (.code (.dreg l es)::k) T H:=by
 intro m w a b cs kr rest hp hd hk;simp only[Yz]at hk;obtain⟨c',kr',rfl,hc,AA⟩:=hk;obtain⟨id,ops,rfl,h1,rfl⟩:=Jg3 hc;obtain⟨hl,hg⟩:=XH _ _ h1;have CB:ops.size=l.length:=by simpa using hl.symm
 have Bv:=JgF ops ops.size (w.tape w.drawn (.order b.fn id)) (Gm ops.size false) (by simp) (by simp);have Al:=stepR_region_draw (P:=P) (b:=b) (a:=a) (k:=kr'++rest) (cs:=cs) (w:=w) (ops:=ops) (id:=id);simp only[Region.schedule,hm,GL,if_true,Region.linearise]at Al;generalize Region.linearise.go .any ops ops.size (w.tape w.drawn (.order b.fn id)) (Gm ops.size false) []=is at Bv Al;have F7:(λi=>(Gm ops.size false).getD i false)=λ_=>false:=by
  funext i
  simp only[Gr,He]
  split <;> rfl
 rw[F7,CB]at Bv;have Dr:∀i∈is,i<l.length:=by
  clear Al;generalize (λ_=>false:Nat->Bool)=S at Bv
  induction Bv with
  |nil _=>intro i hi;cases hi
  |cons h _ _ _ ih=>
   intro i hi;exact(Gq.1 hi).elim (λh'=>by subst h';exact h) (ih i)
 have Ag:=any_order (n0:=n0) (N:=N) (Q:=Q) (k:=k) (Jci AP) hv AL Bv T (λ_ _ h=>by cases h) ⟨rfl,λ_ _=>rfl,λ_ _ _ h=>by cases h⟩;have Az:Sim E m H { w with drawn:=w.drawn+1 }:=hp.sim.congr rfl;have hx:Ext n0 m H w m H { w with drawn:=w.drawn+1 }:=Ext.congr rfl ⟨rfl,rfl,rfl⟩;refine Reach.step (.one Al) hx (Ag m _ a b cs (.inRegion ops is::kr') rest ⟨Az,hp.tmps,hp.long⟩ (hd.ext hx) ?_);simp only[Yz];refine⟨ops,is,kr',rfl,⟨by simp,λj i hj=>?_⟩,AA⟩;have hi:=Dr i (Gl hj);obtain⟨io,h2,h3⟩:=hg i (ops[i]'(by omega)) (by simp);exact⟨ops[i]'(by omega),io,Gf (by omega),by simp[hj,Xb,Gc,h2],h3⟩
end
end
section
def heapy:IOp->Bool
 |.bslice _ _ _ _=>true
 |.box _=>true
 |_=>false
def dexec (op:IOp)(T:List CV)(H:List CObj):Option (Cond×CV×List CObj):=if heapy op then none else exec op T H
section
variable (P:Program)(E:Env)(n0:Nat)(N:Fr)(Q:Exit->List CV->List CObj->Prop)
def vdr (k:List KItem):List IOper->List CV->List CObj->Prop
 |[],T,H=>Ko P E n0 N Q k T H
 |⟨d,op,none⟩::l,T,H=>match dexec op T H with
  |some (c,v,H')=>H'=H/\c.holds/\vdr k l (put T d v) H
  |none=>∃v,Val P E ⟨d,op,none⟩ T H v/\vdr k l (put T d v) H
 |⟨d,op,some (s,want)⟩::l,T,H=>match T.getD s .un with
  |.bool t=>(t=want->match dexec op T H with
   |some (c,v,H')=>H'=H/\c.holds/\vdr k l (put T d v) H
   |none=>∃v,Val P E ⟨d,op,some (s,want)⟩ T H v/\vdr k l (put T d v) H)/\(t=(!want)->vdr k l (put T d (.tup [])) H)
  |.tup []=>vdr k l (put T d (.tup [])) H
  |_=>False
def vdrC (k:List KItem)(io:IOper)(l:List IOper)(T:List CV)(H:List CObj):Prop:=∃v,Val P E io T H v/\vdr P E n0 N Q k l (put T io.dst v) H
def vdrR (r:Option (Cond×CV×List CObj))(d:Option Nat)(op:IOp)(g:Option (Nat×Bool))(k:List KItem)(l:List IOper)(T:List CV)(H:List CObj):Prop:=
 match r with
 |some (c,v,H')=>H'=H/\c.holds/\vdr P E n0 N Q k l (put T d v) H
 |none=>vdrC P E n0 N Q k ⟨d,op,g⟩ l T H
end
section
variable {P:Program}{E:Env}{n0:Nat}{N:Fr}{Q:Exit->List CV->List CObj->Prop}{H H':List CObj}{T:List CV}{k:List KItem}{l:List IOper}{es:List (List Nat)}
theorem vd_nil:vdr P E n0 N Q k [] T H=Ko P E n0 N Q k T H:=propext Gi
theorem vd_op {d:Option Nat}{op:IOp}:vdr P E n0 N Q k (⟨d,op,none⟩::l) T H=vdrR P E n0 N Q (dexec op T H) d op none k l T H:=propext Gi
theorem vd_gop {d:Option Nat}{op:IOp}{s:Nat}{want:Bool}:vdr P E n0 N Q k (⟨d,op,some (s,want)⟩::l) T H=Xz (T.getD s .un) want (vdrR P E n0 N Q (dexec op T H) d op (some (s,want)) k l T H) (vdr P E n0 N Q k l (put T d (.tup [])) H):=propext Gi
theorem vdrR_some {d:Option Nat}{op:IOp}{g:Option (Nat×Bool)}{c:Cond}{v:CV}:vdrR P E n0 N Q (some (c,v,H')) d op g k l T H=(H'=H/\c.holds/\vdr P E n0 N Q k l (put T d v) H):=propext Gi
theorem vdrR_none {d:Option Nat}{op:IOp}{g:Option (Nat×Bool)}:vdrR P E n0 N Q none d op g k l T H=vdrC P E n0 N Q k ⟨d,op,g⟩ l T H:=propext Gi
theorem vdr_look {T':List CV}{H':List CObj}(hT:T=T')(hH:H=H'):vdr P E n0 N Q k l T H=vdr P E n0 N Q k l T' H':=by rw[hT,hH]
theorem vdrR_look {r r':Option (Cond×CV×List CObj)}{d:Option Nat}{op:IOp}{g:Option (Nat×Bool)}(h:r=r'):vdrR P E n0 N Q r d op g k l T H=vdrR P E n0 N Q r' d op g k l T H:=by rw[h]
attribute [congr] vdr_look vdrR_look
theorem vdr_vals:∀(l:List IOper) (T:List CV),vdr P E n0 N Q k l T H->∃v:Nat->CV,(∀j,j<l.length->Val P E (Xb l j) (tst l v T j) H (v j))/\Ko P E n0 N Q k (tst l v T l.length) H
 |[],T,h=>⟨λ_=>.un,by simp,h⟩
 |io::l,T,h=>by
  have Ej:∃v0,Val P E io T H v0/\vdr P E n0 N Q k l (put T io.dst v0) H:=by
   obtain⟨d,op,g⟩:=io;have cs:∀g,GOk T g->vdrR P E n0 N Q (dexec op T H) d op g k l T H->∃v0,Val P E ⟨d,op,g⟩ T H v0/\vdr P E n0 N Q k l (put T d v0) H:=by
    intro g hg h;unfold vdrR at h
    split at h
    ·rename_i c v H' he;obtain⟨rfl,hc,h⟩:=h;have EC:exec op T H'=some (c,v,H'):=by
      unfold dexec at he
      split at he
      ·cases he
      ·exact he
     exact⟨v,.inr ⟨hg,.inl ⟨c,EC,hc⟩⟩,h⟩
    ·exact h
   cases g with
   |none=>rw[vd_op]at h;exact cs none (.inl rfl) h
   |some g=>
    obtain⟨s,want⟩:=g;rw[vd_gop]at h;unfold Xz at h
    split at h
    ·rename_i t ht;by_cases Ey:t=want
     ·exact cs _ (.inr ⟨s,want,rfl,by rw[ht,Ey]⟩) (h.1 Ey)
     ·have e:t = !want:=by cases t <;> cases want <;> simp_all
      exact⟨.tup [],.inl ⟨s,want,rfl,.inl (by rw[ht,e]),rfl⟩,h.2 e⟩
    ·rename_i ht;exact⟨.tup [],.inl ⟨s,want,rfl,.inr ht,rfl⟩,h⟩
    ·exact h.elim
  obtain⟨v0,h1,h2⟩:=Ej;obtain⟨v,h3,h4⟩:=vdr_vals l _ h2
  let v':Nat->CV:=λj=>match j with|0=>v0|j+1=>v j
  have key:∀j,tst (io::l) v' T (j+1)=tst l v (put T io.dst v0) j:=by
   intro j
   induction j with
   |zero=>rfl
   |succ j ih=>rw[tst,ih];rfl
  refine⟨v',λj hj=>?_,?_⟩
  ·cases j with
   |zero=>exact h1
   |succ j=>rw[key];exact h3 j (by simpa using hj)
  ·rw[Gx,key];exact h4
theorem JW (hm:P.follows .mixedOrders=true)(AP:ordered l es=true)(h:vdr P E n0 N Q k l T H):Ok P E n0 N Q (.code (.dreg l es)::k) T H:=by
 obtain⟨v,h1,h2⟩:=vdr_vals l T h;exact ok_dreg hm AP h1 (JA _ _ _ h2)
theorem Kb {d:Option Nat}{g:Option (Nat×Bool)}{f:Nat}{as:List IArg}{v:CV}(hg:GOk T g)(Ah:Fn P f (as.map (Ka T)) v)(h:vdr P E n0 N Q k l (put T d v) H):vdrC P E n0 N Q k ⟨d,.call f as,g⟩ l T H:=
 ⟨v,.inr ⟨hg,.inr (.inl ⟨f,as,rfl,Ah E H⟩)⟩,h⟩
end
attribute [go_sem] dexec heapy
attribute [go_sem] vd_nil vd_op vd_gop vdrR_some vdrR_none
end
section
structure Went (bs:Nat->Prop)(imm:Nat->Nat->Option Value)(w:World)(bs':Nat->Prop)(imm':Nat->Nat->Option Value)(w':World):Prop where
 size:w.heap.size<=w'.heap.size
 frame:∀B,B<w.heap.size->¬bs B->w'.heap[B]? = w.heap[B]?
 grow:Kw imm imm'
 newImm:∀B i v,imm' B i=some v->imm B i=some v\/bs B\/w.heap.size<=B
 newBs:∀B,bs' B->bs B\/w.heap.size<=B
 bslt:∀B,bs' B->B<w'.heap.size
 valid:∀B i v,imm' B i=some v->w'.cell? ⟨B,i,none⟩=some v
 one:∀B i v,imm' B i=some v->v.oneCell'=true
 same:w'.os=w.os/\w'.output=w.output/\w'.tape=w.tape
def Jff (P:Program)(E:Env)(l:Nat)(xs:List (List CV)):Prop:=
 ∀s bs imm w x (vs:Array Value),E.X s true bs imm w->(∀B i v,imm B i=some v->w.cell? ⟨B,i,none⟩=some v)->(∀B i v,imm B i=some v->v.oneCell'=true)->(∀B,bs B->B<w.heap.size)->xs[s]? = some x->JS [] imm x vs.toList->
  ∃fn tmps assign body,(Instr.yield l vs).run P w=.ok (.round l fn tmps assign body) w/\
   RoundIn (WF none) 0 P l fn tmps assign body w λe w'=>∃b bs' imm',e=.returned (.bool b)/\E.X (s+1) b bs' imm' w'/\Went bs imm w bs' imm' w'
section
variable {P:Program}{E:Env}{n0:Nat}{N:Fr}{Q:Exit->List CV->List CObj->Prop}{H:List CObj}{T:List CV}{k:List KItem}{b:Frame}{cs:List Frame}{m:Bk}{w:World}
theorem Sim.went {bs':Nat->Prop}{imm':Nat->Nat->Option Value}{w':World}{i s s':Nat}{c c':Bool}(hs:Sim E m H w)(hH:H[i]? = some (.ext s c))(hu:∀k s b,H[k]? = some (.ext s b)->k=i)(hx:E.X s' c' bs' imm' w')(hw:Went m.ext m.imm w bs' imm' w') :
  Sim E { own:=m.own,imm:=imm',ext:=bs' } (H.set i (.ext s' c')) w'/\Ext n0 m H w { own:=m.own,imm:=imm',ext:=bs' } (H.set i (.ext s' c')) w':=by
 have Ab:i<H.length:=(Gg.1 hH).1;have key:∀(k:Nat) o,(H.set i (.ext s' c'))[k]? = some o->(k=i/\o=.ext s' c')\/(k≠i/\H[k]? = some o):=by
  intro k o hk;rw[Gv]at hk
  split at hk
  ·rename_i e;subst e;simp[]at hk;exact .inl ⟨rfl,hk.symm⟩
  ·rename_i e;exact .inr ⟨λh=>e h.symm,hk⟩
 have alive:∀(k:Nat) o,(H.set i (.ext s' c'))[k]? = some o->o.alive=true->H[k]? = some o:=by
  intro k o hk ha;rcases key k o hk with ⟨_,rfl⟩|⟨_,h⟩
  ·cases ha
  ·exact h
 have notbs:∀(k:Nat) o x,H[k]? = some o->o.alive=true->m.own[k]? = some x->¬bs' x.B:=by
  intro k o x hk ha hx hb;rcases hw.newBs _ hb with h|h
  ·exact hs.extsep k o x hk ha hx (.inl h)
  ·have:=Yf hs hk ha hx;omega
 refine⟨⟨by simp[hs.len],λk o x hk hx=>?_,hw.valid,hw.one,λk k' o o' x x' hk AA ha AX hx Aq hB=>hs.sep k k' o o' x x' (alive _ _ hk ha) (alive _ _ AA AX) ha AX hx Aq hB,λk o x hk ha hx j hj=>?_,λk t d hk=>?_,λk o x hk ha hx h=>h.elim (notbs k o x (alive _ _ hk ha) ha hx) (λh=>hs.extsep k o x (alive _ _ hk ha) ha hx (.inr h)),λB hB=>hB.elim (hw.bslt B) (λhB=>Gs (hs.gl.1.lt hB) hw.size),hs.gl.1.mono λB hB=>hw.frame B (hs.gl.1.lt hB) (λh=>hs.gl.2 B h hB),λB hB h=>(hw.newBs B hB).elim (λh1=>hs.gl.2 B h1 h) (λh1=>by have:=hs.gl.1.lt h;omega)⟩,
  ⟨hw.size,λB hB hn=>hw.frame B hB λh=>hn (.inl h),hw.grow,λB ho=>?_,λB j v hv=>?_,λ_ _ _ h=>h,λh=>h,hw.same⟩⟩
 ·rcases key k o hk with ⟨_,rfl⟩|⟨_,h⟩
  ·trivial
  ·by_cases ha:o.alive=true
   ·exact KD (KN.refl _) hw.grow (λ_=>hw.frame _ (Yf hs h ha hx) (λhb=>hs.extsep k o x h ha hx (.inl hb))) (hs.obj k o x h hx)
   ·cases o <;> simp[CObj.alive]at ha <;> trivial
 ·cases hv:imm' x.B j with
  |none=>exact hv
  |some v=>
   have h:=alive _ _ hk ha;rcases hw.newImm _ _ _ hv with h1|h1|h1
   ·rw[hs.ro k o x h ha hx j hj]at h1;cases h1
   ·exact absurd (.inl h1) (hs.extsep k o x h ha hx)
   ·have:=Yf hs h ha hx;omega
 ·rcases key k _ hk with ⟨_,h⟩|⟨Ai,h⟩
  ·cases h;exact hx
  ·exact absurd (hu _ _ _ h) Ai
 ·rcases ho with h|⟨k,o,x,hk,ha,hx,hB⟩
  ·rcases hw.newBs _ h with h1|h1
   ·exact .inl (.inl h1)
   ·exact .inr h1
  ·exact .inl (.inr ⟨k,o,x,alive _ _ hk ha,ha,hx,hB⟩)
 ·rcases hw.newImm _ _ _ hv with h1|h1|h1
  ·exact .inl h1
  ·exact .inr (.inl (.inl h1))
  ·exact .inr (.inr h1)
theorem step_round {ops:Array Oper}{i:Nat}{is:List Nat}{o:Oper}{a:Act}{kr:List Item}{l fn:Nat}{tmps:Array Value}{assign body:Code}{R:Ending->World->Prop}(ho:ops[i]? = some o)(hw:Region.wanted o (yielded ops a.tmps)=true)(Iu:o.semAt b.roundOf a.eval=execOp a.eval o)(Ag:(execOp a.eval o).run P w=.ok (.round l fn tmps assign body) w)
  (Ah:RoundIn (WF none) 0 P l fn tmps assign body w R) (hR:∀e w',R e w'->∃r,e=.returned r):∃r w',R (.returned r) w'/\Steps P (lone (b.atR a (.inRegion ops (i::is)::kr)) cs w) (lone (b.atR (a.put o.dst r) (.inRegion ops is::kr)) cs w'):=by
 have hg:=stepGR_op (P:=P) (b:=b) (k:=kr) (cs:=cs) (w:=w) (rest:=is) ho hw;rw[Iu]at hg;have AL:∀v,(b.atR a (.inRegion ops (i::is)::kr)).finish v=b.atR (a.put o.dst v) (.inRegion ops is::kr):=by
  intro v;rw[Frame.finish_atR,ho];rfl
 obtain⟨e,w'',Sk,Bj⟩:=Ah.2 (b.atR a (.inRegion ops (i::is)::kr)) cs (Jej _ _);have Dv:Go.step P (lone (b.atR a (.inRegion ops (i::is)::kr)) cs w)=.next (lone (Frame.round l fn tmps assign body .normal) (b.atR a (.inRegion ops (i::is)::kr)::cs) w):=
  step_lone_go (by rw[hg];simp[stepG.apply,Ag,Frame.atR])
 obtain⟨r,rfl⟩:=hR e w'' Sk;refine⟨r,w'',Sk,.head Dv ?_⟩;rw[<-AL];exact StepsIn.steps Bj
theorem ok_yield {d:Option Nat}{g:Option (Nat×Bool)}{x:IArg}{l i s:Nat}{as:List IArg}{lst:List IOper}{xs:List (List CV)}(hg:GOk T g)(hx:Ka T x=.yld l)(hy:Jff P E l xs)(hH:H[i]? = some (.ext s true))(hu:∀k s b,H[k]? = some (.ext s b)->k=i)
  (Fa:xs[s]? = some (as.map (Ka T))) (Ay:Jm (as.map (Ka T))=true) (h:∀c,Ok P E n0 N Q (.ops lst::k) (put T d (.bool c)) (H.set i (.ext (s+1) c))):Ok P E n0 N Q (.ops (⟨d,.callv x as,g⟩::lst)::k) T H:=by
 intro m w a b cs kr rest hp hd hk;obtain⟨ops,j,is,kr',o,rfl,ho,E5,AA⟩:=Jbp hk;obtain⟨hw,Cc,AY⟩:=JaH E5 hg hp.tmps;obtain⟨cl,xo,Pm,Ci,PD,has⟩:=JfU AY;have hr:=JJ (a:=a) hp.tmps PD;rw[hx]at hr;simp only[rel]at hr;obtain⟨fn,tmps,assign,body,Ag,Cn⟩:=hy s m.ext m.imm w _ (cl.args.map a.eval) (hp.sim.ext i s true hH) hp.sim.imm hp.sim.one (λB hB=>hp.sim.extlt B (.inl hB)) Fa (KO _ _ Ay (by simpa using Jby hp.tmps has));have P8:(execOp a.eval o).run P w=.ok (.round l fn tmps assign body) w:=by
  simp only[execOp,Pm,resolve,Ci,hr,Deferred.ofValue,Sem.run_bind,Sem.run_pure,Result.andThen_ok,invoke];simpa using Ag
 obtain⟨r,w',⟨c,bs',imm',he,hX,MN⟩,Bj⟩:=step_round (b:=b) (cs:=cs) (is:=is) (kr:=kr'++rest) ho hw (semAt_plain AY) P8 Cn (λe w' ⟨c,_,_,h,_⟩=>⟨_,h⟩)
 cases he
 rw[Cc]at Bj;obtain⟨CX,Ae⟩:=Sim.went (n0:=n0) hp.sim hH hu hX MN;refine Reach.step Bj Ae (h c _ w' _ b cs (.inRegion ops is::kr') rest (JcX CX (KM (KN.refl _) MN.grow _ _ hp.tmps) (by simpa using hp.long) (by simp[rel])) ?_ AA);rw[put_defers];exact hd.ext Ae
end
end
section
def pset:List CV->List Nat->List CV->List CV
 |T,p::ps,c::cs=>pset (T.set p c) ps cs
 |T,[],_=>T
 |T,_,[]=>T
theorem pset_rels {own:List Own}{imm:Nat->Nat->Option Value}:∀(ps:List Nat) (cs:List CV) (vs:List Value) (T:List CV) (tmps:Array Value),JS own imm T tmps.toList->JS own imm cs vs->
  JS own imm (pset T ps cs) ((ps.zip vs).foldl (λ(t:Array Value) (p:Nat×Value)=>t.setIfInBounds p.1 p.2) tmps).toList
 |[],cs,vs,T,tmps,h,_=>by cases cs <;> simpa [pset]using h
 |p::ps,[],vs,T,tmps,h,hc=>by simp only[JS]at hc;subst hc;simpa [pset]using h
 |p::ps,c::cs,vs,T,tmps,h,hc=>by
  simp only[JS]at hc;obtain⟨r,rs,rfl,h1,h2⟩:=hc;simp only[pset,List.zip_cons_cons,List.foldl_cons];refine pset_rels ps cs rs _ _ ?_ h2;rw[Lb];exact rels_set h p h1
section
variable {P:Program}{E:Env}{n0:Nat}{N:Fr}{Q:Exit->List CV->List CObj->Prop}{H:List CObj}{T:List CV}{k:List KItem}{m:Bk}{w:World}
theorem Sim.grow (hs:Sim E m H w){imm':Nat->Nat->Option Value}{w':World}(hf:∀B,owned m H B\/B<gN->w'.heap[B]? = w.heap[B]?)(BA:w.heap.size<=w'.heap.size)(hi:Kw m.imm imm')(hn:∀B i v,imm' B i=some v->m.imm B i=some v\/¬owned m H B)
  (hv:∀B i v,imm' B i=some v->w'.cell? ⟨B,i,none⟩=some v) (h1:∀B i v,imm' B i=some v->v.oneCell'=true):Sim E { own:=m.own,imm:=imm',ext:=m.ext } H w':=by
 refine⟨hs.len,λk o x hk hx=>?_,hv,h1,hs.sep,λk o x hk ha hx i Dm=>?_,λk s b hk=>?_,hs.extsep,λB hB=>Gs (hs.extlt B hB) BA,hs.gl.1.mono λB hB=>hf B (.inr hB),hs.gl.2⟩
 ·by_cases ha:o.alive=true
  ·exact KD (KN.refl _) hi (λ_=>hf _ (.inl (.inr ⟨k,o,x,hk,ha,hx,rfl⟩))) (hs.obj k o x hk hx)
  ·cases o <;> simp[CObj.alive]at ha <;> trivial
 ·cases hv:imm' x.B i with
  |none=>exact hv
  |some v=>
   rcases hn _ _ _ hv with h|h
   ·rw[hs.ro k o x hk ha hx i Dm]at h;cases h
   ·exact absurd (.inr ⟨k,o,x,hk,ha,hx,rfl⟩) h
 ·exact E.stable _ _ _ _ _ _ _ (hs.ext k s b hk) (λB hB=>hf B (hB.imp_left .inl)) BA hi (λB i v hv=>(hn B i v hv).imp_right λh hb=>h (.inl hb)) hv h1
def OutX (P:Program)(E:Env)(n0:Nat)(N:Fr)(Q:Exit->List CV->List CObj->Prop)(k:List KItem)(T:List CV)(I:Nat->List CObj->Prop)(own0:List Own)(imm0:Nat->Nat->Option Value)(n1 L D:Nat)(rc:LoopState->Option Code->Loop)(s:Nat)(b:Bool)(bs:Nat->Prop)(imm:Nat->Nat->Option Value)(w:World):Prop:=
 ∃(own:List Own) (ex:Nat->Prop) (Hs:List CObj),Sim E ⟨own,imm,ex⟩ Hs w/\(∀B,owned ⟨own,imm,ex⟩ Hs B->bs B)/\bs L/\bs D/\¬owned ⟨own,imm,ex⟩ Hs L/\¬owned ⟨own,imm,ex⟩ Hs D/\w.heap[D]? = some (.deferred (some []))/\
  KN own0 own/\Kw imm0 imm/\n1<=Hs.length/\
  (b=true->I s Hs/\w.heap[L]? = some (.loop (rc .ready none)))/\(b=false->∃c ic,JC P c=some ic/\Ok P E n0 N Q (.code ic::k) T Hs/\w.heap[L]? = some (.loop (rc .done (some c))))
def OutE (P:Program)(E:Env)(n0:Nat)(N:Fr)(Q:Exit->List CV->List CObj->Prop)(k:List KItem)(T:List CV)(I:Nat->List CObj->Prop)(own0:List Own)(imm0:Nat->Nat->Option Value)(n1 L D:Nat)(rc:LoopState->Option Code->Loop):Env where
 X:=OutX P E n0 N Q k T I own0 imm0 n1 L D rc
 stable:=by
  rintro s b bs imm imm' w w' ⟨own,ex,Hs,h1,h2,h3,h4,h5,h6,h7,h8,h9,EE,UA,Uz⟩ hf BA hi hn hv ho;refine⟨own,ex,Hs,h1.grow (λB hB=>hf B (hB.imp_left (h2 B))) BA hi (λB i v hv=>(hn B i v hv).imp_right λh hb=>h (h2 B hb)) hv ho,h2,h3,h4,h5,h6,(hf D (.inl h4)).trans h7,h8,h9.trans hi,EE,λhb=>⟨(UA hb).1,(hf L (.inl h3)).trans (UA hb).2⟩,λhb=>?_⟩;obtain⟨c,ic,a1,a2,a3⟩:=Uz hb;exact⟨c,ic,a1,a2,(hf L (.inl h3)).trans a3⟩
def Iter (P:Program)(g:Nat)(l1 l2:List CV)(xs:List (List CV)):Prop:=
 ∀E l,Jff P E l xs->CallsC P E g (l1 ++ .yld l::l2) [.ext 0 true] λ_ H'=>H'[0]? = some (.ext xs.length true)\/∃s,H'[0]? = some (.ext s false)
def asgQ (K:List CV->List CObj->Prop):Exit->List CV->List CObj->Prop
 |.normal,T,H=>K T H
 |_,_,_=>False
def roundQ (P:Program)(E:Env)(n0:Nat)(N:Fr)(Q:Exit->List CV->List CObj->Prop)(k:List KItem)(T:List CV)(I:List CObj->Prop):Exit->List CV->List CObj->Prop
 |.normal,_,H=>I H
 |.ret,_,H=>Ok P E n0 N Q (.code .ret::k) T H
 |.exit id,_,H=>Ok P E n0 N Q (.code (.exit id)::k) T H
 |_,_,_=>False
theorem fenced_eq (ro:Option Nat):(Machine.fenced P (WF none))=Machine.fenced P (WF ro):=by
 funext mm
 exact propext ⟨λ_=>Ja5 P ro mm,λ_=>Ja5 P none mm⟩
theorem JfV (l:Nat):(WF none).inRound l=WF (some l):=rfl
theorem round_ok {ps:List Nat}{x y:ICode}{ca cb:Code}{xs:List (List CV)}{I:Nat->List CObj->Prop}{own0:List Own}{imm0:Nat->Nat->Option Value}{tmps:Array Value}{fn L D:Nat}(aB:JC P ca=some x)(Fz:JC P cb=some y)(Ru:own0.length=H.length)(hT:JS own0 imm0 T tmps.toList)
  (Fa:∀c∈xs,c.length=ps.length) (Cn:∀s Hs c,I s Hs->xs[s]? = some c->Ok P E H.length ⟨0,true⟩ (asgQ λT2 H2=>Ok P E H.length ⟨0,true⟩ (roundQ P E n0 N Q k T (I (s+1))) [.code y] T2 H2) [.code x] (pset T ps c) Hs) :
  Jff P (OutE P E n0 N Q k T I own0 imm0 H.length L D λst pe=>{ state:=st,pending:=pe,fn,tmps,params:=ps.toArray,assign:=ca,body:=cb,defers:=D }) L xs:=by
 intro s bs imm w xv vs hX FE Bo IW hx hr;obtain⟨own,ex,Hs,h1,h2,h3,h4,h5,h6,h7,h8,h9,EE,UA,_⟩:=hX;obtain⟨hI,hl⟩:=UA rfl;have Iq:vs.size=ps.length:=by
  have:=JK hr;rw[Fa _ (Gl hx)]at this;simpa using this.symm
 have dB:L≠D:=by intro e;rw[e,h7]at hl;cases hl
 refine⟨fn,_,ca,cb,run_yield hl (by simpa using Iq),roundIn_of_wpIn trivial ?_⟩;intro b2 k2 cs2 fq _ _;have D9:Yz P [.code x] [.code ca]:=by simp only[Yz];exact⟨ca,[],rfl,aB,rfl⟩
 have ZG:Yz P [.code y] [.code cb]:=by simp only[Yz];exact⟨cb,[],rfl,Fz,rfl⟩
 have ed:=pset_rels ps xv vs.toList T tmps (KM h8 h9 _ _ hT) (KM (KN.nil _) (Kw.refl _) _ _ hr);obtain⟨e,a1,w1,m1,T1,H1,A8,UX,gT,Mo,Sc⟩:=Cn s Hs xv hI hx ⟨own,imm,ex⟩ w { tmps:=(ps.toArray.zip vs).foldl (λ(t:Array Value) (p:Nat×Value)=>t.setIfInBounds p.1 p.2) tmps,defers:=[] } b2 cs2 [.code ca] k2
  ⟨h1,by
   have e1:(ps.toArray.zip vs).foldl (λ(t:Array Value) (p:Nat×Value)=>t.setIfInBounds p.1 p.2) tmps=(ps.zip vs.toList).foldl (λ(t:Array Value) (p:Nat×Value)=>t.setIfInBounds p.1 p.2) tmps:=by
    rw[<-Array.foldl_toList];simp
   rw[e1];exact ed,EE⟩ (JdD.nil _ _ (λh=>by cases h) _ _ _ (GD _)) D9
 have dw:L<w.heap.size:=IW L h3;have dF:D<w.heap.size:=IW D h4
 cases e with
 |normal=>
  simp only[asgQ]at Mo;refine⟨.normal,a1,w1,?_,by rw[JfV,<-fenced_eq];exact Sc⟩;have Fj:w1.heap[L]? = some _:=(A8.frame L dw h5).trans hl;have ax:w1.heap[D]? = some _:=(A8.frame D dF h6).trans h7;have OG:¬owned m1 H1 L:=λh=>(A8.newOwn L h).elim h5 (λh=>by omega)
  have Rt:¬owned m1 H1 D:=λh=>(A8.newOwn D h).elim h6 (λh=>by omega)
  refine⟨_,run_beginRound Fj rfl,?_⟩;intro b3 k3 cs3 fo _ _;have Iw:=UX.sim.putDef (ob:=.loop { state:=.busy,pending:=none,fn,tmps,params:=ps.toArray,assign:=ca,body:=cb,defers:=D }) Fj (by intro c e f h;cases h) OG;have R4:JdD ⟨0,true⟩ b3 m1 H1 (w1.putObj L (.loop { state:=.busy,pending:=none,fn,tmps,params:=ps.toArray,assign:=ca,body:=cb,defers:=D })) a1.defers:=by
   obtain⟨_,_,Ds,e1,e2,e3⟩:=gT;refine⟨λh=>(by cases h),GD _,Ds,e1,e2,λD' Px=>?_⟩;obtain⟨f1,f2,f3⟩:=e3 D' Px;have Ai:D'≠L:=by intro e;rw[e,Fj]at f2;cases f2
   exact⟨f1,(World.putObj_heap_other Ai).trans f2,f3⟩
  obtain⟨e2,a2,w3,m2,T2,H2,BP,UW,av,DW,Sb⟩:=Mo m1 _ a1 b3 cs3 [.code cb] k3 ⟨Iw,UX.tmps,UX.long⟩ R4 ZG;refine⟨e2,a2,w3,?_,by rw[JfV,<-fenced_eq];exact Sb⟩;have Sy:L<w1.heap.size:=Gs dw A8.size;have EG:(w1.putObj L (.loop { state:=.busy,pending:=none,fn,tmps,params:=ps.toArray,assign:=ca,body:=cb,defers:=D })).heap.size=w1.heap.size:=World.putObj_size;have Mx:w3.heap[L]? = some (.loop { state:=.busy,pending:=none,fn,tmps,params:=ps.toArray,assign:=ca,body:=cb,defers:=D }):=(BP.frame L (by rw[EG];exact Sy) OG).trans (World.putObj_heap_same Sy);have aR:w3.heap[D]? = some (.deferred (some [])):=(BP.frame D (by rw[EG];exact Gs dF A8.size) Rt).trans ((World.putObj_heap_other (Ne.symm dB)).trans ax);have Rs:¬owned m2 H2 L:=λh=>(BP.newOwn L h).elim OG (λh=>by omega)
  have U5:¬owned m2 H2 D:=λh=>by
   rcases BP.newOwn D h with h|h
   ·exact Rt h
   ·have:=A8.size;omega
  have fin:∀(jump:Option Code),(jump=none->I (s+1) H2)->(∀c,jump=some c->∃ic,JC P c=some ic/\Ok P E n0 N Q (.code ic::k) T H2)->
    ∃v w',(Instr.endRound L jump).run P w3=.ok v w'/\∃b bs' imm',Ending.returned v=.returned (.bool b)/\OutX P E n0 N Q k T I own0 imm0 H.length L D (λst pe=>{ state:=st,pending:=pe,fn,tmps,params:=ps.toArray,assign:=ca,body:=cb,defers:=D }) (s+1) b bs' imm' w'/\Went bs imm w bs' imm' w':=by
   intro jump IK Ea;have Pj:=UW.sim.putDef (ob:=.loop { state:=if jump.isNone then .ready else .done,pending:=jump,fn,tmps,params:=ps.toArray,assign:=ca,body:=cb,defers:=D }) Mx (by intro c e f h;cases h) Rs;have Sw:L<w3.heap.size:=(Gz.1 Mx).1;have PP:w.heap.size<=w3.heap.size:=Gt A8.size (by have:=BP.size;omega);refine⟨_,_,run_endRound jump Mx,jump.isNone,λB=>bs B\/owned m2 H2 B,m2.imm,rfl,⟨m2.own,m2.ext,H2,Pj,λB hB=>.inr hB,.inl h3,.inl h4,Rs,U5,(World.putObj_heap_other (Ne.symm dB)).trans aR,λk x hk=>?_,(h9.trans A8.imm).trans BP.imm,UW.long,λhb=>?_,λhb=>?_⟩,⟨?_,λB hB I4=>?_,A8.imm.trans BP.imm,λB i v hv=>?_,λB hB=>?_,λB hB=>?_,Pj.imm,Pj.one,?_⟩⟩
   ·have Ab:k<H.length:=by rw[<-Ru];exact(Gg.1 hk).1
    exact BP.base k x Ab (A8.base k x Ab (h8 k x hk))
   ·have:jump=none:=by cases jump with|none=>rfl|some c=>cases hb
    subst this;exact⟨IK rfl,World.putObj_heap_same Sw⟩
   ·cases jump with
    |none=>cases hb
    |some c=>
     obtain⟨ic,g1,g2⟩:=Ea c rfl;exact⟨c,ic,g1,g2,World.putObj_heap_same Sw⟩
   ·rw[World.putObj_size];exact PP
   ·have dI:B≠L:=λe=>I4 (e▸h3)
    have Ia:¬owned ⟨own,imm,ex⟩ Hs B:=λh=>I4 (h2 B h)
    have U6:¬owned m1 H1 B:=λh=>(A8.newOwn B h).elim Ia (λh=>by omega)
    rw[World.putObj_heap_other dI,BP.frame B (by rw[EG];exact Gs hB A8.size) U6,World.putObj_heap_other dI,A8.frame B hB Ia]
   ·rcases BP.newImm B i v hv with h|h|h
    ·rcases A8.newImm B i v h with h|h|h
     ·exact .inl h
     ·exact .inr (.inl (h2 B h))
     ·exact .inr (.inr h)
    ·rcases A8.newOwn B h with h|h
     ·exact .inr (.inl (h2 B h))
     ·exact .inr (.inr h)
    ·exact .inr (.inr (by rw[EG]at h;exact Gt A8.size h))
   ·rcases hB with h|h
    ·exact .inl h
    ·rcases BP.newOwn B h with h|h
     ·rcases A8.newOwn B h with h|h
      ·exact .inl (h2 B h)
      ·exact .inr h
     ·exact .inr (by rw[EG]at h;exact Gt A8.size h)
   ·rw[World.putObj_size];rcases hB with h|h
    ·exact Gs (IW B h) PP
    ·exact owned_lt UW.sim h
   ·obtain⟨a1',b1',c1'⟩:=A8.same;obtain⟨a2',b2',c2'⟩:=BP.same;exact⟨a2'.trans a1',b2'.trans b1',c2'.trans c1'⟩
  cases e2 with
  |normal=>exact fin none (λ_=>DW) (λc h=>by cases h)
  |ret=>exact fin (some .ret) (λh=>by cases h) (λc h=>by cases h;exact⟨.ret,by simp[JC],DW⟩)
  |exit id=>exact fin (some (.exit id)) (λh=>by cases h) (λc h=>by cases h;exact⟨.exit id,by simp[JC],DW⟩)
  |goto l=>exact DW.elim
  |panic ch=>exact DW.elim
  |outgrown=>exact DW.elim
 |ret=>exact Mo.elim
 |exit id=>exact Mo.elim
 |goto l=>exact Mo.elim
 |panic ch=>exact Mo.elim
 |outgrown=>exact Mo.elim
end
end
section
section
variable {P:Program}{E:Env}{n0:Nat}{N:Fr}{Q:Exit->List CV->List CObj->Prop}{H:List CObj}{T:List CV}{k:List KItem}
theorem ok_rfunc {f:IArg}{ps:List Nat}{x y:ICode}{g:Nat}{l1 l2:List CV}{xs:List (List CV)}{fn:Func}(I:Nat->List CObj->Prop) (Ox:N.rnd=false) (hf:Ka T f=.fn g l1 l2) (Dc:Jm l1=true) (Dj:Jm l2=true) (Bn:P.funcs[g]? = some fn) (Dy:fn.body.isSome=true) (EM:fn.name≠ "runtime.NumGoroutine")
  (M5:Iter P g l1 l2 xs) (Fa:∀c∈xs,c.length=ps.length) (h0:I 0 H) (Cn:∀s Hs c,I s Hs->xs[s]? = some c->Ok P E H.length ⟨0,true⟩ (asgQ λT2 H2=>Ok P E H.length ⟨0,true⟩ (roundQ P E n0 N Q k T (I (s+1))) [.code y] T2 H2) [.code x] (pset T ps c) Hs)
  (Ce:∀H',I xs.length H'->Ok P E n0 N Q k T H'):Ok P E n0 N Q (.code (.rfunc f ps x y)::k) T H:=by
 intro m w a b cs kr rest hp hd hk;simp only[Yz]at hk;obtain⟨c',kr',rfl,hc,AA⟩:=hk;obtain⟨g0,qs,ca,cb,rfl,Fv,EK,aB,Fz⟩:=inv_rfunc hc;have Rc:b.roundOf=none:=hd.1 Ox;have hr:=JJ (a:=a) hp.tmps Fv;rw[hf]at hr;simp only[rel]at hr;obtain⟨vs1,vs2,hv,BU,Bf⟩:=hr;have Rh:qs=ps.toArray:=by rw[<-EK]
 generalize hD:w.heap.size=D at *;generalize I1:(λ(st:LoopState) (pe:Option Code)=>({ state:=st,pending:=pe,fn:=b.fn,tmps:=a.tmps,params:=ps.toArray,assign:=ca,body:=cb,defers:=D }:Loop))=rc;generalize Pw:(w.alloc (.deferred (some []))).alloc (.loop (rc .ready none))=W1;have he:(Instr.enterLoop b.fn a.tmps qs ca cb b.roundOf).run P w=.ok (D+1,[{ target:=.collected D,args:=#[] }]) W1:=by
  rw[Rc,<-Pw,<-I1,Rh,<-hD];exact run_enterLoop_outer _ _ _ _ _
 have FH:W1.heap.size=D+2:=by rw[<-Pw];simp[hD]
 have ES:∀B,B<D->W1.heap[B]? = w.heap[B]?:=by
  intro B hB;have e:W1.heap=(w.heap.push (.deferred (some []))).push (.loop (rc .ready none)):=by rw[<-Pw];rfl
  rw[e,GU,GU,if_neg (by simp[hD];omega),iN7]
 have dH:W1.heap[D]? = some (.deferred (some [])):=by
  have e:W1.heap=(w.heap.push (.deferred (some []))).push (.loop (rc .ready none)):=by rw[<-Pw];rfl
  rw[e,GU,GU,if_neg (by simp[hD]),if_pos hD.symm]
 have dC:W1.heap[D+1]? = some (.loop (rc .ready none)):=by
  rw[<-Pw];have:=World.alloc_heap_new (w.alloc (.deferred (some []))) (.loop (rc .ready none))
  rwa [World.size_alloc,hD]at this
 have Ow:W1.os=w.os/\W1.output=w.output/\W1.tape=w.tape:=by rw[<-Pw];exact⟨rfl,rfl,rfl⟩
 have CG:∀B,owned m H B->B<D:=λB h=>by rw[<-hD];exact owned_lt hp.sim h
 have A7:∀B,B<gN->B<D:=λB h=>by rw[<-hD];exact hp.sim.gl.1.lt h
 have M6:∀B i v,m.imm B i=some v->W1.cell? ⟨B,i,none⟩=some v:=λB i v hv=>(cell?_congr (ES B (by rw[<-hD];exact JfW hp.sim hv))).trans (hp.sim.imm B i v hv)
 have EA:Sim E m H W1:=hp.sim.grow (λB h=>ES B (h.elim (CG B) (A7 B))) (by omega) (Kw.refl _) (λB i v h=>.inl h) M6 hp.sim.one;have Ru:m.own.length=H.length:=hp.sim.len;have hy:Jff P (OutE P E n0 N Q k T I m.own m.imm H.length (D+1) D rc) (D+1) xs:=by
  rw[<-I1];exact round_ok aB Fz Ru hp.tmps Fa Cn
 have BC:(resolve a.eval (rangeCall g0 (D+1)) 0).run P W1=.ok { target:=.fn (.func g) vs2,args:=vs1 ++ #[.func (.yield (D+1)) #[] #[]] } W1:=by
  simp only[resolve,hv];simp[Deferred.ofValue,Act.eval]
 have Aa:(invoke (.fn (.func g) vs2) (vs1 ++ #[.func (.yield (D+1)) #[] #[]])).run P W1=.ok (.enter g (vs1 ++ #[.func (.yield (D+1)) #[] #[]]++vs2)) W1:=by
  simp only[invoke];exact JaQ Bn Dy EM
 have Dv:=stepR_rangeFunc (P:=P) (b:=b) (a:=a) (k:=kr'++rest) (cs:=cs) (w:=w) he BC Aa
 let bs0:Nat->Prop:=λB=>owned m H B\/B=D+1\/B=D
 have ig:OutX P E n0 N Q k T I m.own m.imm H.length (D+1) D rc 0 true bs0 m.imm W1:=
  ⟨m.own,m.ext,H,EA,λB h=>.inl h,.inr (.inl rfl),.inr (.inr rfl),λh=>by have:=CG _ h;omega,λh=>by have:=CG _ h;omega,dH,KN.refl _,Kw.refl _,Gd _,λ_=>⟨h0,dC⟩,λh=>by cases h⟩
 have P5:Sim (OutE P E n0 N Q k T I m.own m.imm H.length (D+1) D rc) { own:=[⟨0,0,0,0⟩],imm:=m.imm,ext:=bs0 } [.ext 0 true] W1:=by
  refine⟨rfl,λk o x hk hx=>?_,M6,hp.sim.one,λk k' o o' x x' hk AA ha=>?_,λk o x hk ha=>?_,λk s b hk=>?_,λk o x hk ha=>?_,λB hB=>?_,EA.gl.1,λB hB h=>?_⟩
  ·cases k with
   |zero=>simp at hk;subst hk;trivial
   |succ k=>simp at hk
  ·cases k with
   |zero=>simp at hk;subst hk;cases ha
   |succ k=>simp at hk
  ·cases k with
   |zero=>simp at hk;subst hk;cases ha
   |succ k=>simp at hk
  ·cases k with
   |zero=>simp at hk;obtain⟨rfl,rfl⟩:=hk;exact ig
   |succ k=>simp at hk
  ·cases k with
   |zero=>simp at hk;subst hk;cases ha
   |succ k=>simp at hk
  ·rcases hB with (h|h|h)|h
   ·have:=CG _ h;omega
   ·omega
   ·omega
   ·have:=A7 _ h;omega
  ·rcases hB with hb|hb|hb
   ·exact owned_gl hp.sim hb h
   ·have:=A7 _ h;omega
   ·have:=A7 _ h;omega
 have BI:JS [⟨0,0,0,0⟩] m.imm (l1 ++ .yld (D+1)::l2) (vs1 ++ #[Value.func (Fn.yield (D+1)) #[] #[]]++vs2).toList:=by
  simp only[Array.toList_append,HY];refine QQ (KO _ _ Dc BU) ?_;simp only[JS,rel,H5,H7];exact⟨_,_,rfl,rfl,KO _ _ Dj Bf⟩
 obtain⟨e,w3,fr,⟨r,m',v,H',rfl,Ae,UO,_,hR⟩,Bj,_,EN⟩:=(M5 _ _ hy _ W1 _ P5 BI).2 (b.atR { a with defers:=[{ target:=.collected D,args:=#[] }]++a.defers } (.inRangeFunc (D+1)::(kr'++rest))::cs) (Jej _ _);have BJ:∀B,owned { own:=[⟨0,0,0,0⟩],imm:=m.imm,ext:=bs0 } [.ext 0 true] B->bs0 B:=by
  rintro B (h|⟨k,o,x,hk,ha,_⟩)
  ·exact h
  ·cases k with
   |zero=>simp at hk;subst hk;cases ha
   |succ k=>simp at hk
 have fin:∀(s:Nat) (c:Bool),H'[0]? = some (.ext s c)->(c=true->s=xs.length)->Reach P E n0 N Q b rest cs m H w (lone (b.atR a (.code (.rangeFunc g0 qs ca cb)::(kr'++rest))) cs w):=by
  intro s c Dx Db;obtain⟨own,ex,Hs,g1,g2,g3,g4,g5,g6,g7,g8,g9,g10,g11,g12⟩:=UO.ext 0 s c Dx;have go:∀(st:LoopState) (pe:Option Code) (kk:List KItem) (krr:List Item),st≠.busy->w3.heap[D+1]? = some (.loop (rc st pe))->Ok P E n0 N Q kk T Hs->Yz P kk krr->krr++rest=(pe.map Item.code).toList++(kr'++rest)->
    Reach P E n0 N Q b rest cs m H w (lone (b.atR a (.code (.rangeFunc g0 qs ca cb)::(kr'++rest))) cs w):=by
   intro st pe kk krr Al hl Ap BL D9;have CY:(rc st pe).state=st:=by rw[<-I1]
   have fe:(rc st pe).pending=pe:=by rw[<-I1]
   have El:(Instr.endLoop (D+1)).run P w3=.ok pe (w3.putObj (D+1) (.loop { rc st pe with state:=.exhausted })):=by
    have h:=run_endLoop (P:=P) hl (by rw[CY];exact Al);rw[h];simp only[fe]
   have R8:=stepR_endRangeFunc (P:=P) (b:=b) (a:={ a with defers:=[{ target:=.collected D,args:=#[] }]++a.defers }) (k:=kr'++rest) (cs:=cs) El;have Pj:=g1.putDef (ob:=.loop { rc st pe with state:=.exhausted }) hl (by intro c e f h;cases h) g5;have Iq:=Ae.size;have Fx:Ext n0 m H w ⟨own,m'.imm,ex⟩ Hs (w3.putObj (D+1) (.loop { rc st pe with state:=.exhausted })):=by
    refine⟨by rw[World.putObj_size];omega,λB hB I4=>?_,Ae.imm,λB hB=>?_,λB i v hv=>?_,λk x hk hx=>g8 k x hx,λ_=>?_,?_⟩
    ·have jb:B<D:=by omega
     rw[World.putObj_heap_other (by omega),Ae.frame B (by omega) (λh=>
      (BJ B h).elim I4 (λh=>
      h.elim (λh=>by omega) (λh=>by omega))),ES B jb]
    ·rcases Ae.newOwn B (.inl (g2 B hB)) with h|h
     ·rcases BJ B h with h|h|h
      ·exact .inl h
      ·exact .inr (by omega)
      ·exact .inr (by omega)
     ·exact .inr (by omega)
    ·rcases Ae.newImm B i v hv with h|h|h
     ·exact .inl h
     ·rcases BJ B h with h|h|h
      ·exact .inr (.inl h)
      ·exact .inr (.inr (by omega))
      ·exact .inr (.inr (by omega))
     ·exact .inr (.inr (by omega))
    ·exact Gt hp.long (Gt g10 (Nat.le_of_eq g1.len.symm))
    ·obtain⟨s1,s2,s3⟩:=Ow;obtain⟨t1,t2,t3⟩:=Ae.same;exact⟨t1.trans s1,t2.trans s2,t3.trans s3⟩
   have iw:JS own m'.imm T a.tmps.toList:=KM g8 Ae.imm _ _ hp.tmps;have RB:n0<=Hs.length:=Gt hp.long g10;have gQ:JdD N b ⟨own,m'.imm,ex⟩ Hs (w3.putObj (D+1) (.loop { rc st pe with state:=.exhausted })) ([{ target:=.collected D,args:=#[] }]++a.defers):=by
    obtain⟨q1,q2,Ds,q3,q4,q5⟩:=hd;have Ab:∀D'∈Ds,D' < D:=λD' h=>by rw[<-hD];exact(Gz.1 (q5 D' h).2.1).1
    refine⟨q1,Gt q2 Fx.size,D::Ds,by rw[q3];rfl,List.nodup_cons.2 ⟨λh=>Nat.lt_irrefl _ (Ab D h),q4⟩,λD' Px=>?_⟩;rcases Gq.1 Px with rfl|h
    ·exact⟨by omega,(World.putObj_heap_other (by omega)).trans g7,g6⟩
    ·obtain⟨r1,r2,r3⟩:=q5 D' h;have:=Ab D' h;exact⟨r1,(Fx.frame D' (by omega) r3).trans r2,λho=>(Fx.newOwn D' ho).elim r3 (λh=>by omega)⟩
   refine Reach.step (.head Dv (Steps.trans (StepsIn.steps Bj) (.head (step_leave_returned EN) ?_))) Fx (Ap ⟨own,m'.imm,ex⟩ _ { a with defers:=[{ target:=.collected D,args:=#[] }]++a.defers } b cs krr rest ⟨Pj,iw,RB⟩ gQ BL);rw[finish_atR_inRangeFunc,D9];exact .one R8
  cases c with
  |true=>
   obtain⟨hI,hl⟩:=g11 rfl;exact go .ready none k kr' (by simp) hl (Ce Hs (Db rfl▸hI)) AA (by simp)
  |false=>
   obtain⟨c,ic,q1,q2,q3⟩:=g12 rfl;exact go .done (some c) (.code ic::k) (.code c::kr') (by simp) q3 q2 (by simp only[Yz];exact⟨c,kr',rfl,q1,AA⟩) (by simp)
 rcases hR with h|⟨s,h⟩
 ·exact fin _ _ h λ_=>rfl
 ·exact fin _ _ h λh=>by cases h
end
end
section
section
variable {P:Program}{E:Env}{n0:Nat}{N:Fr}{Q:Exit->List CV->List CObj->Prop}{H:List CObj}{T:List CV}{k:List KItem}
theorem vr_yield {d:Option Nat}{g:Option (Nat×Bool)}{x:IArg}{l i s:Nat}{as:List IArg}{lst:List IOper}{xs:List (List CV)}(hg:GOk T g)(hx:Ka T x=.yld l)(hy:Jff P E l xs)(hH:H[i]? = some (.ext s true))(hu:∀k s b,H[k]? = some (.ext s b)->k=i)
  (Fa:xs[s]? = some (as.map (Ka T))) (Ay:Jm (as.map (Ka T))=true) (h:∀c,Ko P E n0 N Q (.ops lst::k) (put T d (.bool c)) (H.set i (.ext (s+1) c))):Ok P E n0 N Q (.ops (⟨d,.callv x as,g⟩::lst)::k) T H:=
 ok_yield hg hx hy hH hu Fa Ay λc=>JA _ _ _ (h c)
def Jd2 (P:Program)(E:Env)(n0:Nat)(N:Fr)(Q:Exit->List CV->List CObj->Prop)(k:List KItem)(T:List CV)(I:List CObj->Prop)(e:Exit)(_:List CV)(H:List CObj):Prop:=
 match e with
 |.normal=>I H
 |.ret=>Q .ret T H
 |.exit id=>JcN P E n0 N Q (Ya id k) id T H
 |_=>False
theorem Jfi {T':List CV}{I:List CObj->Prop}:Jd2 P E n0 N Q k T I .normal T' H=I H:=rfl
theorem vroundQ_ret {T':List CV}{I:List CObj->Prop}:Jd2 P E n0 N Q k T I .ret T' H=Q .ret T H:=rfl
theorem vroundQ_exit {T':List CV}{I:List CObj->Prop}{id:Nat}:Jd2 P E n0 N Q k T I (.exit id) T' H=JcN P E n0 N Q (Ya id k) id T H:=rfl
theorem asgQ_normal {K:List CV->List CObj->Prop}:asgQ K .normal T H=K T H:=rfl
theorem fn_of_row {f:Nat}{args:List CV}{z:Nat}{els:List (List CV)}(h:CallsC P Env.none f args [] λv H'=>(els=[]/\v=.nils)\/∃id,H'[id]? = some (.arr z els)/\∃cap,v=.slc id 0 els.length cap)(ha:Jm args=true)(hc:Jq els=true):Fn P f args (.rslc z els none):=by
 refine Jhf ?_ ha rfl;intro m w vs hs hv;refine(h m w vs hs hv).mono ?_;rintro e w' ⟨r,m',v,H',h1,h2,h3,h4,⟨rfl,rfl⟩|⟨id,g1,cap,rfl⟩⟩
 ·exact⟨r,m',_,H',h1,h2,h3,wk.nils _ _ _ h4,rfl⟩
 ·obtain⟨imm',Az,he,hf⟩:=Sim.freeze (n0:=([]:List CObj).length) h3 g1 hc;refine⟨r,_,_,_,h1,h2.trans he,Az,hf _ _ h4,?_⟩;simp[frz]
theorem getElem?_app_len {g l:List CObj}:(g++l)[g.length]? = l[0]?:=by rw[Gp (Gd _)];simp
theorem getElem?_app_add {g l:List CObj}{n:Nat}:(g++l)[g.length+n]? = l[n]?:=by rw[Gp (Ho _ _)];congr 1;omega
theorem set_app_len {g l:List CObj}{x:CObj}:(g++l).set g.length x=g++l.set 0 x:=by rw[Hu _ _ (Gd _)];simp
theorem set_app_add {g l:List CObj}{n:Nat}{x:CObj}:(g++l).set (g.length+n) x=g++l.set n x:=by rw[Hu _ _ (Ho _ _)];congr 2;omega
theorem vr_fv {d:Option Nat}{g:Option (Nat×Bool)}{x:IArg}{f:Nat}{l1 l2:List CV}{as:List IArg}{l:List IOper}{v:CV}{F:IFunc}(hg:GOk T g) (hx:Ka T x=.fn f l1 l2) (hF:Je P f=some F) (EM:(P.funcs[f]?.map (·.name))≠some "runtime.NumGoroutine")
  (Ah:Fn P f (l1++as.map (Ka T)++l2) v) (h:Ko P E n0 N Q (.ops l::k) (put T d v) H):Ok P E n0 N Q (.ops (⟨d,.callv x as,g⟩::l)::k) T H:=by
 have Bn:∃fn,P.funcs[f]? = some fn/\fn.body.isSome=true:=by
  unfold Je at hF
  split at hF
  ·rename_i fn Bn
   split at hF
   ·rename_i c hb;exact⟨fn,Bn,by rw[hb];rfl⟩
   ·cases hF
  ·cases hF
 obtain⟨fn,Bn,Dy⟩:=Bn;exact JgV hg hx Bn Dy (λe=>EM (by rw[Bn,<-e];rfl)) (Ah E H) λv' H' ⟨h1,h2⟩=>by rw[h1,h2];exact JA _ _ _ h
theorem Jd {id z:Nat}{els:List (List CV)}(hH:H[id]? = some (.arr z els))(hc:Jq els=true)(h:Ko P E n0 N Q k (JY id z els T) (Ky id z els H)):Ok P E n0 N Q k T H:=
 ok_freeze hH hc (JA _ _ _ h)
end
attribute [go_sem] getElem?_app_len getElem?_app_add set_app_len set_app_add HY List.length_append Jfi vroundQ_ret vroundQ_exit asgQ_normal pset
end
section
def Jn (id:Nat):List Nat->Nat->Option Nat
 |[],_=>none
 |k::ρ,i=>if k=id then some i else Jn id ρ (i+1)
mutual
def ren (ρ:List Nat):CV->CV
 |.slc j off len cap=>match Jn j ρ 0 with|some j'=>.slc j' off len cap|none=>.un
 |.ptr j i off=>match Jn j ρ 0 with|some j'=>.ptr j' i off|none=>.un
 |.map j=>match Jn j ρ 0 with|some j'=>.map j'|none=>.un
 |.fn f l1 l2=>.fn f (JB ρ l1) (JB ρ l2)
 |.iface t c=>.iface t (ren ρ c)
 |.agg l=>.agg (JB ρ l)
 |.tup l=>.tup (JB ρ l)
 |c=>c
def JB (ρ:List Nat):List CV->List CV
 |[]=>[]
 |c::cs=>ren ρ c::JB ρ cs
end
theorem JfB {id:Nat}:∀(ρ:List Nat) (i j:Nat),Jn id ρ i=some j->i<=j/\ρ[j-i]? = some id
 |[],_,_,h=>by simp[Jn]at h
 |k::ρ,i,j,h=>by
  simp only[Jn]at h
  split at h
  ·rename_i hk
   cases h;simp[hk]
  ·obtain⟨h1,h2⟩:=JfB ρ (i+1) j h;refine⟨by omega,?_⟩;rw[show j-i=(j-(i+1))+1 by omega];simpa using h2
theorem Jbo {id j:Nat}{ρ:List Nat}(h:Jn id ρ 0=some j):ρ[j]? = some id:=by
 simpa using (JfB ρ 0 j h).2
mutual
theorem JgM {own own':List Own}{imm:Nat->Nat->Option Value}{ρ:List Nat}(ho:∀(j:Nat) id,ρ[j]? = some id->own'[j]? = own[id]?):∀(c:CV) (v:Value),rel own imm c v->rel own' imm (ren ρ c) v
 |.un,_,_=>by simp only[ren,rel]
 |.bool _,_,h=>by simp only[ren,rel]at h|-;exact h
 |.int _ _,_,h=>by simp only[ren,rel]at h|-;exact h
 |.str _,_,h=>by simp only[ren,rel]at h|-;exact h
 |.nilp,_,h=>by simp only[ren,rel]at h|-;exact h
 |.ptr j i off,v,h=>by
  simp only[ren]
  split
  ·rename_i j' hj;simp only[rel]at h|-;obtain⟨x,hx,e⟩:=h;exact⟨x,(ho j' j (Jbo hj)).trans hx,e⟩
  ·simp only[rel]
 |.rptr cs,v,h=>by simp only[ren,rel]at h|-;exact h
 |.nils,_,h=>by simp only[ren,rel]at h|-;exact h
 |.slc j off len cap,v,h=>by
  simp only[ren]
  split
  ·rename_i j' hj;simp only[rel]at h|-;obtain⟨x,a,c,hx,e⟩:=h;exact⟨x,a,c,(ho j' j (Jbo hj)).trans hx,e⟩
  ·simp only[rel]
 |.rslc z' e cap,v,h=>by simp only[ren,rel]at h|-;exact h
 |.nilm,_,h=>by simp only[ren,rel]at h|-;exact h
 |.map j,v,h=>by
  simp only[ren]
  split
  ·rename_i j' hj;simp only[rel]at h|-;obtain⟨x,hx,e⟩:=h;exact⟨x,(ho j' j (Jbo hj)).trans hx,e⟩
  ·simp only[rel]
 |.fn f l1 l2,_,h=>by
  simp only[ren,rel]at h|-;obtain⟨vs1,vs2,e,h1,h2⟩:=h;exact⟨vs1,vs2,e,Jaj ho l1 _ h1,Jaj ho l2 _ h2⟩
 |.yld _,_,h=>by simp only[ren,rel]at h|-;exact h
 |.nilf,_,h=>by simp only[ren,rel]at h|-;exact h
 |.iface _ c,_,h=>by
  simp only[ren,rel]at h|-;obtain⟨r,e,h1⟩:=h;exact⟨r,e,JgM ho c _ h1⟩
 |.nili,_,h=>by simp only[ren,rel]at h|-;exact h
 |.agg l,_,h=>by
  simp only[ren,rel]at h|-;obtain⟨vs,e,h1⟩:=h;exact⟨vs,e,Jaj ho l _ h1⟩
 |.tup l,_,h=>by
  simp only[ren,rel]at h|-;obtain⟨vs,e,h1⟩:=h;exact⟨vs,e,Jaj ho l _ h1⟩
theorem Jaj {own own':List Own}{imm:Nat->Nat->Option Value}{ρ:List Nat}(ho:∀(j:Nat) id,ρ[j]? = some id->own'[j]? = own[id]?):∀(l:List CV) (vs:List Value),JS own imm l vs->JS own' imm (JB ρ l) vs
 |[],vs,h=>by simp only[JB,JS]at h|-;exact h
 |c::cs,vs,h=>by
  simp only[JB,JS]at h|-;obtain⟨r,rs,e,h1,h2⟩:=h;exact⟨r,rs,e,JgM ho c _ h1,Jaj ho cs _ h2⟩
end
def XM (ρ:List Nat):CObj->CObj
 |.arr z e=>.arr z (e.map (JB ρ))
 |.map kvs=>.map (kvs.map λp=>(ren ρ p.1,ren ρ p.2))
 |o=>o
def Kq (ρ:List Nat)(H:List CObj):List CObj:=ρ.map λid=>XM ρ (H.getD id .dead)
structure RenOk (ρ:List Nat)(n0:Nat)(H:List CObj):Prop where
 nodup:ρ.Nodup
 lt:∀id∈ρ,id<H.length
 base:∀k,k<n0->ρ[k]? = some k
theorem Jek {ρ:List Nat}:∀(l:List CV),(JB ρ l).length=l.length
 |[]=>rfl
 |_::cs=>by simp[JB,Jek cs]
theorem renL_get {ρ:List Nat}:∀(l:List CV) (i:Nat),(JB ρ l)[i]? = (l[i]?).map (ren ρ)
 |[],_=>by simp[JB]
 |c::cs,0=>by simp[JB]
 |c::cs,i+1=>by simp[JB,renL_get cs i]
theorem Xv {ρ:List Nat}(o:CObj):(XM ρ o).alive=o.alive:=by cases o <;> rfl
theorem JdM {ρ:List Nat}{H:List CObj}{k:Nat}{o:CObj}(hl:∀id∈ρ,id<H.length)(h:(Kq ρ H)[k]? = some o):∃id o0,ρ[k]? = some id/\H[id]? = some o0/\o=XM ρ o0:=by
 simp only[Kq,Gw]at h
 cases hk:ρ[k]? with
 |none=>simp[hk]at h
 |some id=>
  have Ab:=hl id (Gl hk);simp[hk,Gc,Gb Ab]at h;exact⟨id,H[id],rfl,Gb Ab,h.symm⟩
theorem relO_ren {own own':List Own}{imm:Nat->Nat->Option Value}{ρ:List Nat}{zz o:Nat}{es:List (List CV)}{R:Nat->Option Value}(hf:∀c v,rel own imm c v->rel own' imm (ren ρ c) v)(h:relO own imm zz es R o):relO own' imm zz (es.map (JB ρ)) R o:=by
 intro j e he;rw[Gw]at he
 cases IR:es[j]? with
 |none=>simp[IR]at he
 |some e0=>
  simp[IR]at he;subst he;obtain⟨h1,h2⟩:=h j e0 IR;refine⟨by rw[Jek];exact h1,λt c hc=>?_⟩;rw[renL_get]at hc
  cases ht:e0[t]? with
  |none=>simp[ht]at hc
  |some c0=>
   simp[ht]at hc;subst hc;obtain⟨r,h3,h4⟩:=h2 t c0 ht;exact⟨r,h3,hf _ _ h4⟩
section
variable {E:Env}{n0:Nat}{m:Bk}{H:List CObj}{w:World}
theorem Sim.ren {ρ:List Nat}(hs:Sim E m H w)(hr:RenOk ρ n0 H)(hn:n0<=H.length) :
  ∃own',Sim E { m with own:=own' } (Kq ρ H) w/\Ext n0 m H w { m with own:=own' } (Kq ρ H) w/\(∀c v,rel m.own m.imm c v->rel own' m.imm (ren ρ c) v)/\∀l vs,JS m.own m.imm l vs->JS own' m.imm (JB ρ l) vs:=by
 let own':List Own:=ρ.map λid=>m.own.getD id ⟨0,0,0,0⟩
 have ho:∀(j:Nat) id,ρ[j]? = some id->own'[j]? = m.own[id]?:=by
  intro j id hj;have Ab:id<m.own.length:=by rw[hs.len];exact hr.lt id (Gl hj)
  simp[own',hj,Gc,Gb Ab]
 have hf:∀c v,rel m.own m.imm c v->rel own' m.imm (Go.Cm.ren ρ c) v:=JgM ho;have key:∀(k:Nat) o x,(Kq ρ H)[k]? = some o->own'[k]? = some x->∃id o0,ρ[k]? = some id/\H[id]? = some o0/\o=XM ρ o0/\m.own[id]? = some x:=by
  intro k o x hk hx;obtain⟨id,o0,h1,h2,h3⟩:=JdM hr.lt hk;exact⟨id,o0,h1,h2,h3,(ho k id h1).symm.trans hx⟩
 refine⟨own',⟨by simp[own',Kq],λk o x hk hx=>?_,hs.imm,hs.one,λk k' o o' x x' hk AA ha AX hx Aq hB=>?_,λk o x hk ha hx=>?_,λk s b hk=>?_,λk o x hk ha hx=>?_,hs.extlt,hs.gl⟩,⟨Gd _,λ_ _ _=>rfl,Kw.refl _,λB hB=>.inl ?_,λB i v hv=>.inl hv,λk x hk hx=>?_,λ_=>?_,rfl,rfl,rfl⟩,hf,Jaj ho⟩
 ·obtain⟨id,o0,h1,h2,rfl,h4⟩:=key k o x hk hx;have:=hs.obj id o0 x h2 h4
  cases o0 with
  |arr z' es=>
   obtain⟨a1,c,el,a2,a3,a4,a5,a6⟩:=this;exact⟨a1,c,el,a2,a3,by simpa using a4,relO_ren hf a5,a6⟩
  |map kvs=>
   obtain⟨es,clock,a1,a2,a3⟩:=this;refine⟨es,clock,a1,by simpa using a2,λi k v e hk he=>?_⟩;rw[Gw]at hk
   cases Cj:kvs[i]? with
   |none=>simp[Cj]at hk
   |some p=>
    simp[Cj]at hk;obtain⟨rfl,rfl⟩:=hk;have:=a3 i p.1 p.2 e Cj he;exact⟨hf _ _ this.1,hf _ _ this.2⟩
  |dead=>trivial
  |ext s b=>trivial
 ·obtain⟨id,o0,h1,h2,rfl,h4⟩:=key k o x hk hx;obtain⟨id',o0',DI,FC,rfl,SC⟩:=key k' o' x' AA Aq;rw[Xv]at ha AX;have:=hs.sep id id' o0 o0' x x' h2 FC ha AX h4 SC hB;subst this;exact(List.getElem?_inj (Gg.1 h1).1 hr.nodup).1 (h1.trans DI.symm)
 ·obtain⟨id,o0,h1,h2,rfl,h4⟩:=key k o x hk hx;rw[Xv]at ha;exact hs.ro id o0 x h2 ha h4
 ·obtain⟨id,o0,h1,h2,h3⟩:=JdM hr.lt hk;have:o0=.ext s b:=by cases o0 <;> simp[XM]at h3;simp[h3]
  subst this;exact hs.ext id s b h2
 ·obtain⟨id,o0,h1,h2,rfl,h4⟩:=key k o x hk hx;rw[Xv]at ha;exact hs.extsep id o0 x h2 ha h4
 ·rcases hB with h|⟨k,o,x,hk,ha,hx,hB⟩
  ·exact .inl h
  ·obtain⟨id,o0,h1,h2,rfl,h4⟩:=key k o x hk hx;rw[Xv]at ha;exact .inr ⟨id,o0,x,h2,ha,h4,hB⟩
 ·exact(ho k k (hr.base k hk)).trans hx
 ·cases n0 with
  |zero=>exact GD _
  |succ n=>
   have:=(Gg.1 (hr.base n (GM n))).1;simp[own'];omega
end
end
section
def Jdx (ρ:List Nat)(n0 len:Nat):Bool:=decide ρ.Nodup && ρ.all (λid=>decide (id<len)) && (Gj n0).all (λk=>ρ[k]? == some k)
theorem QP {ρ:List Nat}{n0:Nat}{H:List CObj}(h:Jdx ρ n0 H.length=true):RenOk ρ n0 H:=by
 simp only[Jdx,Ga,decide_eq_true_eq,GH,Gy,beq_iff_eq]at h;exact⟨h.1.1,h.1.2,h.2⟩
section
variable {P:Program}{E:Env}{n0:Nat}{N:Fr}{Q:Exit->List CV->List CObj->Prop}{H:List CObj}{T:List CV}{k:List KItem}
theorem JfI {ρ:List Nat}(hr:RenOk ρ n0 H)(h:Ok P E n0 N Q k (JB ρ T) (Kq ρ H)):Ok P E n0 N Q k T H:=by
 intro m w a b cs kr rest hp hd hk;obtain⟨own',hs,he,_,hT⟩:=Sim.ren (n0:=n0) hp.sim hr hp.long;have Ad:n0<=(Kq ρ H).length:=by
  cases n0 with
  |zero=>exact GD _
  |succ n=>
   have:=(Gg.1 (hr.base n (GM n))).1;simp[Kq];omega
 exact Reach.step (.refl _ _) he (h { m with own:=own' } w a b cs kr rest ⟨hs,hT _ _ hp.tmps,Ad⟩ (hd.ext he) hk)
theorem Jv {x:ICode}{σ:Type}(I:σ->Prop)(inv:σ->List CV)(hp:σ->List CObj)(μ:σ->Nat)(s0:σ)(ρ0:List Nat)(h0:I s0)(Rf:Jdx ρ0 n0 H.length=true)(hT:forget (JB ρ0 T) (inv s0))(hH:Kq ρ0 H=hp s0)
  (hb:∀s,I s->Ko P E n0 N (Jd3 P E n0 N Q k λT' H'=>∃s' ρ,I s'/\μ s' < μ s/\Jdx ρ n0 H'.length=true/\Kq ρ H'=hp s'/\forget (JB ρ T') (inv s')) [.code x] (inv s) (hp s)):Ok P E n0 N Q (.code (.loop x)::k) T H:=by
 refine ok_loop (I:=λs T H=>I s/\∃ρ,RenOk ρ n0 H/\wks (JB ρ T) (inv s)/\Kq ρ H=hp s) μ s0 ⟨h0,ρ0,QP Rf,Yl hT,hH⟩ ?_;rintro s T H ⟨hs,ρ,hr,hw,hH⟩;refine JfI hr (K9 hw ?_);rw[hH];refine(JA _ _ _ (hb s hs)).mono λe T' H' hq=>Jdg (λT2 H2 h2=>?_) hq
 obtain⟨s',ρ',Az,Ab,h3,h4,hf⟩:=h2;exact⟨s',⟨Az,ρ',QP h3,Yl hf,h4⟩,Ab⟩
end
end
section
def gp:List (Nat×CV)->Nat->List CV
 |[],n=>GI n .un
 |(g,v)::l,n=>GI g .un++v::gp l n
def Qg (id:Nat)(els:List (List CV)):CV:=match els with
 |[]=>.nils
 |_::_=>.slc id 0 els.length none
def Q7 (z:Nat)(els:List (List CV)):CObj:=match els with
 |[]=>.dead
 |_::_=>.arr z els
theorem XV {id:Nat}:Qg id []=.nils:=rfl
theorem Jah {z:Nat}:Q7 z []=.dead:=rfl
theorem Yo {id:Nat}{e:List CV}{els:List (List CV)}:Qg id (e::els)=.slc id 0 (els.length+1) none:=rfl
theorem JaS {z:Nat}{e:List CV}{els:List (List CV)}:Q7 z (e::els)=.arr z (e::els):=rfl
theorem YP {id:Nat}{els:List (List CV)}(h:els≠[]):Qg id els=.slc id 0 els.length none:=by cases els <;> simp_all [Qg]
theorem Yp {z:Nat}{els:List (List CV)}(h:els≠[]):Q7 z els=.arr z els:=by cases els <;> simp_all [Q7]
theorem Kz {id:Nat}{e:List CV}{l els:List (List CV)}:Qg id (els++e::l)=.slc id 0 (els.length+(l.length+1)) none:=by rw[YP (by simp)];simp
theorem KA {z:Nat}{e:List CV}{l els:List (List CV)}:Q7 z (els++e::l)=.arr z (els++e::l):=Yp (by simp)
theorem Jo {ρ:List Nat}{z:Nat}{els:List (List CV)}:XM ρ (.arr z els)=.arr z (els.map (JB ρ)):=rfl
theorem JgN {ρ:List Nat}{kvs:List (CV×CV)}:XM ρ (.map kvs)=.map (kvs.map λp=>(ren ρ p.1,ren ρ p.2)):=rfl
theorem Jk {ρ:List Nat}:XM ρ .dead=.dead:=rfl
theorem Qk {ρ:List Nat}{z:Nat}{els:List (List CV)}(hc:els.map (JB ρ)=els):XM ρ (Q7 z els)=Q7 z els:=by
 cases els with
 |nil=>rfl
 |cons e l=>simp only[Q7,XM];rw[hc]
mutual
theorem Y0 {ρ:List Nat}:∀(c:CV),c.closed=true->ren ρ c=c
 |.un,_=>rfl
 |.bool _,_=>rfl
 |.int _ _,_=>rfl
 |.str _,_=>rfl
 |.nilp,_=>rfl
 |.ptr _ _ _,h=>by simp[CV.closed]at h
 |.rptr _,_=>rfl
 |.nils,_=>rfl
 |.slc _ _ _ _,h=>by simp[CV.closed]at h
 |.rslc _ _ _,_=>rfl
 |.nilm,_=>rfl
 |.map _,h=>by simp[CV.closed]at h
 |.fn f l1 l2,h=>by
  simp only[CV.closed,Ga]at h;simp only[ren,Xl l1 h.1,Xl l2 h.2]
 |.yld _,_=>rfl
 |.nilf,_=>rfl
 |.iface t c,h=>by
  simp only[CV.closed]at h;simp only[ren,Y0 c h]
 |.nili,_=>rfl
 |.agg l,h=>by
  simp only[CV.closed]at h;simp only[ren,Xl l h]
 |.tup l,h=>by
  simp only[CV.closed]at h;simp only[ren,Xl l h]
theorem Xl {ρ:List Nat}:∀(l:List CV),Jm l=true->JB ρ l=l
 |[],_=>rfl
 |c::cs,h=>by
  simp only[Jm,Ga]at h;simp only[JB,Y0 c h.1,Xl cs h.2]
end
theorem Jc {ρ:List Nat}:∀{els:List (List CV)},Jq els=true->els.map (JB ρ)=els
 |[],_=>rfl
 |e::l,h=>by
  simp only[Jq,Ga]at h;simp only[GK,Xl e h.1,Jc h.2]
section
variable {P:Program}{E:Env}{n0:Nat}{N:Fr}{Q:Exit->List CV->List CObj->Prop}{H:List CObj}{T:List CV}{k:List KItem}{m:Bk}{w:World}
theorem vr_ren (ρ:List Nat)(hr:Jdx ρ n0 H.length=true)(h:Ko P E n0 N Q k (JB ρ T) (Kq ρ H)):Ok P E n0 N Q k T H:=
 JfI (QP hr) (JA _ _ _ h)
theorem CallsC.ren {f:Nat}{args:List CV}{R R':CV->List CObj->Prop}(h:CallsC P E f args H R)(hR:∀v H',R v H'->∃ρ,Jdx ρ H.length H'.length=true/\R' (ren ρ v) (Kq ρ H')):CallsC P E f args H R':=by
 intro m w vs hs hv;refine(h m w vs hs hv).mono ?_;rintro e w' ⟨r,m',v,H',h1,h2,h3,h4,h5⟩;obtain⟨ρ,g1,g2⟩:=hR _ _ h5;have Ad:H.length<=H'.length:=by have:=h2.long (by rw[hs.len];exact Gd _);rw[h3.len]at this;exact this
 obtain⟨own',Az,he,hf,_⟩:=Sim.ren (n0:=H.length) h3 (QP g1) Ad;exact⟨r,_,_,_,h1,h2.trans he,Az,hf _ _ h4,g2⟩
theorem Sim.pad (hs:Sim E m H w):Sim E { m with own:=m.own++[⟨0,0,0,0⟩] } (H++[.dead]) w/\KN m.own (m.own++[⟨0,0,0,0⟩])/\Ext n0 m H w { m with own:=m.own++[⟨0,0,0,0⟩] } (H++[.dead]) w:=by
 have ho:=KN.append m.own [⟨0,0,0,0⟩];have key:∀(k:Nat) o x,(H++[CObj.dead])[k]? = some o->o≠.dead->(m.own++[⟨0,0,0,0⟩])[k]? = some x->H[k]? = some o/\m.own[k]? = some x:=by
  intro k o x hk hd hx;by_cases Ab:k<H.length
  ·rw[Gu Ab]at hk;rw[Gu (by rw[hs.len];exact Ab)]at hx;exact⟨hk,hx⟩
  ·rw[Gp (by omega)]at hk
   cases hj:k-H.length with
   |zero=>rw[hj]at hk;simp at hk;exact absurd hk.symm hd
   |succ j=>rw[hj]at hk;simp at hk
 have al:∀o:CObj,o.alive=true->o≠.dead:=by rintro o h rfl;simp[CObj.alive]at h
 refine⟨⟨by simp[hs.len],λk o x hk hx=>?_,hs.imm,hs.one,λk k' o o' x x' hk AA ha AX hx Aq hB=>?_,λk o x hk ha hx=>?_,λk s b hk=>?_,λk o x hk ha hx=>?_,hs.extlt,hs.gl⟩,ho,
  ⟨Gd _,λ_ _ _=>rfl,Kw.refl _,λB hB=>.inl ?_,λB i v hv=>.inl hv,λk x _ hx=>ho _ _ hx,λh=>by simp;omega,rfl,rfl,rfl⟩⟩
 ·by_cases hd:o=.dead
  ·subst hd;trivial
  ·obtain⟨h1,h2⟩:=key k o x hk hd hx;exact KD ho (Kw.refl _) (λ_=>rfl) (hs.obj k o x h1 h2)
 ·obtain⟨h1,h2⟩:=key k o x hk (al o ha) hx;obtain⟨h3,h4⟩:=key k' o' x' AA (al o' AX) Aq;exact hs.sep k k' o o' x x' h1 h3 ha AX h2 h4 hB
 ·obtain⟨h1,h2⟩:=key k o x hk (al o ha) hx;exact hs.ro k o x h1 ha h2
 ·have Ab:k<H.length:=by
   refine Lc λAb=>?_
   rw[Gp (by omega)]at hk
   cases hj:k-H.length with
   |zero=>rw[hj]at hk;simp at hk
   |succ j=>rw[hj]at hk;simp at hk
  rw[Gu Ab]at hk;exact hs.ext k s b hk
 ·obtain⟨h1,h2⟩:=key k o x hk (al o ha) hx;exact hs.extsep k o x h1 ha h2
 ·rcases hB with h|⟨k,o,x,hk,ha,hx,hB⟩
  ·exact .inl h
  ·obtain⟨h1,h2⟩:=key k o x hk (al o ha) hx;exact .inr ⟨k,o,x,h1,ha,h2,hB⟩
theorem Yn (h:Ko P E n0 N Q k T (H++[.dead])):Ok P E n0 N Q k T H:=by
 intro m w a b cs kr rest hp hd hk;obtain⟨hs,ho,he⟩:=Sim.pad (n0:=n0) hp.sim;exact Reach.step (.refl _ _) he (JA _ _ _ h _ w a b cs kr rest ⟨hs,KM ho (Kw.refl _) _ _ hp.tmps,by have:=hp.long;simp;omega⟩ (hd.ext he) hk)
theorem exAppend_row {z bytes id:Nat}{els:List (List CV)}{x:List CV}{xs:List (List CV)}(hH:H[id]? = some (Q7 z els)) :
  KU z bytes H (Qg id els) (x::xs)=some (Jy (els.length+(xs.length+1)) bytes,.slc H.length 0 (els.length+(xs.length+1)) none,H.set id .dead++[.arr z (els++x::xs)]):=by
 cases els with
 |nil=>
  have Ab:=(Gg.1 hH).1;have:H.set id .dead=H:=by
   refine GG λi=>?_
   rw[Gv]
   split
   ·rename_i h;subst h;rw[hH];simp[Q7]
   ·rfl
  simp[KU,Qg,this]
 |cons e l=>
  simp only[Q7]at hH;simp[KU,Qg,hH]
def Jhy (els:List (List CV)):Option Nat:=match els with
 |[]=>some 0
 |_::_=>none
def deadE (z:Nat)(els:List (List CV)):CObj:=match els with
 |[]=>.arr z []
 |_::_=>.dead
def condE (els:List (List CV))(n:Nat)(c:Cond):Cond:=match els with
 |[]=>.and (.le 1 (0+n)) c
 |_::_=>c
theorem condE_holds {els:List (List CV)}{n:Nat}{c:Cond}:(condE els (n+1) c).holds=c.holds:=by
 cases els with
 |nil=>simp[condE,Cond.holds]
 |cons e l=>rfl
theorem Jbv {e:List CV}{l els:List (List CV)}:Jhy (els++e::l)=none:=by cases els <;> rfl
theorem exAppend_E {z bytes id n:Nat}{els:List (List CV)}{x:List CV}{xs:List (List CV)}(hH:H[id]? = some (.arr z els))(hn:n=els.length) :
  KU z bytes H (.slc id 0 n (Jhy els)) (x::xs)=some (condE els (xs.length+1) (Jy (els.length+(xs.length+1)) bytes),.slc H.length 0 (els.length+(xs.length+1)) none,H.set id (deadE z els)++[.arr z (els++x::xs)]):=by
 subst hn
 cases els with
 |nil=>
  have Ab:=(Gg.1 hH).1;have:H.set id (.arr z [])=H:=by
   refine GG λi=>?_
   rw[Gv]
   split
   ·rename_i h;subst h;rw[hH]
   ·rfl
  simp[KU,Jhy,deadE,condE,hH,this]
 |cons e l=>simp[KU,Jhy,deadE,condE,hH]
mutual
theorem XP {id z:Nat}{els:List (List CV)}:∀(c:CV),c.closed=true->frz id z els c=c
 |.un,_=>rfl
 |.bool _,_=>rfl
 |.int _ _,_=>rfl
 |.str _,_=>rfl
 |.nilp,_=>rfl
 |.ptr _ _ _,h=>by simp[CV.closed]at h
 |.rptr _,_=>rfl
 |.nils,_=>rfl
 |.slc _ _ _ _,h=>by simp[CV.closed]at h
 |.rslc _ _ _,_=>rfl
 |.nilm,_=>rfl
 |.map _,h=>by simp[CV.closed]at h
 |.fn f l1 l2,h=>by
  simp only[CV.closed,Ga]at h;simp only[frz,QB l1 h.1,QB l2 h.2]
 |.yld _,_=>rfl
 |.nilf,_=>rfl
 |.iface t c,h=>by
  simp only[CV.closed]at h;simp only[frz,XP c h]
 |.nili,_=>rfl
 |.agg l,h=>by
  simp only[CV.closed]at h;simp only[frz,QB l h]
 |.tup l,h=>by
  simp only[CV.closed]at h;simp only[frz,QB l h]
theorem QB {id z:Nat}{els:List (List CV)}:∀(l:List CV),Jm l=true->JY id z els l=l
 |[],_=>rfl
 |c::cs,h=>by
  simp only[Jm,Ga]at h;simp only[JY,XP c h.1,QB cs h.2]
end
theorem Jf0 {f:Nat}{args:List CV}{z:Nat}{els:List (List CV)}(h:CallsC P Env.none f args [] λv H'=>∃id,v=Qg id els/\H'[id]? = some (Q7 z els))(ha:Jm args=true)(hc:Jq els=true):Fn P f args (.rslc z els none):=by
 refine fn_of_row (h.mono λv H' ⟨id,h1,h2⟩=>?_) ha hc
 cases els with
 |nil=>exact .inl ⟨rfl,h1⟩
 |cons e l=>exact .inr ⟨id,h2,none,h1⟩
theorem Jf1 {f:Nat}{args:List CV}{z:Nat}{els:List (List CV)}(h:CallsC P Env.none f args [] λv H'=>∃id off len cap es,v=.slc id off len cap/\H'[id]? = some (.arr z es)/\off+len<=es.length/\(es.drop off).take len=els/\Jq es=true)(ha:Jm args=true):Fn P f args (.rslc z els none):=by
 refine Jhf ?_ ha rfl;have h2:=h.freeze (R':=λv H'=>v=.rslc z els none) λv H' ⟨id,off,len,cap,es,h1,h2,h5,h4,h3⟩=>⟨id,z,es,h2,h3,by rw[h1];simp[frz,h4,h5]⟩
 exact h2
end
attribute [go_sem high] exAppend_E
attribute [go_sem] condE_holds exAppend_row gp List.length_set
end
section
section
variable {P:Program}{E:Env}{n0:Nat}{N:Fr}{Q:Exit->List CV->List CObj->Prop}{H:List CObj}{T:List CV}{k:List KItem}{m:Bk}{w:World}{a:Act}{o:Oper}
theorem invo_bin {op:Op}{b:BinOp}{tk:TK}{i j:IArg}(h:XJ P op=some (.bin b tk i j)):∃t d x y ty,op=.binOp b t x y ty/\P.underlying t=some d/\tk=Xr d/\JD x=some i/\JD y=some j:=by
 unfold XJ at h
 split at h
 all_goals (repeat' split at h)
 all_goals first
  |(cases h;done)
  |(obtain⟨_,_,h9⟩:=Yb h;cases h9;done)
  |skip
 cases h
 exact⟨_,_,_,_,_,rfl,‹_›,rfl,‹_›,‹_›⟩
theorem eqnil_good {i:IArg}{z:Nat}(Ac:XJ P o.op=some (.bin .eql .slice i (.c .nils)))(hx:Ka T i=.rslc z [] none)(hp:Pre E n0 m H w T a):∃b:Bool,Good P E n0 m H w (execOp a.eval o) (.bool b) H:=by
 obtain⟨t,d,x,y,ty,ho,hd,CW,Dm,dP⟩:=invo_bin Ac;obtain⟨e,rfl⟩:=XA CW.symm;have h1:=JJ hp.tmps Dm;have h2:=JJ hp.tmps dP;rw[hx]at h1;rw[aget_c]at h2;simp only[rel]at h1 h2;have key:∀u:Value,(∃p,u=.slice p 0 0)\/(∃p q r,u=.slice (some p) q r)->∃b:Bool,∀w,(binOp .eql t u (.slice none 0 0)).run P w=.ok (.bool b) w:=by
  rintro u (⟨p,rfl⟩|⟨p,q,r,rfl⟩)
  ·cases p with
   |none=>
    obtain⟨r,hr,_,_,Ag⟩:=eqv (P:=P) (op:=.eql) (t:=t) (b:=true) (v:=.bool true) (c:=.tt) (own:=[]) (imm:=λ_ _=>none) (z:=.slice none 0 0) (z':=.slice none 0 0) (λn w=>by simp only[Op.equalIn,Sem.run_bind,run_underlying hd,Result.andThen_ok];rfl) rfl rfl rfl (by simp) (by simp);simp only[rel]at hr;subst hr;exact⟨true,Ag⟩
   |some p=>
    obtain⟨r,hr,_,_,Ag⟩:=eqv (P:=P) (op:=.eql) (t:=t) (b:=false) (v:=.bool false) (c:=.tt) (own:=[]) (imm:=λ_ _=>none) (z:=.slice (some p) 0 0) (z':=.slice none 0 0) (λn w=>by simp only[Op.equalIn,Sem.run_bind,run_underlying hd,Result.andThen_ok];rfl) rfl rfl rfl (by simp) (by simp);simp only[rel]at hr;subst hr;exact⟨false,Ag⟩
  ·obtain⟨r',hr,_,_,Ag⟩:=eqv (P:=P) (op:=.eql) (t:=t) (b:=false) (v:=.bool false) (c:=.tt) (own:=[]) (imm:=λ_ _=>none) (z:=.slice (some p) q r) (z':=.slice none 0 0) (λn w=>by simp only[Op.equalIn,Sem.run_bind,run_underlying hd,Result.andThen_ok];rfl) rfl rfl rfl (by simp) (by simp);simp only[rel]at hr;subst hr;exact⟨false,Ag⟩
 have hu:(∃p,a.eval x=.slice p 0 0)\/(∃p q r,a.eval x=.slice (some p) q r):=by
  rcases h1 with ⟨_,_,b,hb⟩|⟨B,o1,c,hb,_⟩
  ·exact .inl ⟨b,hb⟩
  ·exact .inr ⟨_,_,_,hb⟩
 obtain⟨b,Ag⟩:=key _ hu;refine⟨b,Jr (r:=.bool b) hp.sim ?_ (by simp only[rel])⟩;have S9:∀cs ds,¬(a.eval x=.agg cs/\a.eval y=.agg ds):=by
  rintro cs ds ⟨_,h⟩;rw[h2]at h;cases h
 have U4:¬(a.eval x=.nilIface/\a.eval y=.nilIface):=by
  rintro⟨_,h⟩;rw[h2]at h;cases h
 simp only[execOp,ho,Sem.run_bind,Jcy .eql t x y _ _ w S9 U4,Result.andThen_ok,Sem.run_pure];rw[h2,Ag w];rfl
theorem ok_eqnil {d:Option Nat}{i:IArg}{z:Nat}{l:List IOper}(hx:Ka T i=.rslc z [] none)(h:∀b,Ko P E n0 N Q (.ops l::k) (put T d (.bool b)) H):Ok P E n0 N Q (.ops (⟨d,.bin .eql .slice i (.c .nils),none⟩::l)::k) T H:=by
 intro m w a b cs kr rest hp hd hk;obtain⟨ops,j,is,kr',o,rfl,ho,E5,AA⟩:=Jbp hk;obtain⟨hw,Cc,AY⟩:=JaH E5 (.inl rfl) hp.tmps;obtain⟨bb,m',w',r,nx,Ag,Dp,Ae,CX,Ao,CG⟩:=eqnil_good AY hx hp;have Al:=JcR (b:=b) (cs:=cs) (is:=is) (kr:=kr'++rest) ho hw (semAt_plain AY) Ag Dp;rw[Cc]at Al;have Ad:n0<=H.length:=by rw[<-CX.len];exact Ae.long (by rw[hp.sim.len];exact hp.long)
 refine Reach.step (.one Al) Ae ((JA _ _ _ (h bb)) m' w' _ b cs (.inRegion ops is::kr') rest (JcX CX (KM CG Ae.imm _ _ hp.tmps) Ad Ao) ?_ AA);rw[put_defers];exact hd.ext Ae
end
end
end Go.Cm
end
section
open Go.ChangeShapes Go.WideShapes Go.RowKit
namespace Go.Cm
section
def immW (W:World)(B i:Nat):Option Value:=match W.cell? ⟨B,i,none⟩ with
 |some v=>if v.oneCell'=true then some v else none
 |none=>none
theorem immW_some {W:World}{B i:Nat}{v:Value}(h:immW W B i=some v):W.cell? ⟨B,i,none⟩=some v/\v.oneCell'=true:=by
 unfold immW at h
 split at h
 ·split at h
  ·cases h;exact⟨‹_›,‹_›⟩
  ·cases h
 ·cases h
theorem immW_mk {W:World}{B i:Nat}{v:Value}(h:W.cell? ⟨B,i,none⟩=some v)(h1:v.oneCell'=true):immW W B i=some v:=by
 simp[immW,h,h1]
theorem sim_start (W:World)(hg:GLw W):Sim Env.none { own:=[],imm:=immW W,ext:=λ_=>False } [] W:=
 ⟨rfl,by simp,λB i v h=>(immW_some h).1,λB i v h=>(immW_some h).2,by simp,by simp,by simp,by simp,λB h=>hg.lt (h.resolve_left id),hg,by simp⟩
theorem one_of_rel {own:List Own}{imm:Nat->Nat->Option Value}{c:CV}{v:Value}(h:c.oneCell=true)(hr:rel own imm c v):v.oneCell'=true:=by
 cases c <;> simp[CV.oneCell]at h <;> simp only[rel]at hr
 case bool=>subst hr;rfl
 case int=>subst hr;rfl
 case str=>subst hr;rfl
 case nilp=>subst hr;rfl
 case ptr=>obtain⟨x,_,rfl⟩:=hr;rfl
 case rptr=>obtain⟨B,o,rfl,_⟩:=hr;rfl
 case nils=>subst hr;rfl
 case slc=>obtain⟨x,a,c,_,rfl,_⟩:=hr;rfl
 case rslc=>rcases hr with ⟨_,_,b,rfl⟩|⟨B,o,c,rfl,_⟩ <;> rfl
 case nilm=>subst hr;rfl
 case map=>obtain⟨x,_,rfl⟩:=hr;rfl
 case fn=>obtain⟨a,b,rfl,_⟩:=hr;rfl
 case yld=>subst hr;rfl
 case nilf=>subst hr;rfl
 case iface=>obtain⟨r,rfl,_⟩:=hr;rfl
 case nili=>subst hr;rfl
def JaY (P:Program):Nat->TypeId->Bool
 |0,_=>false
 |d+1,t=>match P.underlying t with
  |some .bool=>true
  |some (.int _)=>true
  |some .string=>true
  |some (.slice e)=>JaY P d e && decide (0<P.cellsOf e)
  |some (.struct fs)=>fs.toList.all λf=>JaY P d f.type
  |_=>false
def fits (P:Program):Nat->TypeId->List CV->Prop
 |0,_,_=>False
 |d+1,t,l=>match P.underlying t with
  |some .bool=>∃b,l=[.bool b]
  |some (.int k)=>∃x,l=[.int k x]/\InR k x
  |some .string=>∃s,l=[.str s]/\s.size<=maxLen
  |some (.slice e)=>∃els,l=[.rslc (P.cellsOf e) els none]/\els.length<=maxLen/\∀x∈els,fits P d e x
  |some (.struct fs)=>∃ls:List (List CV),l=ls.flatten/\ls.length=fs.size/\∀(i:Nat) f li,fs[i]? = some f->ls[i]? = some li->fits P d f.type li
  |_=>False
theorem Jbz:∀{l:List CV},Q5 l=true↔∀c∈l,c.oneCell=true
 |[]=>by simp[Q5]
 |c::l=>by simp[Q5,Jbz (l:=l)]
theorem Jdn {own:List Own}{imm:Nat->Nat->Option Value}:∀(sizes:List Nat) (cs:List Value) (ls:List (List CV)),cs.length=sizes.sum->ls.length=sizes.length->
  (∀(j:Nat) n li,sizes[j]? = some n->ls[j]? = some li->JS own imm li ((cs.drop (sizes.take j).sum).take n))->JS own imm ls.flatten cs
 |[],cs,ls,h1,h2,_=>by
  have:ls=[]:=G7 h2;subst this;have:cs=[]:=G7 (by simpa using h1);subst this;simp[JS]
 |n::sizes,cs,[],_,h2,_=>by simp at h2
 |n::sizes,cs,l::ls,h1,h2,h=>by
  simp only[La]at h1;have e:cs=cs.take n++cs.drop n:=(List.take_append_drop n cs).symm;have h3:=h 0 n l rfl rfl;simp only[H8,List.sum_nil,H9]at h3;have ih:=Jdn sizes (cs.drop n) ls (by rw[List.length_drop];omega) (by simpa using h2) (λj m li hj hl=>by
   have:=h (j+1) m li (by simpa using hj) (by simpa using hl);simp only[Hy,La]at this;rw[List.drop_drop];exact this)
  rw[e,List.flatten_cons];exact QQ h3 ih
section
variable {H:Type}{enc:TypeId×Value->H}{P:Program}{W:World}{IU:Bool}
theorem cells?_get {base:Nat}{a:Addr}{n:Nat}{cs:List Value}(h:W.cells? base a n=some cs):cs.length=n/\∀t,t<n->W.cell? (a.add t)=cs[t]?:=by
 unfold World.cells? at h
 split at h
 ·have hl:=mapM_some_length h;refine⟨by simpa using hl,λt ht=>mapM_some_get h t t (by simp[ht])⟩
 ·cases h
theorem Jea {T:TypeId->Prop}(K:Kids P T):∀(d:Nat) (t:TypeId) (cs:List Value) (x:DataW H×List MemPlace) (fuel:Nat),T t->JaY P d t=true->
  DataW.trod enc P W 0 (λ_=>true) IU fuel t cs=some x->∃l,JS [] (immW W) l cs/\Q5 l=true/\fits P d t l
 |0,_,_,_,_,_,h,_=>by simp[JaY]at h
 |d+1,t,cs,x,fuel,hT,hp,h=>by
  unfold JaY at hp
  split at hp
  ·rename_i ht;obtain⟨b,rfl,_⟩:=DataW.trod_bool ht h;exact⟨[.bool b],by simp[JS,rel],rfl,by simp[fits,ht]⟩
  ·rename_i k ht;obtain⟨n,rfl,_,hw⟩:=DataW.trod_int ht h;refine⟨[.int k n],by simp[JS,rel],rfl,?_⟩;simp only[fits,ht];refine⟨n,rfl,?_⟩;simp only[Lit.wf,Ga,decide_eq_true_eq]at hw;exact⟨hw.1,hw.2⟩
  ·rename_i ht;obtain⟨s,rfl,_,hs⟩:=DataW.trod_string ht h;exact⟨[.str s],by simp[JS,rel],rfl,by simp[fits,ht];exact hs⟩
  ·rename_i e ht;simp only[Ga,decide_eq_true_eq]at hp;obtain⟨fF,hz⟩:=hp;have iq:=K.slice hT ht;rcases DataW.trod_slice ht h with ⟨rfl,_⟩|⟨a,len,cap,elems,rest,n,rfl,rfl,_,_,C9,Mv,Em,he,hr,_⟩
   ·refine⟨[.rslc (P.cellsOf e) [] none],by simp[JS,rel],rfl,?_⟩;simp only[fits,ht];exact⟨[],rfl,by simp,by simp⟩
   ·have hr:=hr rfl;have key:∀i,i<len->∃li,(∃csi,W.cells? 0 (a.add (i*P.cellsOf e)) (P.cellsOf e)=some csi/\JS [] (immW W) li csi)/\Q5 li=true/\fits P d e li:=by
     intro i hi;have h1:=he i hi;rw[Gb (by omega)]at h1;obtain⟨csi,h2,h3⟩:=Hr.1 h1;obtain⟨li,g1,g2,g3⟩:=Jea K d e csi _ n iq fF h3;exact⟨li,⟨csi,h2,g1⟩,g2,g3⟩
    have keyC:∃F:Nat->List CV,∀i,i<len->(∃csi,W.cells? 0 (a.add (i*P.cellsOf e)) (P.cellsOf e)=some csi/\JS [] (immW W) (F i) csi)/\Q5 (F i)=true/\fits P d e (F i):=by
     refine⟨λi=>if hi:i<len then Le (key i hi) else [],λi hi=>?_⟩;simp only[dif_pos hi];exact Ld (key i hi)
    obtain⟨F,hF⟩:=keyC;refine⟨[.rslc (P.cellsOf e) ((Gj len).map F) none],?_,rfl,?_⟩
    ·simp only[JS];refine⟨_,_,rfl,?_,rfl⟩;simp only[rel];by_cases Dx:cap=0
     ·subst Dx;have:len=0:=by omega
      subst this;exact .inl ⟨.inl trivial,rfl,_,rfl⟩
     ·have Oy:∃b off,a=⟨b,off,none⟩:=by
       have Eo:∃v,W.cell? a=some v:=by
        by_cases BZ:len=0
        ·subst BZ;have h1:=hr.2 0 (by omega);rw[Gb (by omega)]at h1;obtain⟨csi,h2,_⟩:=Hr.1 h1;obtain⟨h3,h4⟩:=cells?_get h2;have h5:=h4 0 hz;rw[Gb (by omega)]at h5;exact⟨_,by simpa [Addr.add]using h5⟩
        ·obtain⟨csi,h2,_⟩:=(hF 0 (by omega)).1;obtain⟨h3,h4⟩:=cells?_get h2;have h5:=h4 0 hz;rw[Gb (by omega)]at h5;exact⟨_,by simpa [Addr.add]using h5⟩
       obtain⟨v,hv⟩:=Eo;obtain⟨b,off,spot⟩:=a;have PT:spot=none:=World.cell?_spot hv;subst PT;exact⟨b,off,rfl⟩
      obtain⟨b,off,rfl⟩:=Oy;refine .inr ⟨b,off,cap,by simp,by simpa using C9,by simp,?_⟩;rw[Qh];intro j el hj;have Bc:j<len:=by have:=(Gg.1 hj).1;simpa using this
      simp[Bc]at hj;subst hj;obtain⟨⟨csi,h2,h3⟩,h4,_⟩:=hF j Bc;obtain⟨h5,h6⟩:=cells?_get h2;have Ad:=JK h3;refine⟨by rw[Ad,h5],λt c hc=>?_⟩;obtain⟨v,hv,Ao⟩:=XW h3 hc;have Dn:t<P.cellsOf e:=by have:=(Gg.1 hv).1;omega
      have h7:=h6 t Dn;rw[hv]at h7;rw[Go.WideShapes.add_plain,Go.WideShapes.add_plain]at h7;refine⟨v,immW_mk h7 (one_of_rel (Jbz.1 h4 c (Gl hc)) Ao),Ao⟩
    ·simp only[fits,ht];refine⟨_,rfl,by simp;omega,λy hy=>?_⟩;obtain⟨i,hi,rfl⟩:=GQ.1 hy;exact(hF i (Gy.1 hi)).2.2
  ·rename_i fs ht;obtain⟨xs,n,rfl,rfl,Ad,Fa,hf⟩:=DataW.trod_struct ht h;obtain⟨Du,Av,EB⟩:=K.struct hT ht;rw[GH]at hp;have key:∀(i:Nat) f,fs[i]? = some f->∃li,JS [] (immW W) li ((cs.drop f.offset).take (P.cellsOf f.type))/\Q5 li=true/\fits P d f.type li:=by
    intro i f hi;have h1:=hf i f hi;have Ab:i<fs.size:=(Gz.1 hi).1;rw[Gb (by omega)]at h1;have hm:f∈fs.toList:=Gl (by rw[GR];exact hi);exact Jea K d f.type _ _ n (Du f hm) (hp f hm) h1
   have keyC:∃F:Nat->List CV,∀(i:Nat) f,fs[i]? = some f->JS [] (immW W) (F i) ((cs.drop f.offset).take (P.cellsOf f.type))/\Q5 (F i)=true/\fits P d f.type (F i):=by
    refine⟨λi=>if hi:i<fs.size then Le (key i fs[i] (Gf hi)) else [],λi f hi=>?_⟩;have Ab:i<fs.size:=(Gz.1 hi).1;simp only[dif_pos Ab];have:=Ld (key i fs[i] (Gf Ab));rw[Gf Ab]at hi
    cases hi
    exact this
   obtain⟨F,hF⟩:=keyC;refine⟨((Gj fs.size).map F).flatten,?_,?_,?_⟩
   ·refine Jdn (fs.toList.map λf=>P.cellsOf f.type) cs _ (by rw[Ad,Av]) (by simp) (λj n li hj hl=>?_);rw[Gw]at hj
    cases Ul:fs.toList[j]? with
    |none=>simp[Ul]at hj
    |some f=>
     simp[Ul]at hj;subst hj;have RQ:fs[j]? = some f:=by rw[<-GR];exact Ul
     have Ab:j<fs.size:=(Gz.1 RQ).1;simp[Ab]at hl;subst hl;have h1:=(hF j f RQ).1;rw[EB j f Ul]at h1;rw[<-List.map_take];exact h1
   ·rw[Jbz];intro c hc;obtain⟨l1,Fj,Dc⟩:=List.mem_flatten.1 hc;obtain⟨i,hi,rfl⟩:=GQ.1 Fj;rw[Gy]at hi;exact Jbz.1 (hF i fs[i] (Gf hi)).2.1 c Dc
   ·simp only[fits,ht];refine⟨_,rfl,by simp,λi f li hi hl=>?_⟩;have Ab:i<fs.size:=(Gz.1 hi).1;simp[Ab]at hl;subst hl;exact(hF i f hi).2.2
  ·simp at hp
def JbZ (P:Program)(d:Nat)(t:TypeId)(c:CV):Prop:=match P.underlying t with
 |some (.struct _)=>∃l,c=.agg l/\fits P d t l
 |_=>fits P d t [c]
def fitsAll (P:Program)(d:Nat):List TypeId->List CV->Prop
 |[],l=>l=[]
 |t::ts,l=>∃c cs,l=c::cs/\JbZ P d t c/\fitsAll P d ts cs
theorem trod_top {T:TypeId->Prop}(K:Kids P T){d:Nat}{t:TypeId}{v:Value}{dd:DataW H}{p:List MemPlace}{base:Nat}(hT:T t)(hp:JaY P d t=true)(hv:Value.okWide P W .any base t v)
  (h:DataW.Trod enc P W 0 (λ_=>true) IU t v dd p):∃c,rel [] (immW W) c v/\JbZ P d t c:=by
 obtain⟨fuel,hf⟩:=h;obtain⟨l,h1,h2,h3⟩:=Jea K d t _ _ fuel hT hp hf
 cases d with
 |zero=>simp[JaY]at hp
 |succ d=>
  have one:∀w:Value,w=v->v.cells=#[v]->(∀fs,P.underlying t≠some (.struct fs))->∃c,rel [] (immW W) c v/\JbZ P (d+1) t c:=by
   intro w _ hc U2;rw[hc]at h1;simp only[JS]at h1
   cases l with
   |nil=>simp[JS]at h1
   |cons c l=>
    simp only[JS]at h1;obtain⟨r,rs,e,g1,g2⟩:=h1;simp at e;obtain⟨rfl,rfl⟩:=e;have:l=[]:=G7 (by rw[JK g2];rfl);subst this;refine⟨c,g1,?_⟩;unfold JbZ
    split
    ·rename_i fs Fw;exact absurd Fw (U2 fs)
    ·exact h3
  have DC:=hp;unfold JaY at hp
  split at hp
  ·rename_i ht;obtain⟨b,rfl⟩:=okWide_bool ht hv;exact one _ rfl rfl (by rw[ht];simp)
  ·rename_i k ht;obtain⟨b,rfl⟩:=okWide_int ht hv;exact one _ rfl rfl (by rw[ht];simp)
  ·rename_i ht;obtain⟨b,rfl⟩:=okWide_string ht hv;exact one _ rfl rfl (by rw[ht];simp)
  ·rename_i e ht;obtain⟨a,b,c,rfl⟩:=okWide_slice ht hv;exact one _ rfl rfl (by rw[ht];simp)
  ·rename_i fs ht;obtain⟨cs,rfl,_⟩:=okWide_struct ht hv;refine⟨.agg l,?_,?_⟩
   ·simp only[rel];exact⟨cs,rfl,h1⟩
   ·simp only[JbZ,ht];exact⟨l,rfl,h3⟩
  ·simp at hp
theorem trod_all {T:TypeId->Prop}(K:Kids P T){d:Nat}{base:Nat}:∀{ts:List TypeId}{vs:List Value}{ds:List (DataW H)}{p:List MemPlace},(∀t∈ts,T t/\JaY P d t=true)->
  (∀(j:Nat) t v,ts[j]? = some t->vs[j]? = some v->Value.okWide P W .any base t v)->DataW.TrodAll enc P W 0 (λ_=>true) IU ts vs ds p->∃l,JS [] (immW W) l vs/\fitsAll P d ts l
 |[],[],[],_,_,_,_=>⟨[],by simp[JS],rfl⟩
 |t::ts,v::vs,dd::ds,_,hT,hv,⟨p,q,h1,h2,_⟩=>by
  obtain⟨c,g1,g2⟩:=trod_top K (hT t (by simp)).1 (hT t (by simp)).2 (hv 0 t v rfl rfl) h1;obtain⟨l,g3,g4⟩:=trod_all K (λt ht=>hT t (by simp[ht])) (λj t v hj UG=>hv (j+1) t v (by simpa using hj) (by simpa using UG)) h2;exact⟨c::l,by simp only[JS];exact⟨v,vs,rfl,g1,g3⟩,c,l,rfl,g2,g4⟩
 |[],[],_::_,_,_,_,h=>h.elim
 |[],_::_,_,_,_,_,h=>by cases h
 |_::_,[],_,_,_,_,h=>by cases h
 |_::_,_::_,[],_,_,_,h=>h.elim
theorem Jb8 {W':World}{sp:Nat->Bool}:∀{ts:List TypeId}{vs:List Value}{ds:List (DataW H)}{p:List MemPlace},DataW.TrodAll enc P W 0 sp IU ts vs ds p->(∀x∈p,W.sameAt W' x)->DataW.TrodAll enc P W' 0 sp IU ts vs ds p
 |[],[],[],_,h,_=>h
 |t::ts,v::vs,dd::ds,_,⟨p,q,⟨n,h1⟩,h2,e⟩,hs=>by
  subst e;exact⟨p,q,⟨n,DataW.trod_carry n _ _ _ h1 λx hx=>hs x (List.mem_append_left _ hx)⟩,Jb8 h2 λx hx=>hs x (List.mem_append_right _ hx),rfl⟩
 |[],[],_::_,_,h,_=>h.elim
 |[],_::_,_,_,h,_=>by cases h
 |_::_,[],_,_,h,_=>by cases h
 |_::_,_::_,[],_,h,_=>h.elim
theorem JgR {f:Func}{s:ChangeSpec}{apart fresh Dk again:Bool}{W W':World}{args:Array Value}{v:Value}{ds gs:List (DataW H)}{before pa pv:List MemPlace}
  (hW:DataW.Whole enc P f.params.toList s.vars apart W args.toList ds gs before)
  (BC:∀(b:Nat) (sp:Nat->Bool) (hd:Bool),DataW.TrodAll enc P W' b sp hd f.resultTypes.toList (v.resultList f.resultTypes.size) (s.fn H (ds++gs)).results [])
  (Dz:∀sp:Nat->Bool,(∀p∈before,sp p.block=true)->DataW.TrodAll enc P W' 0 sp true f.params.toList args.toList (s.fn H (ds++gs)).args pa)
  (Ef:∀sp:Nat->Bool,(∀p∈before,sp p.block=true)->DataW.TrodVars enc P W' sp s.vars (s.fn H (ds++gs)).vars pv)
  (EK:before=pa++pv) (hb:Below W.heap.size W W')
  (Ap:∀(j:Nat) (t:TypeId) (r:Value),f.resultTypes[j]? = some t->(v.resultList f.resultTypes.size)[j]? = some r->Value.okWide P W' .any 0 t r) :
  s.post enc P f apart fresh Dk again W args v W':=by
 have Ab:∀p∈before,p.block<W.heap.size:=λp hp=>hW.lt p hp
 have IB:∀p∈before,(λb=>decide (b<W.heap.size)) p.block=true:=λp hp=>by simpa using Ab p hp
 refine⟨ds,gs,before,[],pa,pv,hW,BC _ _ _,Dz _ IB,Ef _ IB,World.keptBut_mono (λp hp=>⟨hp,?_⟩) (hb.frame (·∈before)),λ_=>?_⟩
 ·rw[EK,List.mem_append]at hp;exact Or.inr hp
 ·obtain⟨_,_,_,_,_,hz,hn⟩:=hW;refine⟨Ap,_,_,([]++pa)++pv,⟨[]++pa,pv,trodAll_append (Dz _ (λ_ _=>rfl)) (BC _ _ _),Ef _ (λ_ _=>rfl),rfl,?_,?_⟩,?_⟩
  ·intro b off hp;have AQ:MemPlace.cell b off∈before:=by rw[EK];simpa using hp
   rw[hb.frozen (Ab _ AQ)];exact hz b off AQ
  ·intro ha;have:=hn ha;rw[EK]at this;simpa using this
  ·intro p hp _;rw[EK];simpa using hp
theorem law_contract {f:Nat}{fn:Func}{s:ChangeSpec}{bt:TypeId}{d:Nat}(hl:laidOutB P=true)(hm:mapsRowed P=true)
  (hz:((Gj P.types.size).all λt=>match P.underlying t with|some (.slice e)=>decide (0<P.cellsOf e)|_=>true)=true)
  (bZ:P.underlying bt=some .bool) (BC:fn.resultTypes=#[bt]) (Ef:s.vars=[]) (Ez:∀ds:List (DataW H),ds.length=fn.params.size->(s.fn H ds).results=[.lit (.bool true)]/\(s.fn H ds).args=ds/\(s.fn H ds).vars=[])
  (AO:(fn.params.toList.all λt=>decide (t<P.types.size) && JaY P d t)=true)
  (law:∀l:List CV,fitsAll P d fn.params.toList l->Fn P f l (.bool true))
  (W:World) (base:Nat) (args:Array Value) (ds gs:List (DataW H)) (before:List MemPlace) (FE:∀(j:Nat) t v,fn.params[j]? = some t->args[j]? = some v->Value.okWide P W .any base t v)
  (hW:DataW.Whole enc P fn.params.toList s.vars false W args.toList ds gs before) (hg:GLw W) :
  Calls P f args W λe W'=>∃v,e=.returned v/\s.post enc P fn false true false false W args v W':=by
 have K:=kids_rows hl hm;have RO:=slices_full_of P hz;rw[GH]at AO;have hT:∀t∈fn.params.toList,t<P.types.size/\JaY P d t=true:=λt ht=>by simpa using AO t ht
 have cu:=hW;obtain⟨p,q,hA,hV,rfl,jv,FQ⟩:=hW;rw[Ef]at hV;obtain⟨rfl,rfl⟩:=trodVars_none hV;obtain⟨l,h1,h2⟩:=trod_all (d:=d) (base:=base) K hT (λj t v hj UG=>FE j t v (by rw[<-GR];exact hj) (by rw[<-GR];exact UG)) hA;have hc:=law l h2 Env.none [] _ W args (sim_start W hg) h1;refine(hc.calls λk=>Jej none k).mono ?_;rintro e W' ⟨r,m',v,H',rfl,Ae,hs,Ao,rfl,rfl⟩;simp only[rel]at Ao;subst Ao;have BJ:∀B,¬owned { own:=[],imm:=immW W,ext:=λ_=>False } [] B:=by
  rintro B (h|⟨k,o,x,hk,_⟩)
  ·exact h
  ·simp at hk
 have hb:Below W.heap.size W W':=⟨Ae.same.1,Ae.same.2.2,Ae.same.2.1,Ae.size,λk hk=>Ae.frame k hk (BJ k)⟩;have Ab:∀x∈p++[],x.block<W.heap.size:=λx hx=>cu.lt x hx
 have Bq:ds.length=fn.params.size:=by have:=(trodAll_length hA).2;simpa using this
 obtain⟨EA,Iw,UO⟩:=Ez (ds++[]) (by simpa using Bq);refine⟨_,rfl,JgR (pa:=p) (pv:=[]) cu (λ_ _ _=>?_) (λsp UN=>?_) (λ_ _=>?_) (by simp) hb (ok_one BC rfl (okWide_bool_mk bZ _))⟩
 ·rw[BC,EA];exact trodAll_cons_mk (shut_bool bZ _) trodAll_mk0
 ·rw[Iw,List.append_nil];exact DataW.TrodAll.respare K RO (λt ht=>(hT t ht).1) (Jb8 hA λx hx=>hb.same (Ab x (by simpa using hx))) (λx hx=>UN x (by simpa using hx))
 ·rw[Ef,UO];rfl
theorem fits_int {d:Nat}{t:TypeId}{k:IntKind}{l:List CV}(ht:P.underlying t=some (.int k))(h:fits P d t l):∃x,l=[.int k x]/\InR k x:=by
 cases d with
 |zero=>exact h.elim
 |succ d=>simpa only[fits,ht]using h
theorem fits_str {d:Nat}{t:TypeId}{l:List CV}(ht:P.underlying t=some .string)(h:fits P d t l):∃b,l=[.str b]/\b.size<=maxLen:=by
 cases d with
 |zero=>exact h.elim
 |succ d=>simpa only[fits,ht]using h
theorem Jda {d:Nat}{t e:TypeId}{l:List CV}(ht:P.underlying t=some (.slice e))(h:fits P (d+1) t l):∃els,l=[.rslc (P.cellsOf e) els none]/\els.length<=maxLen/\∀x∈els,fits P d e x:=by
 simpa only[fits,ht]using h
theorem fits_struct2 {d:Nat}{t:TypeId}{f0 f1:Field}{l:List CV}(ht:P.underlying t=some (.struct #[f0,f1]))(h:fits P (d+1) t l):∃a b,l=a++b/\fits P d f0.type a/\fits P d f1.type b:=by
 simp only[fits,ht]at h;obtain⟨ls,rfl,hl,hf⟩:=h
 match ls,hl with
 |[a,b],_=>exact⟨a,b,by simp,hf 0 f0 a rfl rfl,hf 1 f1 b rfl rfl⟩
end
end
end Go.Cm
end
section
namespace Go.Cm
section
inductive Foot where
 |all
 |on (l:List Nat)
def Foot.has:Foot->Nat->Prop
 |.all,_=>True
 |.on l,x=>x∈l
def Foot.meets:Foot->Foot->Bool
 |.all,.all=>true
 |.all,.on l=>!l.isEmpty
 |.on l,.all=>!l.isEmpty
 |.on l,.on l'=>l.any λx=>l'.contains x
theorem Foot.meets_of {a b:Foot}{x:Nat}(ha:a.has x)(hb:b.has x):a.meets b=true:=by
 cases a <;> cases b <;> simp only[Foot.has,Foot.meets]at *
 ·rename_i l;cases l <;> simp_all
 ·rename_i l;cases l <;> simp_all
 ·exact H6.2 ⟨x,ha,by simpa using hb⟩
def hat (H:List CObj):Nat->Option CObj×Nat
 |0=>(none,H.length)
 |i+1=>(H[i]?,0)
theorem YT {H H':List CObj}(h:∀x,hat H x=hat H' x):H=H':=GG λi=>by
 have:=h (i+1);simpa [hat]using this
def Xc (fs:List (Foot×Foot))(i:Nat):Foot×Foot:=fs.getD i (.all,.all)
section
variable (P:Program)(E:Env)
structure HS (io:IOper)(T:List CV)(H:List CObj)(v:CV)(H':List CObj)(f:Foot×Foot):Prop where
 out:∀x,¬f.2.has x->hat H' x=hat H x
 run:∀T2 H2,agree io.rd T T2->(∀x,f.1.has x->hat H2 x=hat H x)->∃H2',(∀x,f.2.has x->hat H2' x=hat H' x)/\(∀x,¬f.2.has x->hat H2' x=hat H2 x)/\
  ∀(n0:Nat) (N:Fr) (Q:Exit->List CV->List CObj->Prop) (k:List KItem) (l:List IOper),Ok P E n0 N Q (.ops l::k) (put T2 io.dst v) H2'->Ok P E n0 N Q (.ops (io::l)::k) T2 H2
end
def Ql (l:List IOper)(es:List (List Nat))(fs:List (Foot×Foot)):Bool:=
 ordered l es && (Gj l.length).all λi=>(Gj l.length).all λj=>i == j || !((Xc fs i).2.meets (Xc fs j).1 || (Xc fs i).2.meets (Xc fs j).2) || (es.getD j []).contains i || (es.getD i []).contains j
structure OrderedH (l:List IOper)(es:List (List Nat))(fs:List (Foot×Foot)):Prop where
 base:Ordered l es
 ord:∀i j x,i<l.length->j<l.length->i≠j->(Xc fs i).2.has x->((Xc fs j).1.has x\/(Xc fs j).2.has x)->i∈es.getD j []\/j∈es.getD i []
theorem YQ {l:List IOper}{es:List (List Nat)}{fs:List (Foot×Foot)}(h:Ql l es fs=true):OrderedH l es fs:=by
 simp only[Ql,Ga,GH,Gy]at h;refine⟨Jci h.1,λi j x hi hj Ai h1 h2=>?_⟩;have h3:=h.2 i hi j hj;have hm:((Xc fs i).2.meets (Xc fs j).1 || (Xc fs i).2.meets (Xc fs j).2)=true:=by
  rcases h2 with h2|h2
  ·rw[Foot.meets_of h1 h2];rfl
  ·rw[Foot.meets_of h1 h2,Hl]
 have OE:(i == j)=false:=by simpa using Ai
 rw[hm,OE]at h3;simp only[Hg,Hf,GA,GN]at h3;exact h3
def AtH (l:List IOper)(fs:List (Foot×Foot))(hh:Nat->List CObj)(S:Nat->Bool)(H:List CObj):Prop:=
 ∀x m,m<=l.length->(∀i,i<l.length->(Xc fs i).2.has x->(S i=true↔i<m))->hat H x=hat (hh m) x
section
variable {P:Program}{E:Env}{n0:Nat}{N:Fr}{Q:Exit->List CV->List CObj->Prop}{H:List CObj}{T:List CV}{k:List KItem}{l:List IOper}{es:List (List Nat)}{fs:List (Foot×Foot)}{v:Nat->CV}{hh:Nat->List CObj}
theorem JdU (hv:∀j,j<l.length->HS P E (Xb l j) (tst l v T j) (hh j) (v j) (hh (j+1)) (Xc fs j)){x a:Nat}:∀d,a+d<=l.length->(∀i,a<=i->i<a+d->¬(Xc fs i).2.has x)->hat (hh (a+d)) x=hat (hh a) x
 |0,_,_=>rfl
 |d+1,h,hn=>by
  have h1:=(hv (a+d) (by omega)).out x (hn (a+d) (by omega) (by omega));have h2:=JdU hv d (by omega) λi hi Da=>hn i hi (by omega)
  rw[<-h2];exact h1
theorem Jge (ho:OrderedH l es fs)(hv:∀j,j<l.length->HS P E (Xb l j) (tst l v T j) (hh j) (v j) (hh (j+1)) (Xc fs j))(AL:Ok P E n0 N Q k (tst l v T l.length) (hh l.length)){S:Nat->Bool}{is:List Nat}(h:Sched l.length es S is) :
  ∀T' H',(∀i,i<l.length->S i=true->∀e∈es.getD i [],S e=true)->At l v T S T'->AtH l fs hh S H'->Ok P E n0 N Q (.ops (is.map (Xb l))::k) T' H':=by
 induction h with
 |nil hn=>
  rename_i S;intro T' H' Ay hA hB;have Ak:∀i,i<l.length->S i=true:=by
   intro i
   induction i using GZ with
   |_ i ih=>
    intro hi
    cases hS:S i with
    |true=>rfl
    |false=>
     obtain⟨e,he,Og⟩:=hn i hi hS;have Ab:=ho.base.lt i hi e he;have:=ih e Ab (by omega);rw[this]at Og;cases Og
  have hH:H'=hh l.length:=YT λx=>hB x l.length (Gd _) λi hi _=>⟨λ_=>hi,λ_=>Ak i hi⟩
  rw[hA.all ho.base Ak,hH];exact Jbq AL
 |cons hi hS hr _ ih=>
  rename_i S j is Cu;intro T' H' Ay hA hB;have key:∀i,i<l.length->i≠j->∀x,(Xc fs i).2.has x->((Xc fs j).1.has x\/(Xc fs j).2.has x)->(S i=true↔i<j):=by
   intro i Af Ai x h1 h2;have h3:=ho.ord i j x Af hi Ai h1 h2
   constructor
   ·intro ED;rcases h3 with h3|h3
    ·exact ho.base.lt j hi i h3
    ·have:=Ay i Af ED j h3;rw[hS]at this;cases this
   ·intro Ab;rcases h3 with h3|h3
    ·exact hr i h3
    ·have:=ho.base.lt i Af j h3;omega
  obtain⟨H2',g1,g2,g3⟩:=(hv j hi).run T' H' (hA.agree ho.base Ay hi hS hr) (λx hx=>hB x j (by omega) λi Af hw=>by
   by_cases Cw:i=j
   ·subst Cw;rw[hS];simp
   ·exact key i Af Cw x hw (.inl hx))
  refine g3 n0 N Q k _ (ih _ _ (λi Af ED e he=>?_) (hA.step ho.base hi hS) ?_)
  ·simp only[GA,beq_iff_eq]at ED|-;rcases ED with h|h
   ·exact .inl (Ay i Af h e he)
   ·subst h;exact .inl (hr e he)
  ·intro x m hm hw;by_cases hx:(Xc fs j).2.has x
   ·rw[g1 x hx];have Uf:j<m:=(hw j hi hx).1 (by simp);have hc:=JdU hv (x:=x) (a:=j+1) (m-(j+1)) (by omega) (λi h1 h2 Dm=>by
     have Af:i<l.length:=by omega
     have h4:=(hw i Af Dm).2 (by omega);have Ai:i≠j:=by omega
     have h5:S i=true:=by simpa [Ai]using h4
     have:=(key i Af Ai x Dm (.inr hx)).1 h5;omega)
    have e:j+1+(m-(j+1))=m:=by omega
    rw[e]at hc;exact hc.symm
   ·rw[g2 x hx];refine hB x m hm λi Af Dm=>?_
    have Ai:i≠j:=λe=>hx (e▸Dm)
    have:=hw i Af Dm;simpa [Ai]using this
def clo (es:List (List Nat)):List (List Nat):=es.foldl (λacc e=>acc++[(e++e.flatMap λd=>acc.getD d []).eraseDups]) []
def Jbd (n:Nat)(es es':List (List Nat)):Bool:=(Gj n).all λj=>((es.getD j []).all λe=>(es'.getD j []).contains e) && (es'.getD j []).all λe=>(es.getD j []).contains e || (es.getD j []).any λd=>decide (d<j) && (es'.getD d []).contains e
theorem Jef {n:Nat}{es es':List (List Nat)}(h:Jbd n es es'=true){S:Nat->Bool}{is:List Nat}(hs:Sched n es S is):(∀i,i<n->S i=true->∀e∈es.getD i [],S e=true)->Sched n es' S is:=by
 simp only[Jbd,GH,Gy,Ga,GA,H6,decide_eq_true_eq,GN]at h;have up:∀(S:Nat->Bool),(∀i,i<n->S i=true->∀e∈es.getD i [],S e=true)->∀j,j<n->(∀e∈es.getD j [],S e=true)->∀e∈es'.getD j [],S e=true:=by
  intro S Ay j
  induction j using GZ with
  |_ j ih=>
   intro hj hd e he;rcases (h j hj).2 e he with h1|⟨d,h1,h2,h3⟩
   ·exact hd e h1
   ·exact ih d h2 (by omega) (Ay d (by omega) (hd d h1)) e h3
 induction hs with
 |nil hn=>
  intro _;refine .nil λi hi hS=>?_
  obtain⟨e,h1,h2⟩:=hn i hi hS;exact⟨e,(h i hi).1 e h1,h2⟩
 |cons hi hS hr _ ih=>
  rename_i S j is _;intro Ay;refine .cons hi hS (up S Ay j hi hr) (ih λi Af ED e he=>?_);simp only[GA,beq_iff_eq]at ED|-;rcases ED with h1|h1
  ·exact .inl (Ay i Af h1 e he)
  ·subst h1;exact .inl (hr e he)
theorem JgU {es':List (List Nat)}(DT:Jbd l.length es es'=true)(hm:P.follows .mixedOrders=true)(AP:Ql l es' fs=true)(hv:∀j,j<l.length->HS P E (Xb l j) (tst l v T j) (hh j) (v j) (hh (j+1)) (Xc fs j))(h0:hh 0=H)(AL:Ok P E n0 N Q k (tst l v T l.length) (hh l.length)):Ok P E n0 N Q (.code (.dreg l es)::k) T H:=by
 intro m w a b cs kr rest hp hd hk;simp only[Yz]at hk;obtain⟨c',kr',rfl,hc,AA⟩:=hk;obtain⟨id,ops,rfl,h1,rfl⟩:=Jg3 hc;obtain⟨hl,hg⟩:=XH _ _ h1;have CB:ops.size=l.length:=by simpa using hl.symm
 have Bv:=JgF ops ops.size (w.tape w.drawn (.order b.fn id)) (Gm ops.size false) (by simp) (by simp);have Al:=stepR_region_draw (P:=P) (b:=b) (a:=a) (k:=kr'++rest) (cs:=cs) (w:=w) (ops:=ops) (id:=id);simp only[Region.schedule,hm,GL,if_true,Region.linearise]at Al;generalize Region.linearise.go .any ops ops.size (w.tape w.drawn (.order b.fn id)) (Gm ops.size false) []=is at Bv Al;have F7:(λi=>(Gm ops.size false).getD i false)=λ_=>false:=by
  funext i
  simp only[Gr,He]
  split <;> rfl
 rw[F7,CB]at Bv;have Dr:∀i∈is,i<l.length:=by
  clear Al;generalize (λ_=>false:Nat->Bool)=S at Bv
  induction Bv with
  |nil _=>intro i hi;cases hi
  |cons h _ _ _ ih=>
   intro i hi;exact(Gq.1 hi).elim (λh'=>by subst h';exact h) (ih i)
 have Rl:=YQ AP;have Bv:=Jef DT Bv λ_ _ h=>by cases h
 have Ag:=Jge (n0:=n0) (N:=N) (Q:=Q) (k:=k) Rl hv AL Bv T H (λ_ _ h=>by cases h) ⟨rfl,λ_ _=>rfl,λ_ _ _ h=>by cases h⟩ (λx m hm hw=>by
  have hc:=JdU hv (x:=x) (a:=0) m (by omega) (λi _ h2 Dm=>by
   have:=(hw i (by omega) Dm).2 (by omega)
   cases this)
  rw[G5]at hc;rw[hc,h0])
 have Az:Sim E m H { w with drawn:=w.drawn+1 }:=hp.sim.congr rfl;have hx:Ext n0 m H w m H { w with drawn:=w.drawn+1 }:=Ext.congr rfl ⟨rfl,rfl,rfl⟩;refine Reach.step (.one Al) hx (Ag m _ a b cs (.inRegion ops is::kr') rest ⟨Az,hp.tmps,hp.long⟩ (hd.ext hx) ?_);simp only[Yz];refine⟨ops,is,kr',rfl,⟨by simp,λj i hj=>?_⟩,AA⟩;have hi:=Dr i (Gl hj);obtain⟨io,h2,h3⟩:=hg i (ops[i]'(by omega)) (by simp);exact⟨ops[i]'(by omega),io,Gf (by omega),by simp[hj,Xb,Gc,h2],h3⟩
abbrev Foot.no:Foot×Foot:=(.on [],.on [])
abbrev Foot.any:Foot×Foot:=(.all,.all)
theorem JbK {io:IOper}{x:CV}(h:∀H2,Val P E io T H2 x):HS P E io T H x H Foot.no:=
 ⟨λ_ _=>rfl,λT2 H2 ha _=>⟨H2,λy hy=>(by cases hy),λ_ _=>rfl,λ_ _ _ _ _ Ap=>((h H2).congr ha).ok Ap⟩⟩
theorem Yr {io:IOper}{T2:List CV}(h:agree io.rd T T2)(hg:GOk T io.guard):GOk T2 io.guard:=by
 obtain⟨d,op,g⟩:=io;rcases hg with h1|⟨s,want,h1,h4⟩
 ·exact .inl h1
 ·simp only at h1;subst h1;exact .inr ⟨s,want,rfl,by rw[<-(Jj h).1 s (by simp)];exact h4⟩
theorem hs_op {io:IOper}{x:CV}{c:Cond}{H':List CObj}(hg:GOk T io.guard)(he:exec io.op T H=some (c,x,H'))(hc:c.holds):HS P E io T H x H' Foot.any:=by
 refine⟨λ_ hn=>absurd trivial hn,λT2 H2 ha hx=>?_⟩;have hH:H2=H:=YT λy=>hx y trivial
 subst hH;exact⟨H',λ_ _=>rfl,λ_ hn=>absurd trivial hn,λ_ _ _ _ _ Ap=>Jet (Yr ha hg) (by rw[<-Qv (Jj ha).2];exact he) hc Ap⟩
end
def stays:IOp->Bool
 |.mv _=>true
 |.bin _ _ _ _=>true
 |.slice _ _ _ _ _=>true
 |.len _ _=>true
 |.not _=>true
 |.neg _=>true
 |.conv _ _=>true
 |.pick _ _ _=>true
 |.build _ _=>true
 |.field _ _ _ _=>true
 |.faddr _ _=>true
 |.extract _ _=>true
 |.load _ _ _=>true
 |.iaddr _ _ _=>true
 |_=>false
theorem exSlice_nil {z:Nat}{x:CV}{lo hi:Int}{mx:Option Int}{r:Cond×CV}(h:XR z [] x lo hi mx=some r)(H:List CObj):XR z H x lo hi mx=some r:=by
 cases x <;> simp only[XR,List.getElem?_nil,reduceCtorEq]at h|- <;> exact h
theorem Jhn {op:IOp}{T:List CV}{c:Cond}{x:CV}(AY:stays op=true)(h:exec op T []=some (c,x,[]))(H:List CObj):exec op T H=some (c,x,H):=by
 cases op <;> simp only[stays,GX]at AY
 case slice z y lo hi mx=>
  simp only[exec]at h|-
  split at h
  ·rename_i l hh m h1 h2 h3
   split at h
   ·rename_i c' v' h4;rw[exSlice_nil h4 H]
    simp_all
   ·cases h
  ·cases h
 case len tk y=>
  simp only[exec]at h|-
  split at h <;> simp_all
 all_goals
  simp only[exec]at h|-
  repeat' split at h
  all_goals simp_all
def JeI (b:Bool)(op:IOp)(T:List CV)(H:List CObj):Option (Cond×CV×List CObj):=
 if b=true then exec op T H else if stays op=true then(match exec op T []with|some (c,v,[])=>some (c,v,H)|_=>none) else none
def Q4 (b:Bool):Foot×Foot:=if b then Foot.any else Foot.no
section
variable (P:Program)(E:Env)(n0:Nat)(N:Fr)(Q:Exit->List CV->List CObj->Prop)
def vdh (k:List KItem):List IOper->List Bool->List CV->List CObj->Prop
 |[],_,T,H=>Ko P E n0 N Q k T H
 |_::_,[],_,_=>False
 |⟨d,op,none⟩::l,b::bs,T,H=>match JeI b op T H with
  |some (c,v,H')=>c.holds/\vdh k l bs (put T d v) H'
  |none=>∃v H',HS P E ⟨d,op,none⟩ T H v H' (Q4 b)/\vdh k l bs (put T d v) H'
 |⟨d,op,some g⟩::l,b::bs,T,H=>∃v H',HS P E ⟨d,op,some g⟩ T H v H' (Q4 b)/\vdh k l bs (put T d v) H'
def vdhR (r:Option (Cond×CV×List CObj))(d:Option Nat)(op:IOp)(b:Bool)(k:List KItem)(l:List IOper)(bs:List Bool)(T:List CV)(H:List CObj):Prop:=
 match r with
 |some (c,v,H')=>c.holds/\vdh P E n0 N Q k l bs (put T d v) H'
 |none=>∃v H',HS P E ⟨d,op,none⟩ T H v H' (Q4 b)/\vdh P E n0 N Q k l bs (put T d v) H'
end
section
variable {P:Program}{E:Env}{n0:Nat}{N:Fr}{Q:Exit->List CV->List CObj->Prop}{H H':List CObj}{T:List CV}{k:List KItem}{l:List IOper}{es:List (List Nat)}{bs:List Bool}
theorem vh_nil:vdh P E n0 N Q k [] bs T H=Ko P E n0 N Q k T H:=propext (by cases bs <;> exact Gi)
theorem vh_op {d:Option Nat}{op:IOp}{b:Bool}:vdh P E n0 N Q k (⟨d,op,none⟩::l) (b::bs) T H=vdhR P E n0 N Q (JeI b op T H) d op b k l bs T H:=propext Gi
theorem vdhR_some {d:Option Nat}{op:IOp}{b:Bool}{c:Cond}{v:CV}:vdhR P E n0 N Q (some (c,v,H')) d op b k l bs T H=(c.holds/\vdh P E n0 N Q k l bs (put T d v) H'):=propext Gi
theorem vdh_look {T':List CV}{H':List CObj}(hT:T=T')(hH:H=H'):vdh P E n0 N Q k l bs T H=vdh P E n0 N Q k l bs T' H':=by rw[hT,hH]
theorem vdhR_look {r r':Option (Cond×CV×List CObj)}{d:Option Nat}{op:IOp}{b:Bool}(h:r=r'):vdhR P E n0 N Q r d op b k l bs T H=vdhR P E n0 N Q r' d op b k l bs T H:=by rw[h]
attribute [congr] vdh_look vdhR_look
theorem JeH {b:Bool}{d:Option Nat}{op:IOp}{c:Cond}{v:CV}(he:JeI b op T H=some (c,v,H'))(hc:c.holds):HS P E ⟨d,op,none⟩ T H v H' (Q4 b):=by
 unfold JeI at he
 split at he
 ·rename_i hb;subst hb;exact hs_op (.inl rfl) he hc
 ·rename_i hb
  split at he
  ·rename_i hs
   split at he
   ·rename_i c' v' h1;simp only[GV,GJ]at he;obtain⟨rfl,rfl,rfl⟩:=he;have:b=false:=by simpa using hb
    subst this;exact JbK λH2=>.inr ⟨.inl rfl,.inl ⟨_,Jhn hs h1 H2,hc⟩⟩
   ·cases he
  ·cases he
theorem vdh_vals:∀(l:List IOper) (bs:List Bool) (T:List CV) (H:List CObj),vdh P E n0 N Q k l bs T H->l.length=bs.length->∃(v:Nat->CV) (hh:Nat->List CObj),hh 0=H/\(∀j,j<l.length->HS P E (Xb l j) (tst l v T j) (hh j) (v j) (hh (j+1)) (Xc (bs.map Q4) j))/\Ko P E n0 N Q k (tst l v T l.length) (hh l.length)
 |[],bs,T,H,h,_=>⟨λ_=>.un,λ_=>H,rfl,by simp,by rw[vh_nil]at h;exact h⟩
 |io::l,[],T,H,h,hl=>by simp at hl
 |io::l,b::bs,T,H,h,hl=>by
  have Ej:∃v0 H',HS P E io T H v0 H' (Q4 b)/\vdh P E n0 N Q k l bs (put T io.dst v0) H':=by
   obtain⟨d,op,g⟩:=io
   cases g with
   |none=>
    rw[vh_op]at h;unfold vdhR at h
    split at h
    ·rename_i c v H' he;exact⟨v,H',JeH he h.1,h.2⟩
    ·exact h
   |some g=>exact h
  obtain⟨v0,H',h1,h2⟩:=Ej;obtain⟨v,hh,h0,h3,h4⟩:=vdh_vals l bs _ _ h2 (by simpa using hl)
  let v':Nat->CV:=λj=>match j with|0=>v0|j+1=>v j
  let Fs:Nat->List CObj:=λj=>match j with|0=>H|j+1=>hh j
  have key:∀j,tst (io::l) v' T (j+1)=tst l v (put T io.dst v0) j:=by
   intro j
   induction j with
   |zero=>rfl
   |succ j ih=>rw[tst,ih];rfl
  refine⟨v',Fs,rfl,λj hj=>?_,?_⟩
  ·cases j with
   |zero=>
    have e:Fs (0+1)=H':=h0;rw[e];exact h1
   |succ j=>rw[key];exact h3 j (by simpa using hj)
  ·rw[Gx,key];exact h4
theorem Jad (bs:List Bool)(hm:P.follows .mixedOrders=true)(AP:(l.length == bs.length && (Jbd l.length es (clo es) && Ql l (clo es) (bs.map Q4)))=true)(h:vdh P E n0 N Q k l bs T H):Ok P E n0 N Q (.code (.dreg l es)::k) T H:=by
 simp only[Ga,beq_iff_eq]at AP;obtain⟨v,hh,h0,h1,h2⟩:=vdh_vals l bs T H h AP.1;exact JgU AP.2.1 hm AP.2.2 h1 h0 (JA _ _ _ h2)
end
attribute [go_sem] JeI stays vh_nil vh_op vdhR_some
end
section
section
variable (P:Program)(E:Env)
def vdk (K:List CV->List CObj->Prop):List IOper->List Bool->List CV->List CObj->Prop
 |[],_,T,H=>K T H
 |_::_,[],_,_=>False
 |⟨d,op,none⟩::l,b::bs,T,H=>match JeI b op T H with
  |some (c,v,H')=>c.holds/\vdk K l bs (put T d v) H'
  |none=>∃v H',HS P E ⟨d,op,none⟩ T H v H' (Q4 b)/\vdk K l bs (put T d v) H'
 |⟨d,op,some g⟩::l,b::bs,T,H=>∃v H',HS P E ⟨d,op,some g⟩ T H v H' (Q4 b)/\vdk K l bs (put T d v) H'
def vdkR (r:Option (Cond×CV×List CObj))(d:Option Nat)(op:IOp)(b:Bool)(K:List CV->List CObj->Prop)(l:List IOper)(bs:List Bool)(T:List CV)(H:List CObj):Prop:=
 match r with
 |some (c,v,H')=>c.holds/\vdk P E K l bs (put T d v) H'
 |none=>∃v H',HS P E ⟨d,op,none⟩ T H v H' (Q4 b)/\vdk P E K l bs (put T d v) H'
def leads (n0:Nat)(N:Fr)(Q:Exit->List CV->List CObj->Prop)(T':List CV)(H':List CObj)(T:List CV)(H:List CObj):Prop:=
 ∀k,Ok P E n0 N Q k T' H'->Ok P E n0 N Q k T H
end
section
variable {P:Program}{E:Env}{n0:Nat}{N:Fr}{Q:Exit->List CV->List CObj->Prop}{H H':List CObj}{T T':List CV}{k:List KItem}{l:List IOper}{es:List (List Nat)}{bs:List Bool}{K:List CV->List CObj->Prop}
theorem vk_nil:vdk P E K [] bs T H=K T H:=propext (by cases bs <;> exact Gi)
theorem vk_op {d:Option Nat}{op:IOp}{b:Bool}:vdk P E K (⟨d,op,none⟩::l) (b::bs) T H=vdkR P E (JeI b op T H) d op b K l bs T H:=propext Gi
theorem vdkR_some {d:Option Nat}{op:IOp}{b:Bool}{c:Cond}{v:CV}:vdkR P E (some (c,v,H')) d op b K l bs T H=(c.holds/\vdk P E K l bs (put T d v) H'):=propext Gi
theorem vdk_look {T':List CV}{H':List CObj}(hT:T=T')(hH:H=H'):vdk P E K l bs T H=vdk P E K l bs T' H':=by rw[hT,hH]
theorem vdkR_look {r r':Option (Cond×CV×List CObj)}{d:Option Nat}{op:IOp}{b:Bool}(h:r=r'):vdkR P E r d op b K l bs T H=vdkR P E r' d op b K l bs T H:=by rw[h]
attribute [congr] vdk_look vdkR_look
theorem vdk_vals:∀(l:List IOper) (bs:List Bool) (T:List CV) (H:List CObj),vdk P E K l bs T H->l.length=bs.length->∃(v:Nat->CV) (hh:Nat->List CObj),hh 0=H/\(∀j,j<l.length->HS P E (Xb l j) (tst l v T j) (hh j) (v j) (hh (j+1)) (Xc (bs.map Q4) j))/\K (tst l v T l.length) (hh l.length)
 |[],bs,T,H,h,_=>⟨λ_=>.un,λ_=>H,rfl,by simp,by rw[vk_nil]at h;exact h⟩
 |io::l,[],T,H,h,hl=>by simp at hl
 |io::l,b::bs,T,H,h,hl=>by
  have Ej:∃v0 H',HS P E io T H v0 H' (Q4 b)/\vdk P E K l bs (put T io.dst v0) H':=by
   obtain⟨d,op,g⟩:=io
   cases g with
   |none=>
    rw[vk_op]at h;unfold vdkR at h
    split at h
    ·rename_i c v H' he;exact⟨v,H',JeH he h.1,h.2⟩
    ·exact h
   |some g=>exact h
  obtain⟨v0,H',h1,h2⟩:=Ej;obtain⟨v,hh,h0,h3,h4⟩:=vdk_vals l bs _ _ h2 (by simpa using hl)
  let v':Nat->CV:=λj=>match j with|0=>v0|j+1=>v j
  let Fs:Nat->List CObj:=λj=>match j with|0=>H|j+1=>hh j
  have key:∀j,tst (io::l) v' T (j+1)=tst l v (put T io.dst v0) j:=by
   intro j
   induction j with
   |zero=>rfl
   |succ j ih=>rw[tst,ih];rfl
  refine⟨v',Fs,rfl,λj hj=>?_,?_⟩
  ·cases j with
   |zero=>
    have e:Fs (0+1)=H':=h0;rw[e];exact h1
   |succ j=>rw[key];exact h3 j (by simpa using hj)
  ·rw[Gx,key];exact h4
theorem sched_run (AP:(l.length == bs.length && (Jbd l.length es (clo es) && Ql l (clo es) (bs.map Q4)))=true)(h:vdk P E (leads P E n0 N Q T' H') l bs T H)(AL:Ok P E n0 N Q k T' H'){is:List Nat}(hs:Sched l.length es (λ_=>false) is):Ok P E n0 N Q (.ops (is.map (Xb l))::k) T H:=by
 simp only[Ga,beq_iff_eq]at AP;obtain⟨v,hh,h0,hv,h2⟩:=vdk_vals l bs T H h AP.1;have Bv:=Jef AP.2.1 hs λ_ _ h=>by cases h
 exact Jge (YQ AP.2.2) hv (h2 k AL) Bv T H (λ_ _ h=>by cases h) ⟨rfl,λ_ _=>rfl,λ_ _ _ h=>by cases h⟩ (λx m hm hw=>by
  have hc:=JdU hv (x:=x) (a:=0) m (by omega) (λi _ h2 Dm=>by
   have:=(hw i (by omega) Dm).2 (by omega)
   cases this)
  rw[G5]at hc;rw[hc,h0])
theorem ok_draw (hm:P.follows .mixedOrders=true)(h:∀is,Sched l.length es (λ_=>false) is->Ok P E n0 N Q (.ops (is.map (Xb l))::k) T H):Ok P E n0 N Q (.code (.dreg l es)::k) T H:=by
 intro m w a b cs kr rest hp hd hk;simp only[Yz]at hk;obtain⟨c',kr',rfl,hc,AA⟩:=hk;obtain⟨id,ops,rfl,h1,rfl⟩:=Jg3 hc;obtain⟨hl,hg⟩:=XH _ _ h1;have CB:ops.size=l.length:=by simpa using hl.symm
 have Bv:=JgF ops ops.size (w.tape w.drawn (.order b.fn id)) (Gm ops.size false) (by simp) (by simp);have Al:=stepR_region_draw (P:=P) (b:=b) (a:=a) (k:=kr'++rest) (cs:=cs) (w:=w) (ops:=ops) (id:=id);simp only[Region.schedule,hm,GL,if_true,Region.linearise]at Al;generalize Region.linearise.go .any ops ops.size (w.tape w.drawn (.order b.fn id)) (Gm ops.size false) []=is at Bv Al;have F7:(λi=>(Gm ops.size false).getD i false)=λ_=>false:=by
  funext i
  simp only[Gr,He]
  split <;> rfl
 rw[F7,CB]at Bv;have Dr:∀i∈is,i<l.length:=by
  clear Al h;generalize (λ_=>false:Nat->Bool)=S at Bv
  induction Bv with
  |nil _=>intro i hi;cases hi
  |cons h _ _ _ ih=>
   intro i hi;exact(Gq.1 hi).elim (λh'=>by subst h';exact h) (ih i)
 have Ag:=h is Bv;have Az:Sim E m H { w with drawn:=w.drawn+1 }:=hp.sim.congr rfl;have hx:Ext n0 m H w m H { w with drawn:=w.drawn+1 }:=Ext.congr rfl ⟨rfl,rfl,rfl⟩;refine Reach.step (.one Al) hx (Ag m _ a b cs (.inRegion ops is::kr') rest ⟨Az,hp.tmps,hp.long⟩ (hd.ext hx) ?_);simp only[Yz];refine⟨ops,is,kr',rfl,⟨by simp,λj i hj=>?_⟩,AA⟩;have hi:=Dr i (Gl hj);obtain⟨io,h2,h3⟩:=hg i (ops[i]'(by omega)) (by simp);exact⟨ops[i]'(by omega),io,Gf (by omega),by simp[hj,Xb,Gc,h2],h3⟩
def Jb6 (es:List (List Nat))(j i:Nat):List (List Nat):=es.set j (i::es.getD j [])
theorem JaB {es:List (List Nat)}{j i a:Nat}(hj:j<es.length):(Jb6 es j i).getD a []=if a=j then i::es.getD j [] else es.getD a []:=by
 unfold Jb6;simp only[Gc,Gv];by_cases h:j=a
 ·subst h;simp[hj]
 ·rw[if_neg h,if_neg λe=>h e.symm]
theorem sched_add {n:Nat}{i j:Nat}(hj:j<es.length){S:Nat->Bool}{is:List Nat}(h:Sched n es S is):S i=true->Sched n (Jb6 es j i) S is:=by
 induction h with
 |nil hn=>
  intro hi;refine .nil λa ha hS=>?_
  obtain⟨e,h1,h2⟩:=hn a ha hS;refine⟨e,?_,h2⟩;rw[JaB hj]
  split
  ·rename_i h;subst h;exact Hw _ h1
  ·exact h1
 |cons ha hS hr _ ih=>
  intro hi;refine .cons ha hS (λe he=>?_) (ih (by simp[hi]));rw[JaB hj]at he
  split at he
  ·rename_i h;subst h;rcases Gq.1 he with h|h
   ·rw[h];exact hi
   ·exact hr e h
  ·exact hr e he
theorem sched_pair {n i j:Nat}(Cw:i≠j)(hi:i<es.length)(hj:j<es.length){S:Nat->Bool}{is:List Nat}(h:Sched n es S is):S i=false->S j=false->Sched n (Jb6 es j i) S is\/Sched n (Jb6 es i j) S is:=by
 induction h with
 |nil hn=>
  intro _ _;refine .inl (.nil λa ha hS=>?_);obtain⟨e,h1,h2⟩:=hn a ha hS;refine⟨e,?_,h2⟩;rw[JaB hj]
  split
  ·rename_i h;subst h;exact Hw _ h1
  ·exact h1
 |cons ha hS hr Cu ih=>
  rename_i S a is;intro h1 h2;by_cases Me:a=i
  ·subst Me;refine .inl (.cons ha hS (λe he=>?_) (sched_add hj Cu (by simp)));rw[JaB hj,if_neg Cw]at he;exact hr e he
  ·by_cases aH:a=j
   ·subst aH;refine .inr (.cons ha hS (λe he=>?_) (sched_add hi Cu (by simp)));rw[JaB hi,if_neg Me]at he;exact hr e he
   ·rcases ih (by simp[h1,Ne.symm Me]) (by simp[h2,Ne.symm aH]) with h|h
    ·exact .inl (.cons ha hS (λe he=>by rw[JaB hj,if_neg aH]at he;exact hr e he) h)
    ·exact .inr (.cons ha hS (λe he=>by rw[JaB hi,if_neg Me]at he;exact hr e he) h)
theorem Jl (h:forget T T'):leads P E n0 N Q T' H T H:=λ_ Ap=>K9 (Yl h) Ap
theorem leads_ren {T1:List CV}{H1:List CObj}(ρ:List Nat)(hr:Jdx ρ n0 H.length=true)(h:leads P E n0 N Q T1 H1 (JB ρ T) (Kq ρ H)):leads P E n0 N Q T1 H1 T H:=λk Ap=>JfI (QP hr) (h k Ap)
theorem leads_to (ρ:List Nat)(hr:Jdx ρ n0 H.length=true)(hT:forget (JB ρ T) T')(hH:Kq ρ H=H'):leads P E n0 N Q T' H' T H:=leads_ren ρ hr (by rw[hH];exact Jl hT)
end
attribute [go_sem] vk_nil vk_op vdkR_some
end
section
section
variable {P:Program}{E:Env}{n0:Nat}{N:Fr}{Q:Exit->List CV->List CObj->Prop}{H:List CObj}{T:List CV}{k:List KItem}
theorem vr_rfuncJ {f:IArg}{ps:List Nat}{x y:ICode}{g:Nat}{l1 l2:List CV}{xs:List (List CV)}{Γ:Type}(J:Nat->Γ->Prop) (hp:Nat->Γ->List CObj) (γ0:Γ) (iR:J 0 γ0) (Ox:N.rnd=false) (hf:Ka T f=.fn g l1 l2) (Dc:Jm l1=true) (Dj:Jm l2=true) {F:IFunc}(hF:Je P g=some F) (EM:(P.funcs[g]?.map (·.name))≠some "runtime.NumGoroutine")
  (M5:Iter P g l1 l2 xs) (Fa:∀c∈xs,c.length=ps.length) (h0:H=hp 0 γ0)
  (Cn:∀s γ c,J s γ->xs[s]? = some c->Ko P E H.length ⟨0,true⟩ (asgQ λT2 H2=>Ko P E H.length ⟨0,true⟩ (Jd2 P E n0 N Q k T (λH'=>∃γ',J (s+1) γ'/\H'=hp (s+1) γ')) [.code y] T2 H2) [.code x] (pset T ps c) (hp s γ))
  (Ce:∀γ,J xs.length γ->Ko P E n0 N Q k T (hp xs.length γ)):Ok P E n0 N Q (.code (.rfunc f ps x y)::k) T H:=by
 have Bn:∃fn,P.funcs[g]? = some fn/\fn.body.isSome=true:=by
  unfold Je at hF
  split at hF
  ·rename_i fn Bn
   split at hF
   ·rename_i c hb;exact⟨fn,Bn,by rw[hb];rfl⟩
   ·cases hF
  ·cases hF
 obtain⟨fn,Bn,Dy⟩:=Bn;refine ok_rfunc (λs H'=>∃γ,J s γ/\H'=hp s γ) Ox hf Dc Dj Bn Dy (λe=>EM (by rw[Bn,<-e];rfl)) M5 Fa ⟨γ0,iR,h0⟩ (λs Hs c hI hc=>?_) (λH' ⟨γ,hJ,hI⟩=>by rw[hI];exact JA _ _ _ (Ce γ hJ));obtain⟨γ,hJ,rfl⟩:=hI;refine(JA _ _ _ (Cn s γ c hJ hc)).mono λe T2 H2 hq=>?_
 cases e with
 |normal=>
  refine(JA _ _ _ hq).mono λe T3 H3 Mm=>?_
  cases e with
  |normal=>exact Mm
  |ret=>exact ok_ret Mm
  |exit id=>
   refine ok_exit ?_;simp only[Jd2,JcN]at Mm
   split <;> rename_i hx <;> rw[hx]at Mm
   ·exact JA _ _ _ Mm
   ·exact Mm
  |goto l=>exact Mm.elim
  |panic c=>exact Mm.elim
  |outgrown=>exact Mm.elim
 |ret=>exact hq.elim
 |exit id=>exact hq.elim
 |goto l=>exact hq.elim
 |panic c=>exact hq.elim
 |outgrown=>exact hq.elim
end
section
variable {P:Program}{E:Env}{n0:Nat}{N:Fr}{Q:Exit->List CV->List CObj->Prop}{H:List CObj}{T:List CV}{k:List KItem}{l:List IOper}{bs:List Bool}{K:List CV->List CObj->Prop}
theorem hs_f {d:Option Nat}{g:Option (Nat×Bool)}{f:Nat}{as:List IArg}{v:CV}(hg:GOk T g)(Ah:Fn P f (as.map (Ka T)) v):HS P E ⟨d,.call f as,g⟩ T H v H Foot.no:=
 JbK λH2=>.inr ⟨hg,.inr (.inl ⟨f,as,rfl,Ah E H2⟩)⟩
theorem Jg5 {d:Option Nat}{g:Option (Nat×Bool)}{f:Nat}{as:List IArg}{v:CV}{H':List CObj}(hg:GOk T g)(Ah:CallsC P E f (as.map (Ka T)) H λv2 H2=>v2=v/\H2=H'):HS P E ⟨d,.call f as,g⟩ T H v H' Foot.any:=by
 refine⟨λ_ hn=>absurd trivial hn,λT2 H2 ha hx=>?_⟩;have hH:H2=H:=YT λy=>hx y trivial
 subst hH;have hT:as.map (Ka T)=as.map (Ka T2):=Xy (Jj ha).2;refine⟨H',λ_ _=>rfl,λ_ hn=>absurd trivial hn,λ_ _ _ _ _ Ap=>Jeu (Yr ha hg) (by rw[<-hT];exact Ah) ?_⟩;rintro v2 H2 ⟨rfl,rfl⟩;exact Ap
theorem vh_f {d:Option Nat}{f:Nat}{as:List IArg}{v:CV}(Ah:Fn P f (as.map (Ka T)) v)(h:vdh P E n0 N Q k l bs (put T d v) H):vdhR P E n0 N Q none d (.call f as) false k l bs T H:=
 ⟨v,H,hs_f (.inl rfl) Ah,h⟩
theorem vk_c {d:Option Nat}{f:Nat}{as:List IArg}{v:CV}{H':List CObj}(Ah:CallsC P E f (as.map (Ka T)) H λv2 H2=>v2=v/\H2=H')(h:vdk P E K l bs (put T d v) H'):vdkR P E none d (.call f as) true K l bs T H:=
 ⟨v,H',Jg5 (.inl rfl) Ah,h⟩
end
section
variable (P:Program)(E:Env)(n0:Nat)(N:Fr)(Q:Exit->List CV->List CObj->Prop)
def vdf (k:List KItem):List IOper->List (Foot×Foot)->List CV->List CObj->Prop
 |[],_,T,H=>Ko P E n0 N Q k T H
 |_::_,[],_,_=>False
 |io::l,f::fs,T,H=>∃v H',HS P E io T H v H' f/\vdf k l fs (put T io.dst v) H'
end
section
variable {P:Program}{E:Env}{n0:Nat}{N:Fr}{Q:Exit->List CV->List CObj->Prop}{H:List CObj}{T:List CV}{k:List KItem}{l:List IOper}{es:List (List Nat)}
theorem vdf_vals:∀(l:List IOper) (fs:List (Foot×Foot)) (T:List CV) (H:List CObj),vdf P E n0 N Q k l fs T H->l.length=fs.length->∃(v:Nat->CV) (hh:Nat->List CObj),hh 0=H/\(∀j,j<l.length->HS P E (Xb l j) (tst l v T j) (hh j) (v j) (hh (j+1)) (Xc fs j))/\Ko P E n0 N Q k (tst l v T l.length) (hh l.length)
 |[],fs,T,H,h,_=>⟨λ_=>.un,λ_=>H,rfl,by simp,by cases fs <;> exact h⟩
 |io::l,[],T,H,h,hl=>by simp at hl
 |io::l,f::fs,T,H,h,hl=>by
  obtain⟨v0,H',h1,h2⟩:=h;obtain⟨v,hh,h0,h3,h4⟩:=vdf_vals l fs _ _ h2 (by simpa using hl)
  let v':Nat->CV:=λj=>match j with|0=>v0|j+1=>v j
  let Fs:Nat->List CObj:=λj=>match j with|0=>H|j+1=>hh j
  have key:∀j,tst (io::l) v' T (j+1)=tst l v (put T io.dst v0) j:=by
   intro j
   induction j with
   |zero=>rfl
   |succ j ih=>rw[tst,ih];rfl
  refine⟨v',Fs,rfl,λj hj=>?_,?_⟩
  ·cases j with
   |zero=>
    have e:Fs (0+1)=H':=h0;rw[e];exact h1
   |succ j=>rw[key];exact h3 j (by simpa using hj)
  ·rw[Gx,key];exact h4
theorem Jbi (fs:List (Foot×Foot))(hm:P.follows .mixedOrders=true)(AP:(l.length == fs.length && (Jbd l.length es (clo es) && Ql l (clo es) fs))=true)(h:vdf P E n0 N Q k l fs T H):Ok P E n0 N Q (.code (.dreg l es)::k) T H:=by
 simp only[Ga,beq_iff_eq]at AP;obtain⟨v,hh,h0,h1,h2⟩:=vdf_vals l fs T H h AP.1;exact JgU AP.2.1 hm AP.2.2 h1 h0 (JA _ _ _ h2)
theorem hs_new {d:Option Nat}{f:Nat}{as:List IArg}{id:Nat}{ob:CObj}{mk:Nat->CV}(Ad:H.length=id)(Ah:∀H2:List CObj,CallsC P E f (as.map (Ka T)) H2 λv2 H3=>v2=mk H2.length/\H3=H2++[ob]) :
  HS P E ⟨d,.call f as,none⟩ T H (mk id) (H++[ob]) (.on [0],.on [0,id+1]):=by
 subst Ad;refine⟨λx hx=>?_,λT2 H2 ha hx=>?_⟩
 ·simp only[Foot.has,Gq,G8,or_false,not_or]at hx
  cases x with
  |zero=>exact absurd rfl hx.1
  |succ x=>
   simp only[hat,GJ,and_true];have Ai:x≠H.length:=λe=>hx.2 (by rw[e])
   rcases Hq x H.length with h|h
   ·rw[Gu h]
   ·rw[Gh (by simp;omega),Gh h]
 ·have hl:H2.length=H.length:=by
   have:=hx 0 (by simp[Foot.has]);simpa [hat]using this
  have hT:as.map (Ka T)=as.map (Ka T2):=Xy (Jj ha).2;refine⟨H2++[ob],λx hx=>?_,λx hx=>?_,λ_ _ _ _ _ Ap=>Jeu (.inl rfl) (by rw[<-hT];exact Ah H2) ?_⟩
  ·simp only[Foot.has,Gq,G8,or_false]at hx;rcases hx with rfl|rfl
   ·simp[hat,hl]
   ·simp only[hat,GJ,and_true];rw[<-hl,Gp (Gd _),hl,Gp (Gd _)]
  ·simp only[Foot.has,Gq,G8,or_false,not_or]at hx
   cases x with
   |zero=>exact absurd rfl hx.1
   |succ x=>
    simp only[hat,GJ,and_true];have Ai:x≠H2.length:=λe=>hx.2 (by rw[e,hl])
    rcases Hq x H2.length with h|h
    ·rw[Gu h]
    ·rw[Gh (by simp;omega),Gh h]
  ·rintro v2 H3 ⟨rfl,rfl⟩;rw[hl];exact Ap
theorem hs_ld {d:Option Nat}{ag:Bool}{n:Nat}{a:IArg}{id i off:Nat}{c:Cond}{x:CV}(ha:Ka T a=.ptr id i off)(he:exec (.load ag n a) T H=some (c,x,H))(hc:c.holds) :
  HS P E ⟨d,.load ag n a,none⟩ T H x H (.on [id+1],.on []):=by
 refine⟨λ_ _=>rfl,λT2 H2 BN hx=>⟨H2,λy hy=>(by cases hy),λ_ _=>rfl,λ_ _ _ _ _ Ap=>?_⟩⟩;have hH:H2[id]? = H[id]?:=by
  have:=hx (id+1) (by simp[Foot.has]);simpa [hat]using this
 have hT:Ka T a=Ka T2 a:=Js (Jj BN).2;have EC:exec (.load ag n a) T2 H2=some (c,x,H2):=by
  simp only[exec,ha]at he;simp only[exec,<-hT,ha,hH]
  split at he
  ·split at he
   ·rename_i h1;simp only[GV,GJ]at he;obtain⟨rfl,rfl,_⟩:=he;simp[h1]
   ·rename_i h1;simp only[GV,GJ]at he;obtain⟨rfl,rfl,_⟩:=he;simp[h1]
  ·cases he
 exact Jet (.inl rfl) EC hc Ap
theorem hs_any {io:IOper}{x:CV}{c:Cond}{H':List CObj}(hg:GOk T io.guard)(he:exec io.op T H=some (c,x,H'))(hc:c.holds):HS P E io T H x H' Foot.any:=hs_op hg he hc
theorem hs_all {d:Option Nat}{op:IOp}{x:CV}{c:Cond}(he:∀H2,exec op T H2=some (c,x,H2))(hc:c.holds):HS P E ⟨d,op,none⟩ T H x H Foot.no:=
 JbK λH2=>.inr ⟨.inl rfl,.inl ⟨_,he H2,hc⟩⟩
theorem hs_row {d:Option Nat}{z n:Nat}{zero:List CV}{ps:List (Nat×IArg)}(els:List (List CV))(Ay:Jm ((IOp.bslice z n zero ps).rd.map λs=>T.getD s .un)=true)(he:XQ T z (GI n zero) ps=some els)(hn:els.length=n)(hc:Jq els=true):HS P E ⟨d,.bslice z n zero ps,none⟩ T H (.rslc z els none) H Foot.no:=by
 refine JbK λH2=>.inr ⟨.inl rfl,.inr (.inr ⟨Ay,rfl,.tt,.slc 0 0 n (some n),[.arr z els],0,z,els,?_,trivial,rfl,hc,?_⟩)⟩
 ·simp[exec,he]
 ·subst hn;simp[frz]
theorem YS {d:Option Nat}{op:IOp}{x:CV}{c:Cond}(AY:stays op=true)(he:exec op T []=some (c,x,[]))(hc:c.holds):HS P E ⟨d,op,none⟩ T H x H Foot.no:=
 JbK λH2=>.inr ⟨.inl rfl,.inl ⟨_,Jhn AY he H2,hc⟩⟩
end
section
variable {P:Program}{E:Env}{n0:Nat}{N:Fr}{Q:Exit->List CV->List CObj->Prop}{H:List CObj}{T:List CV}{k:List KItem}{l:List IOper}{bs:List Bool}
theorem vh_all {d:Option Nat}{op:IOp}(x:CV){c:Cond}(he:∀H2,exec op T H2=some (c,x,H2))(hc:c.holds)(h:vdh P E n0 N Q k l bs (put T d x) H):vdhR P E n0 N Q none d op false k l bs T H:=
 ⟨x,H,hs_all he hc,h⟩
theorem vh_row {d:Option Nat}{z n:Nat}{zero:List CV}{ps:List (Nat×IArg)}(els:List (List CV))(Ay:Jm ((IOp.bslice z n zero ps).rd.map λs=>T.getD s .un)=true)(he:XQ T z (GI n zero) ps=some els)(hn:els.length=n)(hc:Jq els=true)(h:vdh P E n0 N Q k l bs (put T d (.rslc z els none)) H):vdhR P E n0 N Q none d (.bslice z n zero ps) false k l bs T H:=
 ⟨_,H,hs_row els Ay he hn hc,h⟩
end
theorem Qx {ρ:List Nat}{id j:Nat}{els:List (List CV)}(h:ren ρ (.slc id 0 els.length none)=.slc j 0 els.length none):ren ρ (Qg id els)=Qg j els:=by
 cases els with
 |nil=>rfl
 |cons e l=>simpa [Qg]using h
end
section
def KX:List (Nat×CV)->Nat->CV
 |[],_=>.un
 |p::l,i=>if i=p.1 then p.2 else KX l i
def mkTF (al:List (Nat×CV)):Nat->Nat->List CV
 |0,_=>[]
 |n+1,i=>KX al i::mkTF al n (i+1)
def mkT (n:Nat)(al:List (Nat×CV)):List CV:=mkTF al n 0
def zipA:Nat->List CV->List (Nat×CV)
 |_,[]=>[]
 |i,c::l=>(i,c)::zipA (i+1) l
theorem mkTF_get {al:List (Nat×CV)}:∀(n i j:Nat),(mkTF al n i)[j]? = if j<n then some (KX al (i+j)) else none
 |0,i,j=>by simp[mkTF]
 |n+1,i,0=>by simp[mkTF]
 |n+1,i,j+1=>by
  simp only[mkTF,Ht,mkTF_get n (i+1) j];rw[show i+1+j=i+(j+1) by omega];simp
theorem mkT_get? {n j:Nat}{al:List (Nat×CV)}:(mkT n al)[j]? = if j<n then some (KX al j) else none:=by
 rw[mkT,mkTF_get];simp
theorem mkT_get {n i:Nat}{al:List (Nat×CV)}(h:i<n):(mkT n al).getD i .un=KX al i:=by
 rw[Gc,mkT_get?,if_pos h];rfl
theorem mkT_set {n d:Nat}{v:CV}{al:List (Nat×CV)}:(mkT n al).set d v=mkT n ((d,v)::al):=by
 refine GG λj=>?_
 rw[Gv,mkT_get?,mkT_get?];have hl:(mkT n al).length=n:=by
  have:∀m i,(mkTF al m i).length=m:=by
   intro m
   induction m with
   |zero=>intro i;rfl
   |succ m ih=>intro i;simp[mkTF,ih]
  exact this n 0
 rw[hl];by_cases h:d=j
 ·subst h;simp[KX]
 ·have h':j≠d:=λe=>h e.symm
  simp[KX,h,h']
theorem mkT_ext {n:Nat}{T:List CV}{al:List (Nat×CV)}(hl:T.length=n)(h:∀j,j<n->T.getD j .un=KX al j):T=mkT n al:=by
 refine GG λj=>?_
 rw[mkT_get?];by_cases hj:j<n
 ·have:=h j hj;rw[Gc,Gb (by omega)]at this;rw[if_pos hj,<-this,Gb (by omega)];rfl
 ·rw[if_neg hj,Gh (by omega)]
theorem alook_zip:∀(l:List CV) (i j:Nat),i<=j->KX (zipA i l) j=l.getD (j-i) .un
 |[],i,j,_=>by simp[zipA,KX]
 |c::l,i,j,h=>by
  simp only[zipA,KX];by_cases e:j=i
  ·subst e;simp
  ·rw[if_neg e,alook_zip l (i+1) j (by omega),show j-i=(j-(i+1))+1 by omega,Hz]
theorem mkT_start {n:Nat}{args:List CV}(h:args.length<=n):args++GI (n-args.length) .un=mkT n (zipA 0 args):=by
 refine mkT_ext (by simp;omega) λj hj=>?_
 rw[alook_zip args 0 j (GD _),Nat.sub_zero];simp only[Gc];by_cases hl:j<args.length
 ·rw[Gu hl]
 ·rw[Gp (by omega),List.getElem?_replicate,Gh (l:=args) (by omega)]
  split <;> rfl
def K5 (al:List (Nat×CV)):List (Nat×CV)->Prop
 |[]=>True
 |p::l=>KX al p.1=p.2/\K5 al l
theorem JfP {al:List (Nat×CV)}:∀{l:List (Nat×CV)}(j:Nat),K5 al l->KX l j=.un\/KX al j=KX l j
 |[],j,_=>.inl rfl
 |p::l,j,h=>by
  simp only[KX]
  split
  ·rename_i e;subst e;exact .inr h.1
  ·exact JfP j h.2
theorem JM {n:Nat}{al l:List (Nat×CV)}(h:K5 al l):forget (mkT n al) (mkT n l):=by
 have:∀m i,forget (mkTF al m i) (mkTF l m i):=by
  intro m
  induction m with
  |zero=>intro i;trivial
  |succ m ih=>intro i;exact⟨JfP i h,ih (i+1)⟩
 exact this n 0
theorem Xj {id z n:Nat}{els:List (List CV)}{al:List (Nat×CV)}:JY id z els (mkT n al)=mkT n (al.map λp=>(p.1,frz id z els p.2)):=by
 have CK:∀(al:List (Nat×CV)) i,frz id z els (KX al i)=KX (al.map λp=>(p.1,frz id z els p.2)) i:=by
  intro al i
  induction al with
  |nil=>rfl
  |cons p l ih=>
   simp only[KX,GK]
   split
   ·rfl
   ·exact ih
 have:∀m i,JY id z els (mkTF al m i)=mkTF (al.map λp=>(p.1,frz id z els p.2)) m i:=by
  intro m
  induction m with
  |zero=>intro i;rfl
  |succ m ih=>intro i;simp only[mkTF,JY,ih,CK]
 exact this n 0
theorem KY {ρ:List Nat}{n:Nat}{al:List (Nat×CV)}:JB ρ (mkT n al)=mkT n (al.map λp=>(p.1,ren ρ p.2)):=by
 have CK:∀(al:List (Nat×CV)) i,ren ρ (KX al i)=KX (al.map λp=>(p.1,ren ρ p.2)) i:=by
  intro al i
  induction al with
  |nil=>rfl
  |cons p l ih=>
   simp only[KX,GK]
   split
   ·rfl
   ·exact ih
 have:∀m i,JB ρ (mkTF al m i)=mkTF (al.map λp=>(p.1,ren ρ p.2)) m i:=by
  intro m
  induction m with
  |zero=>intro i;rfl
  |succ m ih=>intro i;simp only[mkTF,JB,ih,CK]
 exact this n 0
section
variable {P:Program}{E:Env}{n0:Nat}{N:Fr}{Q:Exit->List CV->List CObj->Prop}{H:List CObj}{T:List CV}{k:List KItem}
theorem vr_fnS {f:Nat}{F:IFunc}{args:List CV}{R:CV->List CObj->Prop}(hF:Je P f=some F)(hn:args.length<=F.ntmps)(h:∀n,vrun0 P E H.length ⟨n,false⟩ (retQ F.results R) [.code F.body] (mkT F.ntmps (zipA 0 args)) H):CallsC P E f args H R:=
 Kc hF λn=>by rw[mkT_start hn];exact h n
theorem Jau {f:Nat}{F:IFunc}{args:List CV}{v:CV}(hF:Je P f=some F)(ha:Jm args=true)(hv:v.closed=true)(hn:args.length<=F.ntmps)(h:∀n,vrun0 P Env.none 0 ⟨n,false⟩ (retQ F.results λv' _=>v'=v) [.code F.body] (mkT F.ntmps (zipA 0 args)) []):Fn P f args v:=
 Ja hF ha hv λn=>by rw[mkT_start hn];exact h n
theorem YN {d:Option Nat}{g:Option (Nat×Bool)}{f:Nat}{as:List IArg}{l:List IOper}{args:List CV}{v:CV}(Ah:Fn P f args v)(ha:as.map (Ka T)=args)(hg:GOk T g)(h:Ko P E n0 N Q (.ops l::k) (put T d v) H):Ok P E n0 N Q (.ops (⟨d,.call f as,g⟩::l)::k) T H:=
 Kh hg (by rw[ha];exact Ah) h
theorem vr_fvS {d:Option Nat}{g:Option (Nat×Bool)}{x:IArg}{f:Nat}{l1 l2:List CV}{xs:List IArg}{l:List IOper}{args:List CV}{v:CV}{F:IFunc}(hF:Je P f=some F) (EM:(P.funcs[f]?.map (·.name))≠some "runtime.NumGoroutine")
  (Ah:Fn P f (l1++args++l2) v) (hx:Ka T x=.fn f l1 l2) (ha:xs.map (Ka T)=args) (hg:GOk T g) (h:Ko P E n0 N Q (.ops l::k) (put T d v) H):Ok P E n0 N Q (.ops (⟨d,.callv x xs,g⟩::l)::k) T H:=
 vr_fv hg hx hF EM (by rw[ha];exact Ah) h
theorem vr_fgB {d:Option Nat}{g:Option (Nat×Bool)}{f:Nat}{as:List IArg}{l:List IOper}{b:Bool}(hg:GOk T g)(Ah:Fn P f (as.map (Ka T)) (.bool b))(h:∀B,b=B->Ko P E n0 N Q (.ops l::k) (put T d (.bool B)) H):Ok P E n0 N Q (.ops (⟨d,.call f as,g⟩::l)::k) T H:=Kh hg Ah (h b rfl)
theorem vr_fvSB {d:Option Nat}{g:Option (Nat×Bool)}{x:IArg}{f:Nat}{l1 l2:List CV}{xs:List IArg}{l:List IOper}{args:List CV}{b:Bool}{F:IFunc}(hF:Je P f=some F) (EM:(P.funcs[f]?.map (·.name))≠some "runtime.NumGoroutine")
  (Ah:Fn P f (l1++args++l2) (.bool b)) (hx:Ka T x=.fn f l1 l2) (ha:xs.map (Ka T)=args) (hg:GOk T g) (h:∀B,b=B->Ko P E n0 N Q (.ops l::k) (put T d (.bool B)) H):Ok P E n0 N Q (.ops (⟨d,.callv x xs,g⟩::l)::k) T H:=
 vr_fvS hF EM Ah hx ha hg (h b rfl)
theorem JeJ {T:List CV}:GOk T none:=.inl rfl
theorem gokS {T:List CV}{s:Nat}{want:Bool}(h:Ka T (.s s)=.bool want):GOk T (some (s,want)):=gok h
end
attribute [go_sem] mkT_get mkT_set KX zipA Xj KY K5
theorem fcS {P:Program}{f:Nat}{F:IFunc}{args:List CV}{v:CV}(hF:Je P f=some F)(h:∀n,vrun0 P Env.none 0 ⟨n,false⟩ (retQ F.results λv' _=>v'=v) [.code F.body] (mkT F.ntmps (zipA 0 args)) [])(ha:Jm args=true:=by rfl)(hv:v.closed=true:=by rfl)(hn:args.length<=F.ntmps:=by simp;decide):Fn P f args v:=Jau hF ha hv hn h
theorem vfS {P:Program}{E:Env}{H:List CObj}{f:Nat}{F:IFunc}{args:List CV}{R:CV->List CObj->Prop}(hF:Je P f=some F)(h:∀n,vrun0 P E H.length ⟨n,false⟩ (retQ F.results R) [.code F.body] (mkT F.ntmps (zipA 0 args)) H)(hn:args.length<=F.ntmps:=by simp;decide):CallsC P E f args H R:=vr_fnS hF hn h
end
end Go.Cm
end
end
