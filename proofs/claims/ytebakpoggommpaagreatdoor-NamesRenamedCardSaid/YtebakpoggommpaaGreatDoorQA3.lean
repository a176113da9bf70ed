/-
  A part of the proof. Conditions: none.
-/
import Derived.Test.YtebakpoggommpaaGreatDoorQA1
import Derived.Orders
import Derived.RangeFuncRecord
import Derived.RowKit
import Derived.RowKit2
import Derived.RowKit3
import Derived.Carry
import Derived.Below
import Derived.ReadAgain
import Derived.ChangeSame
import Derived.WideShapes
import Derived.ChangeArms
import Derived.OpenShut
import Derived.ChangeCalls
set_option linter.unusedSimpArgs false
set_option linter.unusedVariables false
open Bool renaming and_eq_true→Ga,or_eq_true→Gz,false_eq_true→GX,not_eq_true'→GY,true_or→GM,not_true→He,false_or→Hf,or_true→Hg
open Nat renaming le_refl→Gd,lt_of_lt_of_le→Gt,le_trans→Gu,zero_le→GA,lt_succ_self→GN,strongRecOn→GZ,zero_add→G5,lt_succ_of_lt→Hl,le_add_right→Hm,lt_or_ge→Ho
open Option renaming getD_some→Gp,map_some→G6,bind_eq_some_iff→Hq
open List renaming getD_eq_getElem?_getD→Gc,getElem?_eq_getElem→Gb,getElem?_eq_some_iff→Gg,getElem?_eq_none→Gh,getElem?_append_right→Gq,mem_of_getElem?→Gl,getElem?_append_left→Gv,getElem?_map→Gr,getElem?_set→Gw,mem_cons→Gm,range→Gi,ext_getElem?→GD,mem_range→Gx,all_eq_true→GG,replicate→GH,contains_iff_mem→GQ,length_cons→GJ,eq_nil_of_length_eq_zero→G7,map_cons→GK,mem_map→GL,not_mem_nil→G8,mem_filter→G9,getElem?_cons_succ→Hr,set_append_right→Ht,mem_cons_of_mem→Hu,take_succ_cons→Hw,mem_map_of_mem→Hy,map_congr_left→Hz,getD_cons_succ→HV,getElem?_drop→HY,append_assoc→HZ,reverse_nil→H5,cons_append→H6,any_eq_true→H7,nil_append→H8,getD→Ha,take_zero→H9,drop_zero→La,sum_cons→Lb
open Array renaming getElem?_eq_getElem→Gf,getD_eq_getD_getElem?→Gs,getElem?_eq_some_iff→Gy,replicate→Gn,getElem?_toList→GR,getElem?_push→GU,getElem?_replicate→Hd,toList_setIfInBounds→Lc
open Classical renaming byContradiction→Ld,choose_spec→Le,choose→Lf
open Option.some renaming injEq→GV
open Iff renaming rfl→Gj
open Prod.mk renaming injEq→GI
noncomputable section
section
namespace Go.Cm
section
section
variable {P:Program}{E:Env}{n0:Nat}{N:Fr}{Q:Exit→List CV→List CObj→Prop}{H:List CObj}{T:List CV}
theorem retQ_ret {ts:List RVar}{R:CV→List CObj→Prop}:retQ ts R .ret T H=resK (Q5 T H ts) R H:=rfl
theorem retQ_normal {ts:List RVar}{R:CV→List CObj→Prop}:retQ ts R .normal T H=resK (Q5 T H ts) R H:=rfl
theorem resAll_tmp {t:Nat}{R:CV→List CObj→Prop}:resK (Q5 T H [.tmp t]) R H=R (T.getD t .un) H:=by simp[Q5,JcL,resK,Cond.holds]
theorem resAll_nil {R:CV→List CObj→Prop}:resK (Q5 T H []) R H=R (.tup []) H:=by simp[Q5,resK,Cond.holds]
theorem resAll_tmp2 {t t':Nat}{R:CV→List CObj→Prop}:resK (Q5 T H [.tmp t,.tmp t']) R H=R (.tup [T.getD t .un,T.getD t' .un]) H:=by simp[Q5,JcL,resK,Cond.holds]
theorem resAll_tmp3 {t t' t'':Nat}{R:CV→List CObj→Prop}:resK (Q5 T H [.tmp t,.tmp t',.tmp t'']) R H=R (.tup [T.getD t .un,T.getD t' .un,T.getD t'' .un]) H:=by simp[Q5,JcL,resK,Cond.holds]
theorem put_some {d:Nat}{v:CV}:put T (some d) v=T.set d v:=rfl
theorem put_none {v:CV}:put T none v=T:=rfl
theorem aget_s {n:Nat}:Kc T (.s n)=T.getD n .un:=rfl
theorem aget_c {v:CV}:Kc T (.c v)=v:=rfl
theorem Jd4 {z b:Nat}:KJ z b H .nils []=some (.tt,.nils,H):=rfl
theorem JeC {z b id off len:Nat}{cap:Option Nat}:KJ z b H (.slc id off len cap) []=some (.tt,.slc id off len cap,H):=rfl
theorem Jd3 {z b z':Nat}{els:List (List CV)}{cap:Option Nat}:KJ z b H (.rslc z' els cap) []=some (.tt,.rslc z' els cap,H):=rfl
theorem Jgp {z bytes:Nat}{x0:List CV}{xs':List (List CV)}:KJ z bytes H .nils (x0::xs')=some (Jr (x0::xs').length bytes,.slc H.length 0 (x0::xs').length none,H++[.arr z (x0::xs')]):=rfl
theorem Jgo {z bytes z' c:Nat}{els:List (List CV)}{x0:List CV}{xs':List (List CV)}:KJ z bytes H (.rslc z' els (some c)) (x0::xs')=if z'=z then some (.and (.le (c+1) (els.length+(x0::xs').length)) (Jr (els.length+(x0::xs').length) bytes),.slc H.length 0 (els.length+(x0::xs').length) none,H++[.arr z (els++(x0::xs'))]) else none:=rfl
theorem exAppend_slc {z bytes id off len:Nat}{cap:Option Nat}{x0:List CV}{xs':List (List CV)}:KJ z bytes H (.slc id off len cap) (x0::xs')=match H[id]? with
   |some (.arr z' els)=>if z'=z∧off+len=els.length then
     match cap with
     |none=>some (Jr (len+(x0::xs').length) bytes,.slc H.length 0 (len+(x0::xs').length) none,(H.set id .dead)++[.arr z (els.drop off++(x0::xs'))])
     |some c=>some (.and (.le (c+1) (len+(x0::xs').length)) (Jr (len+(x0::xs').length) bytes),.slc H.length 0 (len+(x0::xs').length) none,H++[.arr z (els.drop off++(x0::xs'))])
    else if z'=z∧off+len≤els.length∧cap=none then
     some (Jr (len+(x0::xs').length) bytes,.slc H.length 0 (len+(x0::xs').length) none,(H.set id .dead)++[.arr z ((els.take (off+len)).drop off++(x0::xs'))])
    else none
   |_=>none:=rfl
theorem ite_true_eq {α:Type}{a b:α}:(if True then a else b)=a:=if_pos trivial
end
attribute [go_sem] vrun0_eq v_nil v_blk v_ops_nil v_op v_gop v_skip v_seq v_block v_cond v_ret v_exit v_reg v_loop v_dreg v_rfunc vres_some vres_none Cond.holds true_and and_true Bool.and_true Bool.true_and Bool.and_self if_true if_false ite_true_eq forall_const decide_true decide_false He Bool.not_false Bool.false_and Bool.and_false GM Hg Hf Bool.or_false eq_self reduceCtorEq decide_eq_true_eq decide_eq_false_iff_not Bool.true_eq_false GX false_implies true_implies implies_true not_true_eq_false not_false_eq_true false_and and_false and_self Nat.add_zero G5 Gd Int.toNat_natCast Int.natCast_zero or_false false_or or_true true_or G6 Option.map_none Gp Option.getD_none bne_self_eq_false beq_self_eq_true vcond_true vcond_false vguard_skip vguard_tt vguard_ff vguard_tf vguard_ft vexit_some vexit_none
 JfB vloopQ_exit vloopQ_ret retQ_ret retQ_normal resAll_tmp resAll_nil resAll_tmp2 resAll_tmp3 resK Q5 JcL put_some put_none aget_s aget_c exec binI binK exBin Jbd JaC Xy exLen exHi exMx Xx Jd4 JeC Jd3 Jgp Jgo exAppend_slc XN Qo XO CV.cells CV.oneCell QO splice Jgr X6 Xo isKey XB
 List.getD_cons_zero HV List.set_cons_zero List.set_cons_succ List.getElem?_cons_zero Hr GK List.map_nil H6 H8 GJ List.length_nil Hw List.drop_succ_cons H9 La List.take_nil List.drop_nil List.replicate_succ List.replicate_zero
attribute [go_sem low] vcond_bool vguard_bool
attribute [go_sem_proc] Nat.reduceAdd Nat.reduceSub Nat.reduceMul Nat.reduceLeDiff Nat.reduceEqDiff Nat.reduceLT Nat.reduceBEq Int.reduceToNat Int.reduceAdd Int.reduceSub Int.reduceMul Int.reduceNeg Int.reduceLE Int.reduceLT Int.reduceEq Int.reduceBEq Int.reduceBNe reduceIte
end
section
mutual
def CV.closed:CV→Bool
 |.ptr _ _ _=>false
 |.slc _ _ _ _=>false
 |.map _=>false
 |.fn _ l1 l2=>Jv l1 && Jv l2
 |.iface _ c=>c.closed
 |.agg l=>Jv l
 |.tup l=>Jv l
 |_=>true
def Jv:List CV→Bool
 |[]=>true
 |c::cs=>c.closed && Jv cs
end
mutual
theorem K6 {own own':List Own}{imm:Nat→Nat→Option Value}:∀ (c:CV) (v:Value),c.closed=true→rel own imm c v→rel own' imm c v
 |.un,_,_,_=>by simp only[rel]
 |.bool _,_,_,h=>by simp only[rel]at h ⊢; exact h
 |.int _ _,_,_,h=>by simp only[rel]at h ⊢; exact h
 |.str _,_,_,h=>by simp only[rel]at h ⊢; exact h
 |.nilp,_,_,h=>by simp only[rel]at h ⊢; exact h
 |.ptr _ _ _,_,hc,_=>by simp[CV.closed]at hc
 |.rptr _,_,_,h=>by simp only[rel]at h ⊢; exact h
 |.nils,_,_,h=>by simp only[rel]at h ⊢; exact h
 |.slc _ _ _ _,_,hc,_=>by simp[CV.closed]at hc
 |.rslc _ _ _,_,_,h=>by simp only[rel]at h ⊢; exact h
 |.nilm,_,_,h=>by simp only[rel]at h ⊢; exact h
 |.map _,_,hc,_=>by simp[CV.closed]at hc
 |.fn _ l1 l2,_,hc,h=>by
  simp only[rel]at h ⊢
  simp only[CV.closed,Ga]at hc
  obtain ⟨vs1,vs2,e,h1,h2⟩:=h
  exact ⟨vs1,vs2,e,KF l1 _ hc.1 h1,KF l2 _ hc.2 h2⟩
 |.yld _,_,_,h=>by simp only[rel]at h ⊢; exact h
 |.nilf,_,_,h=>by simp only[rel]at h ⊢; exact h
 |.iface _ c,_,hc,h=>by
  simp only[rel]at h ⊢
  simp only[CV.closed]at hc
  obtain ⟨r,e,h1⟩:=h
  exact ⟨r,e,K6 c _ hc h1⟩
 |.nili,_,_,h=>by simp only[rel]at h ⊢; exact h
 |.agg l,_,hc,h=>by
  simp only[rel]at h ⊢
  simp only[CV.closed]at hc
  obtain ⟨vs,e,h1⟩:=h
  exact ⟨vs,e,KF l _ hc h1⟩
 |.tup l,_,hc,h=>by
  simp only[rel]at h ⊢
  simp only[CV.closed]at hc
  obtain ⟨vs,e,h1⟩:=h
  exact ⟨vs,e,KF l _ hc h1⟩
theorem KF {own own':List Own}{imm:Nat→Nat→Option Value}:∀ (l:List CV) (vs:List Value),Jv l=true→JM own imm l vs→JM own' imm l vs
 |[],vs,_,h=>by simp only[JM]at h ⊢; exact h
 |c::cs,vs,hc,h=>by
  simp only[JM]at h ⊢
  simp only[Jv,Ga]at hc
  obtain ⟨r,rs,e,h1,h2⟩:=h
  exact ⟨r,rs,e,K6 c _ hc.1 h1,KF cs _ hc.2 h2⟩
end
def Jw:List (List CV)→Bool
 |[]=>true
 |e::es=>Jv e && Jw es
theorem XX:∀ {els:List (List CV)},Jw els=true→∀ (j:Nat) e,els[j]? = some e→Jv e=true
 |[],_,j,e,h=>by simp at h
 |x::xs,hc,j,e,h=>by
  simp only[Jw,Ga]at hc
  cases j with
  |zero=>simp at h; subst h; exact hc.1
  |succ j=>exact XX hc.2 j e (by simpa using h)
theorem Yb:∀ {l:List CV},Jv l=true→∀ (j:Nat) c,l[j]? = some c→c.closed=true
 |[],_,j,e,h=>by simp at h
 |x::xs,hc,j,e,h=>by
  simp only[Jv,Ga]at hc
  cases j with
  |zero=>simp at h; subst h; exact hc.1
  |succ j=>exact Yb hc.2 j e (by simpa using h)
mutual
def frz (id z:Nat) (els:List (List CV)):CV→CV
 |.slc j off len cap=>if j=id then (if off+len≤els.length then .rslc z ((els.drop off).take len) none else .un) else .slc j off len cap
 |.ptr j i off=>if j=id then .rptr ((els.getD i []).drop off) else .ptr j i off
 |.fn f l1 l2=>.fn f (JS id z els l1) (JS id z els l2)
 |.iface t c=>.iface t (frz id z els c)
 |.agg l=>.agg (JS id z els l)
 |.tup l=>.tup (JS id z els l)
 |c=>c
def JS (id z:Nat) (els:List (List CV)):List CV→List CV
 |[]=>[]
 |c::cs=>frz id z els c::JS id z els cs
end
def KP (id z:Nat) (els:List (List CV)):CObj→CObj
 |.arr z' e=>.arr z' (e.map (JS id z els))
 |.map kvs=>.map (kvs.map fun p=>(frz id z els p.1,frz id z els p.2))
 |o=>o
theorem Jbz {id z:Nat}{els:List (List CV)}:∀ (l:List CV),(JS id z els l).length=l.length
 |[]=>rfl
 |_::cs=>by simp[JS,Jbz cs]
theorem Jgh {id z:Nat}{els:List (List CV)}:∀ (l:List CV) (i:Nat),(JS id z els l)[i]? = (l[i]?).map (frz id z els)
 |[],_=>by simp[JS]
 |c::cs,0=>by simp[JS]
 |c::cs,i+1=>by simp[JS,Jgh cs i]
def Ki (id z:Nat) (els:List (List CV)) (H:List CObj):List CObj:=(H.map (KP id z els)).set id .dead
def Jbf (imm:Nat→Nat→Option Value) (B:Nat) (cells:Array Value):Nat→Nat→Option Value:=fun B' i=>if B'=B then cells[i]? else imm B' i
section
variable {E:Env}{n0:Nat}{m:Bk}{H:List CObj}{w:World}
theorem Jeu {own:List Own}{imm:Nat→Nat→Option Value}{z o:Nat}{els:List (List CV)}{R:Nat→Option Value}(h:relO own imm z els R o) (hc:Jw els=true):Xe imm z els R o:=by
 rw[K5]
 intro j e he
 refine ⟨(h j e he).1,fun t c ht=>?_⟩
 obtain ⟨r,h1,h2⟩:=(h j e he).2 t c ht
 exact ⟨r,h1,K6 c r (Yb (XX hc j e he) t c ht) h2⟩
theorem relEls_sub {imm:Nat→Nat→Option Value}{z o:Nat}{els:List (List CV)}{R:Nat→Option Value}(h:Xe imm z els R o) (k n:Nat):Xe imm z ((els.drop k).take n) R (o+k*z):=by
 rw[K5]at h ⊢
 intro j e hj
 have hj1:j < n:=by have:=(Gg.1 hj).1; simp at this; omega
 rw[List.getElem?_take_of_lt hj1,HY]at hj
 have:=h _ _ hj
 rw[Nat.add_mul]at this
 refine ⟨this.1,fun t c hc=>?_⟩
 have:=this.2 t c hc
 rw[show o+k*z+j*z+t=o+(k*z+j*z)+t by omega]; exact this
mutual
theorem frz_rel {own:List Own}{imm imm':Nat→Nat→Option Value}{id z:Nat}{els:List (List CV)}{x:Own}(hi:Kl imm imm') (hx:own[id]? = some x) (hz:x.z=z) (hr:Xe imm' z els (imm' x.B) x.o) :
  ∀ (c:CV) (v:Value),rel own imm c v→rel own imm' (frz id z els c) v
 |.un,_,_=>by simp only[frz,rel]
 |.bool _,_,h=>by simp only[frz,rel]at h ⊢; exact h
 |.int _ _,_,h=>by simp only[frz,rel]at h ⊢; exact h
 |.str _,_,h=>by simp only[frz,rel]at h ⊢; exact h
 |.nilp,_,h=>by simp only[frz,rel]at h ⊢; exact h
 |.ptr j i off,v,h=>by
  simp only[frz]
  by_cases hj:j=id
  ·subst hj
   simp only[rel]at h
   obtain ⟨x',hx',rfl⟩:=h
   rw[hx]at hx'; cases hx'
   simp only[if_true,rel]
   refine ⟨x.B,x.o+i*x.z+off,rfl,?_⟩
   rw[Yz]
   intro t c ht
   rw[HY]at ht
   cases he:els[i]? with
   |none=>simp[Ha,he]at ht
   |some e=>
    simp[Ha,he]at ht
    obtain ⟨r,h1,h2⟩:=((K5 _ _).1 hr i e he).2 _ _ ht
    exact ⟨r,by rw[hz]; rw[show x.o+i*z+off+t=x.o+i*z+(off+t) by omega]; exact h1,h2⟩
  ·rw[if_neg hj]
   exact QV (KH.refl _) hi _ _ h
 |.rptr cs,v,h=>by
  simp only[frz]
  exact QV (KH.refl _) hi _ _ h
 |.nils,_,h=>by simp only[frz,rel]at h ⊢; exact h
 |.slc j off len cap,v,h=>by
  simp only[frz]
  by_cases hj:j=id
  ·subst hj
   rw[if_pos rfl]
   by_cases hl:off+len≤els.length
   ·rw[if_pos hl]
    simp only[rel]at h
    obtain ⟨x',a,c,hx',rfl,hlc,hcap,ha,hle⟩:=h
    rw[hx]at hx'; cases hx'
    have hlen:((els.drop off).take len).length=len:=by simp; omega
    simp only[rel]
    by_cases hc0:c=0
    ·subst hc0
     have:len=0:=by omega
     subst this
     exact .inl ⟨.inl trivial,by simp,_,rfl⟩
    ·refine .inr ⟨x.B,x.o+off*x.z,c,by rw[hlen,ha hc0],by rw[hlen]; exact hlc,by simp,?_⟩
     rw[hz]
     exact relEls_sub hr off len
   ·rw[if_neg hl]; simp only[rel]
  ·rw[if_neg hj]
   exact QV (KH.refl _) hi _ _ h
 |.rslc z' e cap,v,h=>by
  simp only[frz]
  exact QV (KH.refl _) hi _ _ h
 |.nilm,_,h=>by simp only[frz,rel]at h ⊢; exact h
 |.map _,_,h=>by simp only[frz,rel]at h ⊢; exact h
 |.fn f l1 l2,_,h=>by
  simp only[frz,rel]at h ⊢
  obtain ⟨vs1,vs2,e,h1,h2⟩:=h
  exact ⟨vs1,vs2,e,JbZ hi hx hz hr l1 _ h1,JbZ hi hx hz hr l2 _ h2⟩
 |.yld _,_,h=>by simp only[frz,rel]at h ⊢; exact h
 |.nilf,_,h=>by simp only[frz,rel]at h ⊢; exact h
 |.iface _ c,_,h=>by
  simp only[frz,rel]at h ⊢
  obtain ⟨r,e,h1⟩:=h
  exact ⟨r,e,frz_rel hi hx hz hr c _ h1⟩
 |.nili,_,h=>by simp only[frz,rel]at h ⊢; exact h
 |.agg l,_,h=>by
  simp only[frz,rel]at h ⊢
  obtain ⟨vs,e,h1⟩:=h
  exact ⟨vs,e,JbZ hi hx hz hr l _ h1⟩
 |.tup l,_,h=>by
  simp only[frz,rel]at h ⊢
  obtain ⟨vs,e,h1⟩:=h
  exact ⟨vs,e,JbZ hi hx hz hr l _ h1⟩
theorem JbZ {own:List Own}{imm imm':Nat→Nat→Option Value}{id z:Nat}{els:List (List CV)}{x:Own}(hi:Kl imm imm') (hx:own[id]? = some x) (hz:x.z=z) (hr:Xe imm' z els (imm' x.B) x.o) :
  ∀ (l:List CV) (vs:List Value),JM own imm l vs→JM own imm' (JS id z els l) vs
 |[],vs,h=>by simp only[JS,JM]at h ⊢; exact h
 |c::cs,vs,h=>by
  simp only[JS,JM]at h ⊢
  obtain ⟨r,rs,e,h1,h2⟩:=h
  exact ⟨r,rs,e,frz_rel hi hx hz hr c _ h1,JbZ hi hx hz hr cs _ h2⟩
end
theorem Ja2 {id z:Nat}{els:List (List CV)}(o:CObj):(KP id z els o).alive=o.alive:=by cases o <;> rfl
theorem YX {id z k:Nat}{els:List (List CV)}{o:CObj}(h:(Ki id z els H)[k]? = some o):∃ o0,H[k]? = some o0∧((k=id∧o=.dead)∨(k≠id∧o=KP id z els o0)):=by
 simp only[Ki,Gw,List.length_map]at h
 split at h
 ·rename_i hk
  subst hk
  split at h
  ·rename_i hlt
   exact ⟨H[id],Gb hlt,.inl ⟨rfl,(Option.some.inj h).symm⟩⟩
  ·cases h
 ·rename_i hk
  rw[Gr]at h
  cases hH:H[k]? with
  |none=>simp[hH]at h
  |some o0=>simp[hH]at h; exact ⟨o0,rfl,.inr ⟨fun e=>hk e.symm,h.symm⟩⟩
theorem relO_frz {own:List Own}{imm imm':Nat→Nat→Option Value}{id z zz o:Nat}{els es:List (List CV)}{R:Nat→Option Value}(hf:∀ c v,rel own imm c v→rel own imm' (frz id z els c) v) (h:relO own imm zz es R o):relO own imm' zz (es.map (JS id z els)) R o:=by
 intro j e he
 rw[Gr]at he
 cases hes:es[j]? with
 |none=>simp[hes]at he
 |some e0=>
  simp[hes]at he; subst he
  obtain ⟨h1,h2⟩:=h j e0 hes
  refine ⟨by rw[Jbz]; exact h1,fun t c hc=>?_⟩
  rw[Jgh]at hc
  cases ht:e0[t]? with
  |none=>simp[ht]at hc
  |some c0=>
   simp[ht]at hc; subst hc
   obtain ⟨r,h3,h4⟩:=h2 t c0 ht
   exact ⟨r,h3,hf _ _ h4⟩
theorem Sim.freeze {id z:Nat}{els:List (List CV)}(hs:Sim E m H w) (hH:H[id]? = some (.arr z els)) (hc:Jw els=true) :
  ∃ imm',Sim E { m with imm:=imm' } (Ki id z els H) w∧Ext n0 m H w { m with imm:=imm' } (Ki id z els H) w∧∀ c v,rel m.own m.imm c v→rel m.own imm' (frz id z els c) v:=by
 have hlt:id < m.own.length:=by rw[hs.len]; exact (Gg.1 hH).1
 have hx:m.own[id]? = some m.own[id]:=Gb hlt
 generalize m.own[id]=x at hx
 obtain ⟨hz,cells,elem,hb,hsz,hle,hrow,hone⟩:=hs.obj id _ x hH hx
 have hi:Kl m.imm (Jbf m.imm x.B cells):=by
  intro B i v hv
  simp only[Jbf]
  split
  ·rename_i hB
   subst hB
   have:=hs.imm _ i v hv
   simpa [World.cell?,hb]using this
  ·exact hv
 have hrel:Xe (Jbf m.imm x.B cells) z els (Jbf m.imm x.B cells x.B) x.o:=by
  have h1:relO m.own (Jbf m.imm x.B cells) x.z els (fun i=>cells[i]?) x.o:=Jaq (KH.refl _) hi hrow
  have h2:=Jeu h1 hc
  rw[hz]at h2
  have e:Jbf m.imm x.B cells x.B=fun i=>cells[i]?:=by funext i; simp[Jbf]
  rw[e]; exact h2
 have hf:∀ c v,rel m.own m.imm c v→rel m.own (Jbf m.imm x.B cells) (frz id z els c) v:=frz_rel hi hx hz hrel
 have hxB:x.B < w.heap.size:=(Gy.1 hb).1
 refine ⟨Jbf m.imm x.B cells,⟨by simp[Ki,hs.len],fun k o x' hk hx'=>?_,fun B i v hv=>?_,fun B i v hv=>?_,fun k k' o o' x1 x2 h1 h2 ha1 ha2 hx1 hx2 hB=>?_,fun k o x' hk ha hx' i hi=>?_,fun k s b hk=>?_,fun k o x' hk ha hx'=>?_,hs.extlt,hs.gl⟩,⟨Gd _,fun _ _ _=>rfl,hi,fun B ho=>.inl ?_,fun B i v hv=>?_,fun _ _ _ h=>h,fun h=>h,rfl,rfl,rfl⟩,hf⟩
 ·obtain ⟨o0,h0,hh⟩:=YX hk
  rcases hh with ⟨_,rfl⟩ | ⟨hne,rfl⟩
  ·trivial
  ·have:=hs.obj k o0 x' h0 hx'
   cases o0 with
   |arr z' es=>
    obtain ⟨a1,c,el,a2,a3,a4,a5,a6⟩:=this
    exact ⟨a1,c,el,a2,a3,by simpa using a4,relO_frz hf a5,a6⟩
   |map kvs=>
    obtain ⟨es,clock,a1,a2,a3⟩:=this
    refine ⟨es,clock,a1,by simpa using a2,fun i k v e hk he=>?_⟩
    rw[Gr]at hk
    cases hkv:kvs[i]? with
    |none=>simp[hkv]at hk
    |some p=>
     simp[hkv]at hk
     obtain ⟨rfl,rfl⟩:=hk
     have:=a3 i p.1 p.2 e hkv he
     exact ⟨hf _ _ this.1,hf _ _ this.2⟩
   |dead=>trivial
   |ext s b=>trivial
 ·simp only[Jbf]at hv
  split at hv
  ·rename_i hB; subst hB; simpa [World.cell?,hb]using hv
  ·exact hs.imm B i v hv
 ·simp only[Jbf]at hv
  split at hv
  ·exact hone _ v hv
  ·exact hs.one B i v hv
 ·obtain ⟨p1,q1,hh1⟩:=YX h1
  obtain ⟨p2,q2,hh2⟩:=YX h2
  rcases hh1 with ⟨_,rfl⟩ | ⟨_,rfl⟩
  ·cases ha1
  rcases hh2 with ⟨_,rfl⟩ | ⟨_,rfl⟩
  ·cases ha2
  rw[Ja2]at ha1 ha2
  exact hs.sep k k' p1 p2 x1 x2 q1 q2 ha1 ha2 hx1 hx2 hB
 ·obtain ⟨p1,q1,hh1⟩:=YX hk
  rcases hh1 with ⟨_,rfl⟩ | ⟨hne,rfl⟩
  ·cases ha
  rw[Ja2]at ha
  have hBne:x'.B≠x.B:=fun e=>hne (hs.sep k id p1 _ x' x q1 hH ha rfl hx' hx e)
  simp only[Jbf,if_neg hBne]
  exact hs.ro k p1 x' q1 ha hx' i hi
 ·obtain ⟨p1,q1,hh1⟩:=YX hk
  rcases hh1 with ⟨_,h⟩ | ⟨hne,h⟩
  ·cases h
  have:p1=.ext s b:=by cases p1 <;> simp[KP]at h; simp[h]
  subst this
  refine E.stable _ _ _ _ _ _ _ (hs.ext k s b q1) (fun _ _=>rfl) (Gd _) hi (fun B i v hv=>?_) (fun B i v hv=>?_) (fun B i v hv=>?_)
  ·simp only[Jbf]at hv
   split at hv
   ·rename_i hB; subst hB; exact .inr fun hb=>hs.extsep id _ x hH rfl hx (.inl hb)
   ·exact .inl hv
  ·simp only[Jbf]at hv
   split at hv
   ·rename_i hB; subst hB; simpa [World.cell?,hb]using hv
   ·exact hs.imm B i v hv
  ·simp only[Jbf]at hv
   split at hv
   ·exact hone _ v hv
   ·exact hs.one B i v hv
 ·obtain ⟨p1,q1,hh1⟩:=YX hk
  rcases hh1 with ⟨_,rfl⟩ | ⟨hne,rfl⟩
  ·cases ha
  rw[Ja2]at ha
  exact hs.extsep k p1 x' q1 ha hx'
 ·rcases ho with h | ⟨k,o,x',hk,ha,hx',hB⟩
  ·exact .inl h
  ·obtain ⟨p1,q1,hh1⟩:=YX hk
   rcases hh1 with ⟨_,rfl⟩ | ⟨hne,rfl⟩
   ·cases ha
   rw[Ja2]at ha
   exact .inr ⟨k,p1,x',q1,ha,hx',hB⟩
 ·simp only[Jbf]at hv
  split at hv
  ·rename_i hB; subst hB; exact .inr (.inl (.inr ⟨id,_,x,hH,rfl,hx,rfl⟩))
  ·exact .inl hv
end
end
section
section
variable {P:Program}{E:Env}{n0:Nat}{N:Fr}{Q:Exit→List CV→List CObj→Prop}{H:List CObj}{T:List CV}{k:List KItem}
theorem ok_freeze {id z:Nat}{els:List (List CV)}(hH:H[id]? = some (.arr z els)) (hc:Jw els=true) (h:Ok P E n0 N Q k (JS id z els T) (Ki id z els H)):Ok P E n0 N Q k T H:=by
 intro m w a b cs kr rest hp hd hk
 obtain ⟨imm',hs,he,hf⟩:=Sim.freeze (n0:=n0) hp.sim hH hc
 have hT:JM m.own imm' (JS id z els T) a.tmps.toList:=by
  have ht:=hp.tmps
  rw[Xd]at ht ⊢
  refine ⟨by rw[Jbz]; exact ht.1,fun i c v hc' hv=>?_⟩
  rw[Jgh]at hc'
  cases hTi:T[i]? with
  |none=>simp[hTi]at hc'
  |some c0=>simp[hTi]at hc'; subst hc'; exact hf _ _ (ht.2 i c0 v hTi hv)
 exact Reach.step (.refl _ _) he (h { m with imm:=imm' } w a b cs kr rest ⟨hs,hT,by simpa [Ki]using hp.long⟩ (hd.ext he) hk)
theorem CallsC.freeze {f:Nat}{args:List CV}{R R':CV→List CObj→Prop}(h:CallsC P E f args H R) (hR:∀ v H',R v H'→∃ id z els,H'[id]? = some (.arr z els)∧Jw els=true∧R' (frz id z els v) (Ki id z els H')):CallsC P E f args H R':=by
 intro m w vs hs hv
 refine (h m w vs hs hv).mono ?_
 rintro e w' ⟨r,m',v,H',h1,h2,h3,h4,h5⟩
 obtain ⟨id,z,els,g1,g2,g3⟩:=hR _ _ h5
 obtain ⟨imm',hs',he,hf⟩:=Sim.freeze (n0:=H.length) h3 g1 g2
 exact ⟨r,_,_,_,h1,h2.trans he,hs',hf _ _ h4,g3⟩
theorem Sim.back {m:Bk}{w w':World}{m':Bk}{H':List CObj}(hs:Sim E m H w) (hext:Ext n0 { own:=[],imm:=m.imm,ext:=fun _=>False } [] w m' H' w') (hs':Sim Env.none m' H' w') :
  Sim E { m with imm:=m'.imm } H w'∧∀ n1,Ext n1 m H w { m with imm:=m'.imm } H w':=by
 have hno:∀ B,¬ owned { own:=[],imm:=m.imm,ext:=fun _=>False } [] B:=by
  rintro B (h | ⟨k,o,x,hk,_⟩)
  ·exact h
  ·simp at hk
 have hfr:∀ B,B < w.heap.size→w'.heap[B]? = w.heap[B]?:=fun B hB=>hext.frame B hB (hno B)
 have hi:Kl m.imm m'.imm:=hext.imm
 have hnew:∀ B i v,m'.imm B i=some v→m.imm B i=some v∨w.heap.size≤B:=fun B i v hv=>by
  rcases hext.newImm B i v hv with h | h | h
  ·exact .inl h
  ·exact absurd h (hno B)
  ·exact .inr h
 refine ⟨⟨hs.len,fun k o x hk hx=>?_,hs'.imm,hs'.one,hs.sep,fun k o x hk hal hx i hxi=>?_,fun k s b hk=>?_,hs.extsep,fun B hB=>Gt (hs.extlt B hB) hext.size,hs'.gl.1,hs.gl.2⟩,fun n1=>⟨hext.size,fun B hB _=>hfr B hB,hi,fun B ho=>.inl ho,fun B i v hv=>?_,fun _ _ _ h=>h,fun h=>h,hext.same⟩⟩
 ·by_cases hal:o.alive=true
  ·exact Ku (KH.refl _) hi (fun _=>hfr _ (YI hs hk hal hx)) (hs.obj k o x hk hx)
  ·cases o <;> simp[CObj.alive]at hal <;> trivial
 ·cases hv:m'.imm x.B i with
  |none=>rfl
  |some v=>
   rcases hnew _ _ _ hv with h | h
   ·rw[hs.ro k o x hk hal hx i hxi]at h; cases h
   ·have:=YI hs hk hal hx; omega
 ·exact E.stable _ _ _ _ _ _ _ (hs.ext k s b hk) (fun B hB=>hfr B (hs.extlt B hB)) hext.size hi (fun B i v hv=>by
   rcases hnew B i v hv with h | h
   ·exact .inl h
   ·exact .inr fun hb=>by have:=hs.extlt B (.inl hb); omega) hs'.imm hs'.one
 ·rcases hnew B i v hv with h | h
  ·exact .inl h
  ·exact .inr (.inr h)
theorem Sim.nothing {m:Bk}{w:World}(hs:Sim E m H w):Sim Env.none { own:=[],imm:=m.imm,ext:=fun _=>False } [] w:=
 ⟨rfl,by simp,hs.imm,hs.one,by simp,by simp,by simp,by simp,fun B h=>hs.gl.1.lt (h.resolve_left id),hs.gl.1,by simp⟩
theorem CallsC.frame {f:Nat}{args:List CV}{R:CV→List CObj→Prop}{R':CV→Prop}(h:CallsC P Env.none f args [] R) (ha:Jv args=true) (hR:∀ v H',R v H'→v.closed=true∧R' v):CallsC P E f args H fun v H'=>R' v∧H'=H:=by
 intro m w vs hs hv
 refine (h _ w vs hs.nothing (KF _ _ ha hv)).mono ?_
 rintro e w' ⟨r,m',v,H',rfl,hext,hs',hrel,hRv⟩
 obtain ⟨hcl,hR'⟩:=hR _ _ hRv
 obtain ⟨h1,h2⟩:=hs.back hext hs'
 exact ⟨r,{ m with imm:=m'.imm },v,H,rfl,h2 _,h1,K6 v r hcl hrel,hR',rfl⟩
def Fn (P:Program) (f:Nat) (args:List CV) (v:CV):Prop:=∀ (E:Env) (H:List CObj),Pure P E f args H v
theorem fn_of {f:Nat}{args:List CV}{v:CV}(h:CallsC P Env.none f args [] fun v' _=>v'=v) (ha:Jv args=true) (hv:v.closed=true):Fn P f args v:=
 fun E H=>h.frame ha fun v' _ hv'=>by subst hv'; exact ⟨hv,rfl⟩
theorem Jb {f:Nat}{F:IFunc}{args:List CV}{v:CV}(hF:Jg P f=some F) (ha:Jv args=true) (hv:v.closed=true) (h:∀ n,vrun0 P Env.none 0 ⟨n,false⟩ (retQ F.results fun v' _=>v'=v) [.code F.body] (args++GH (F.ntmps-args.length) .un) []):Fn P f args v:=
 fn_of (J7 hF h) ha hv
theorem JR {d:Option Nat}{f:Nat}{as:List IArg}{l:List IOper}{v:CV}(hcall:Fn P f (as.map (Kc T)) v) (h:Kn P E n0 N Q (.ops l::k) (put T d v) H):Ok P E n0 N Q (.ops (⟨d,.call f as,none⟩::l)::k) T H:=
 Jag (hcall E H) h
theorem JV {d:Option Nat}{g:Option (Nat×Bool)}{f:Nat}{as:List IArg}{l:List IOper}{v:CV}(hg:GOk T g) (hcall:Fn P f (as.map (Kc T)) v) (h:Kn P E n0 N Q (.ops l::k) (put T d v) H):Ok P E n0 N Q (.ops (⟨d,.call f as,g⟩::l)::k) T H:=
 vr_pureg hg (hcall E H) h
end
end
section
def IArg.rd:IArg→List Nat
 |.s n=>[n]
 |.c _=>[]
def rdL:List IArg→List Nat
 |[]=>[]
 |x::l=>x.rd++rdL l
def rdO:Option IArg→List Nat
 |none=>[]
 |some x=>x.rd
def rdP:List (Nat×Nat×IArg)→List Nat
 |[]=>[]
 |(_,_,x)::l=>x.rd++rdP l
def rdE:List (Nat×IArg)→List Nat
 |[]=>[]
 |(_,x)::l=>x.rd++rdE l
def IOp.rd:IOp→List Nat
 |.mv a=>a.rd
 |.pick c a b=>c.rd++(a.rd++b.rd)
 |.alloc _=>[]
 |.box a=>a.rd
 |.build _ ps=>rdP ps
 |.bslice _ _ _ ps=>rdE ps
 |.load _ _ a=>a.rd
 |.store _ a v=>a.rd++v.rd
 |.bin _ _ x y=>x.rd++y.rd
 |.eqs _ _ x y=>x.rd++y.rd
 |.not x=>x.rd
 |.neg x=>x.rd
 |.conv _ x=>x.rd
 |.mkfn _ l1 l2=>rdL l1++rdL l2
 |.mkmap=>[]
 |.mkslice _ _ _ l c=>l.rd++c.rd
 |.slice _ x lo hi mx=>x.rd++(rdO lo++(rdO hi++rdO mx))
 |.faddr _ x=>x.rd
 |.field _ _ _ x=>x.rd
 |.iaddr _ x i=>x.rd++i.rd
 |.indexS x i=>x.rd++i.rd
 |.lookup _ _ _ m k=>m.rd++k.rd
 |.mapset _ m k v=>m.rd++(k.rd++v.rd)
 |.len _ x=>x.rd
 |.append _ _ s x=>s.rd++x.rd
 |.clear _ x=>x.rd
 |.extract x _=>x.rd
 |.nchk x=>x.rd
 |.sliceS x lo hi=>x.rd++(rdO lo++rdO hi)
 |.mmx _ x y=>x.rd++y.rd
 |.copy _ x y=>x.rd++y.rd
 |.call _ as=>rdL as
 |.callv x as=>x.rd++rdL as
def agree (l:List Nat) (T T':List CV):Prop:=∀ s∈l,T.getD s .un=T'.getD s .un
theorem Jm {a b:List Nat}{T T':List CV}(h:agree (a++b) T T'):agree a T T'∧agree b T T':=
 ⟨fun s hs=>h s (by simp[hs]),fun s hs=>h s (by simp[hs])⟩
theorem Ju {x:IArg}{T T':List CV}(h:agree x.rd T T'):Kc T x=Kc T' x:=by
 cases x with
 |s n=>exact h n (by simp[IArg.rd])
 |c v=>rfl
theorem X3 {T T':List CV}:∀ {l:List IArg},agree (rdL l) T T'→l.map (Kc T)=l.map (Kc T')
 |[],_=>rfl
 |x::l,h=>by
  simp only[rdL]at h
  simp only[GK,Ju (Jm h).1,X3 (Jm h).2]
theorem JaP {T T':List CV}:∀ {ps:List (Nat×Nat×IArg)}{c:List CV},agree (rdP ps) T T'→Qo T c ps=Qo T' c ps
 |[],_,_=>rfl
 |(off,n,x)::ps,c,h=>by
  simp only[rdP]at h
  simp only[Qo,Ju (Jm h).1]
  split
  ·rfl
  ·split
   ·exact JaP (Jm h).2
   ·rfl
theorem Jcc {z:Nat}{T T':List CV}:∀ {ps:List (Nat×IArg)}{c:List (List CV)},agree (rdE ps) T T'→XO T z c ps=XO T' z c ps
 |[],_,_=>rfl
 |(i,x)::ps,c,h=>by
  simp only[rdE]at h
  simp only[XO,Ju (Jm h).1]
  split
  ·rfl
  ·split
   ·exact Jcc (Jm h).2
   ·rfl
theorem JbE {d:Int}{x:Option IArg}{T T':List CV}(h:agree (rdO x) T T'):Xy T d x=Xy T' d x:=by
 cases x with
 |none=>rfl
 |some x=>simp only[Xy,Ju (T:=T) (T':=T') (x:=x) h]
theorem agree_hi {v:CV}{x:Option IArg}{T T':List CV}(h:agree (rdO x) T T'):exHi T v x=exHi T' v x:=by
 cases x with
 |none=>rfl
 |some x=>simp only[exHi,Ju (T:=T) (T':=T') (x:=x) h]
theorem agree_mx {x:Option IArg}{T T':List CV}(h:agree (rdO x) T T'):exMx T x=exMx T' x:=by
 cases x with
 |none=>rfl
 |some x=>simp only[exMx,Ju (T:=T) (T':=T') (x:=x) h]
theorem Xw {op:IOp}{T T':List CV}{H:List CObj}(h:agree op.rd T T'):exec op T H=exec op T' H:=by
 cases op <;> simp only[IOp.rd]at h <;> simp only[exec]
 case mv a=>rw[Ju h]
 case pick c a b=>rw[Ju (Jm h).1,Ju (Jm (Jm h).2).1,Ju (Jm (Jm h).2).2]
 case box a=>rw[Ju h]
 case build z ps=>rw[JaP h]
 case bslice z n zero ps=>rw[Jcc h]
 case load=>rw[Ju h]
 case store=>rw[Ju (Jm h).1,Ju (Jm h).2]
 case bin=>rw[Ju (Jm h).1,Ju (Jm h).2]
 case eqs=>rw[Ju (Jm h).1,Ju (Jm h).2]
 case not=>rw[Ju h]
 case neg=>rw[Ju h]
 case conv=>rw[Ju h]
 case mkfn=>rw[X3 (Jm h).1,X3 (Jm h).2]
 case mkslice=>rw[Ju (Jm h).1,Ju (Jm h).2]
 case slice=>rw[Ju (Jm h).1,JbE (Jm (Jm h).2).1,agree_hi (Jm (Jm (Jm h).2).2).1,agree_mx (Jm (Jm (Jm h).2).2).2]
 case faddr=>rw[Ju h]
 case field=>rw[Ju h]
 case iaddr=>rw[Ju (Jm h).1,Ju (Jm h).2]
 case indexS=>rw[Ju (Jm h).1,Ju (Jm h).2]
 case lookup=>rw[Ju (Jm h).1,Ju (Jm h).2]
 case mapset=>rw[Ju (Jm h).1,Ju (Jm (Jm h).2).1,Ju (Jm (Jm h).2).2]
 case len=>rw[Ju h]
 case append=>rw[Ju (Jm h).1,Ju (Jm h).2]
 case clear=>rw[Ju h]
 case extract=>rw[Ju h]
 case nchk=>rw[Ju h]
 case sliceS x lo hi=>
  rw[Ju (Jm h).1]
  split
  ·rw[JbE (Jm (Jm h).2).1,JbE (Jm (Jm h).2).2]
  ·rfl
 case mmx=>rw[Ju (Jm h).1,Ju (Jm h).2]
 case copy=>rw[Ju (Jm h).1,Ju (Jm h).2]
def FV (op:IOp) (T:List CV) (v:CV):Prop:=
 Jv (op.rd.map fun s=>T.getD s .un)=true∧v.closed=true∧∃ c v0 H0 id z els,exec op T []=some (c,v0,H0)∧c.holds∧H0[id]? = some (.arr z els)∧Jw els=true∧v=frz id z els v0
theorem FV.congr {op:IOp}{T T':List CV}{v:CV}(h:agree op.rd T T') (hv:FV op T v):FV op T' v:=by
 obtain ⟨h1,h2,c,v0,H0,id,z,els,h3,h4⟩:=hv
 refine ⟨?_,h2,c,v0,H0,id,z,els,by rw[← Xw h]; exact h3,h4⟩
 rw[← h1]
 congr 1
 exact Hz fun s hs=>(h s hs).symm
def IOper.rd (io:IOper):List Nat:=(match io.guard with | some (g,_)=>[g] | none=>[])++io.op.rd
section
variable (P:Program) (E:Env)
def Val (io:IOper) (T:List CV) (H:List CObj) (v:CV):Prop:=
 (∃ g want,io.guard=some (g,want)∧(T.getD g .un=.bool (!want)∨T.getD g .un=.tup [])∧v=.tup [])∨
 (GOk T io.guard∧((∃ c,exec io.op T H=some (c,v,H)∧c.holds)∨(∃ f as,io.op=.call f as∧Pure P E f (as.map (Kc T)) H v)∨FV io.op T v))
end
section
variable {P:Program}{E:Env}{n0:Nat}{N:Fr}{Q:Exit→List CV→List CObj→Prop}{H:List CObj}{T T':List CV}{k:List KItem}{io:IOper}{v:CV}
theorem Val.congr (h:agree io.rd T T') (hv:Val P E io T H v):Val P E io T' H v:=by
 obtain ⟨d,op,g⟩:=io
 have hg:=(Jm h).1
 have ho:=(Jm h).2
 rcases hv with ⟨s,want,h1,h2,h3⟩ | ⟨h1,h2⟩
 ·simp only at h1; subst h1
  exact .inl ⟨s,want,rfl,by rw[← hg s (by simp)]; exact h2,h3⟩
 ·refine .inr ⟨?_,?_⟩
  ·rcases h1 with h1 | ⟨s,want,h1,h4⟩
   ·exact .inl h1
   ·simp only at h1; subst h1
    exact .inr ⟨s,want,rfl,by rw[← hg s (by simp)]; exact h4⟩
  ·rcases h2 with ⟨c,h5,h6⟩ | ⟨f,as,h5,h6⟩ | h5
   ·exact .inl ⟨c,by rw[← Xw ho]; exact h5,h6⟩
   ·simp only at h5; subst h5
    exact .inr (.inl ⟨f,as,rfl,by rw[← X3 ho]; exact h6⟩)
   ·exact .inr (.inr (h5.congr ho))
def JbV (rd:List Nat) (T:List CV):Nat→List CV
 |0=>[]
 |n+1=>JbV rd T n++[if rd.contains n then T.getD n .un else .un]
theorem Xr (rd:List Nat) (T:List CV):∀ n,(JbV rd T n).length=n
 |0=>rfl
 |n+1=>by simp[JbV,Xr rd T n]
theorem Jcs (rd:List Nat) (T:List CV):∀ n i,i < n→(JbV rd T n)[i]? = some (if rd.contains i then T.getD i .un else .un)
 |n+1,i,h=>by
  rw[JbV]
  by_cases hi:i < n
  ·rw[Gv (by rw[Xr]; exact hi)]; exact Jcs rd T n i hi
  ·have:i=n:=by omega
   subst this
   rw[Gq (by rw[Xr]; exact Gd _),Xr,Nat.sub_self]; rfl
theorem onlyAt_agree (rd:List Nat) (T:List CV):agree rd T (JbV rd T T.length):=by
 intro s hs
 by_cases h:s < T.length
 ·have h1:=Jcs rd T T.length s h
  have h2:rd.contains s=true:=by simpa using hs
  rw[h2,if_pos rfl]at h1
  simp only[Gc,h1,Gp]
 ·have h1:(JbV rd T T.length)[s]? = none:=Gh (by rw[Xr]; omega)
  have h2:T[s]? = none:=Gh (by omega)
  simp only[Gc,h1,h2]
theorem onlyAt_rels {rd:List Nat}{T:List CV}{vs:List Value}{own own':List Own}{imm:Nat→Nat→Option Value}(hc:Jv (rd.map fun s=>T.getD s .un)=true) (h:JM own imm T vs):JM own' imm (JbV rd T T.length) vs:=by
 rw[Xd]at h ⊢
 refine ⟨by rw[Xr]; exact h.1,fun i c v hc' hv=>?_⟩
 have hi:i < T.length:=by have:=(Gg.1 hc').1; rwa [Xr]at this
 rw[Jcs rd T _ i hi]at hc'
 cases hc'
 by_cases hm:rd.contains i=true
 ·rw[if_pos hm]
  refine K6 _ _ ?_ (h.2 i _ v (by rw[Gb hi,Gc,Gb hi]; rfl) hv)
  have hmem:i∈rd:=by simpa using hm
  obtain ⟨j,hj⟩:=List.getElem?_of_mem (Hy (f:=fun s=>T.getD s .un) hmem)
  exact Yb hc j _ hj
 ·rw[if_neg hm]; simp only[rel]
theorem ok_fv {d:Option Nat}{op:IOp}{g:Option (Nat×Bool)}{l:List IOper}(hg:GOk T g) (hv:FV op T v) (h:Ok P E n0 N Q (.ops l::k) (put T d v) H):Ok P E n0 N Q (.ops (⟨d,op,g⟩::l)::k) T H:=by
 obtain ⟨hcl,hvc,c,v0,H0,id,z,els,he,hc,hH,hce,hvf⟩:=hv
 intro m w a b cs kr rest hp hd hk
 obtain ⟨ops,i,is,kr',o,rfl,ho,hco,hk'⟩:=JaY hk
 obtain ⟨hw,hdst,hop⟩:=Jaf hco hg hp.tmps
 have hp0:Pre Env.none 0 { own:=[],imm:=m.imm,ext:=fun _=>False } [] w (JbV op.rd T T.length) a:=⟨hp.sim.nothing,onlyAt_rels hcl hp.tmps,GA _⟩
 obtain ⟨m1,w1,r,nx,hrun,hnx,hext,hsim,hrel,_⟩:=Jfq hop (by rw[← Xw (onlyAt_agree op.rd T)]; exact he) hc hp0
 obtain ⟨imm',hs',he',hf⟩:=Sim.freeze (n0:=0) hsim hH hce
 obtain ⟨g1,g2⟩:=hp.sim.back (hext.trans he') hs'
 have hr:=K6 (own':=m.own) v r hvc (by rw[hvf]; exact hf _ _ hrel)
 have hst:=Jch (b:=b) (cs:=cs) (is:=is) (kr:=kr'++rest) ho hw (semAt_plain hop) hrun hnx
 rw[hdst]at hst
 refine Reach.step (.one hst) (g2 n0) (h _ w1 _ b cs (.inRegion ops is::kr') rest (Jcq g1 (KO (KH.refl _) (hext.trans he').imm _ _ hp.tmps) hp.long hr) ?_ hk')
 rw[put_defers]; exact hd.ext (g2 n0)
theorem Val.ok {l:List IOper}(hv:Val P E io T H v) (h:Ok P E n0 N Q (.ops l::k) (put T io.dst v) H):Ok P E n0 N Q (.ops (io::l)::k) T H:=by
 obtain ⟨d,op,g⟩:=io
 rcases hv with ⟨s,want,h1,h2,h3⟩ | ⟨h1,h2⟩
 ·subst h3; exact JdB h1 h2 h
 ·rcases h2 with ⟨c,h5,h6⟩ | ⟨f,as,h5,h6⟩ | h5
  ·exact ok_op h1 h5 h6 h
  ·simp only at h5; subst h5
   exact Jf2 h1 h6 fun v' H' ⟨hv,hH⟩=>by rw[hv,hH]; exact h
  ·exact ok_fv h1 h5 h
end
end
section
def QI (l:List IOper) (i:Nat):IOper:=l.getD i ⟨none,.mv (.c .un),none⟩
inductive Sched (n:Nat) (es:List (List Nat)):(Nat→Bool)→List Nat→Prop
 |nil {S:Nat→Bool}:(∀ i,i < n→S i=false→∃ e∈es.getD i [],S e=false)→Sched n es S []
 |cons {S:Nat→Bool} {i:Nat} {is:List Nat}:i < n→S i=false→(∀ e∈es.getD i [],S e=true)→Sched n es (fun j=>S j || j == i) is→Sched n es S (i::is)
theorem edges_get {ops:Array Oper}{i:Nat}{o:Oper}(h:ops[i]? = some o):(ops.toList.map JaD).getD i []=JaD o:=by
 have:ops.toList[i]? = some o:=by simpa using h
 simp[Ha,this]
theorem Jdx {o:Oper}{listed:Array Bool}:(o.after.all fun e=>!Region.binds .any e || listed.getD e.on false)=true↔∀ e∈JaD o,listed.getD e false=true:=by
 rw[Array.all_eq_true_iff_forall_mem]
 unfold JaD
 constructor
 ·intro h e he
  simp only[GL,G9]at he
  obtain ⟨x,⟨h1,h2⟩,rfl⟩:=he
  have:=h x (by simpa using h1)
  simpa [h2]using this
 ·intro h x hx
  by_cases hb:Region.binds .any x=true
  ·have:=h x.on (by simp only[GL,G9]; exact ⟨x,⟨by simpa using hx,hb⟩,rfl⟩)
   simpa [hb]using this
  ·simp[hb]
theorem listed_set {listed:Array Bool}{i:Nat}(hi:i < listed.size):(fun j=>(listed.setIfInBounds i true).getD j false)=fun j=>listed.getD j false || j == i:=by
 funext j
 simp only[Gs,Array.getElem?_setIfInBounds]
 by_cases h:i=j
 ·subst h; simp[hi]
 ·have:(j == i)=false:=by simpa using fun e=>h e.symm
  simp[h,this]
theorem JfL (ops:Array Oper):∀ (fuel t:Nat) (listed:Array Bool),listed.size=ops.size→listed.toList.count false≤fuel→
  Sched ops.size (ops.toList.map JaD) (fun i=>listed.getD i false) (Region.linearise.go .any ops fuel t listed []):=by
 intro fuel
 induction fuel with
 |zero=>
  intro t listed hs hc
  simp only[Region.linearise.go,H5]
  refine .nil fun i hi hS=>?_
  have hlt:i < listed.size:=by omega
  have:listed.toList.count false=0:=by omega
  rw[List.count_eq_zero]at this
  have hm:listed[i]∈listed.toList:=by simp
  have:listed[i]≠false:=fun e=>this (e▸hm)
  simp only[Gs,Gf hlt,Gp]at hS
  exact absurd hS this
 |succ fuel ih=>
  intro t listed hs hc
  simp only[Region.linearise.go]
  generalize hrs:(Gi ops.size).filter (fun i=>!listed.getD i true && ((ops[i]?).map (·.after.all fun e=>!Region.binds .any e || listed.getD e.on false)).getD false)=rs
  have hmem:∀ i,i∈rs↔i < ops.size∧listed.getD i false=false∧∀ e∈(ops.toList.map JaD).getD i [],listed.getD e false=true:=by
   intro i
   rw[← hrs,G9,Gx]
   constructor
   ·rintro ⟨h1,h2⟩
    simp only[Ga,GY]at h2
    have ho:ops[i]? = some ops[i]:=Gf h1
    have hl:listed[i]? = some (listed[i]'(by omega)):=Gf (by omega)
    refine ⟨h1,?_,?_⟩
    ·have:=h2.1
     simp only[Gs,hl,Gp]at this ⊢
     exact this
    ·rw[edges_get ho]
     have:=h2.2
     simp only[ho,G6,Gp]at this
     exact Jdx.1 this
   ·rintro ⟨h1,h2,h3⟩
    have ho:ops[i]? = some ops[i]:=Gf h1
    have hl:listed[i]? = some (listed[i]'(by omega)):=Gf (by omega)
    refine ⟨h1,?_⟩
    simp only[Ga,GY]
    refine ⟨?_,?_⟩
    ·simp only[Gs,hl,Gp]at h2 ⊢
     exact h2
    ·simp only[ho,G6,Gp]
     rw[edges_get ho]at h3
     exact Jdx.2 h3
  cases hi:rs[t % rs.length]? with
  |none=>
   have hnil:rs=[]:=by
    cases hr:rs with
    |nil=>rfl
    |cons x xs=>
     rw[hr]at hi
     have hlt:t % (x::xs).length < (x::xs).length:=Nat.mod_lt _ (by simp)
     rw[Gb hlt]at hi
     cases hi
   simp only[H5]
   refine .nil fun i hi hS=>?_
   refine Ld fun hn=>?_
   have:i∈rs:=(hmem i).2 ⟨hi,hS,fun e he=>by
    cases h:listed.getD e false with
    |true=>rfl
    |false=>exact absurd ⟨e,he,h⟩ hn⟩
   rw[hnil]at this; cases this
  |some i=>
   simp only
   rw[linearise_go_acc,List.reverse_singleton,List.singleton_append]
   obtain ⟨h1,h2,h3⟩:=(hmem i).1 (Gl hi)
   refine .cons h1 h2 h3 ?_
   have hlt:i < listed.size:=by omega
   have:=ih (t / rs.length) (listed.setIfInBounds i true) (by simpa using hs) (by
    have hcs:=List.count_set (a:=true) (b:=false) (l:=listed.toList) (i:=i) (by simpa using hlt)
    simp only[Lc,hcs]
    have:listed.toList[i]'(by simpa using hlt)=false:=by
     simp only[Gs,Gf hlt,Gp]at h2
     simpa using h2
    have e1:(listed.toList[i]'(by simpa using hlt) == false)=true:=by rw[this]; rfl
    have e2:(true == false)=false:=rfl
    have e3:listed.toList.count false≤fuel+1:=hc
    rw[if_pos e1,e2]
    simp only[GX,if_false]
    omega)
   rwa [listed_set hlt]at this
def tst (l:List IOper) (v:Nat→CV) (T:List CV):Nat→List CV
 |0=>T
 |j+1=>put (tst l v T j) (QI l j).dst (v j)
def ordered (l:List IOper) (es:List (List Nat)):Bool:=
 (Gi l.length).all fun j=>(es.getD j []).all (fun e=>e < j) && (Gi l.length).all fun i=>i == j || match (QI l i).dst with
  |none=>true
  |some s=>!((QI l j).dst == some s) && (!((QI l j).rd.contains s) || (es.getD j []).contains i || (es.getD i []).contains j)
structure Ordered (l:List IOper) (es:List (List Nat)):Prop where
 lt:∀ j,j < l.length→∀ e∈es.getD j [],e < j
 uniq:∀ i j s,i < l.length→j < l.length→(QI l i).dst=some s→(QI l j).dst=some s→i=j
 ord:∀ i j s,i < l.length→j < l.length→i≠j→(QI l i).dst=some s→s∈(QI l j).rd→i∈es.getD j []∨j∈es.getD i []
theorem JbU {l:List IOper}{es:List (List Nat)}(h:ordered l es=true):Ordered l es:=by
 simp only[ordered,GG,Gx,Ga,decide_eq_true_eq]at h
 refine ⟨fun j hj=>(h j hj).1,fun i j s hi hj h1 h2=>?_,fun i j s hi hj hne h1 h2=>?_⟩
 ·have:=(h j hj).2 i hi
  rw[h1]at this
  by_cases he:i=j
  ·exact he
  ·simp[he,h2]at this
 ·have:=(h j hj).2 i hi
  rw[h1]at this
  simp only[Gz,beq_iff_eq,hne,false_or,Ga,GQ,GY]at this
  rcases this.2 with (h3 | h3) | h3
  ·have:=GQ.2 h2
   rw[this]at h3; cases h3
  ·exact .inl h3
  ·exact .inr h3
theorem JeZ {T:List CV}{d:Option Nat}{v:CV}:(put T d v).length=T.length:=by cases d <;> simp[put]
theorem Yw {l:List IOper}{v:Nat→CV}{T:List CV}:∀ j,(tst l v T j).length=T.length
 |0=>rfl
 |j+1=>by rw[tst,JeZ,Yw j]
theorem Jc4 {T:List CV}{d:Option Nat}{v:CV}{s:Nat}:(put T d v).getD s .un=if d=some s∧s < T.length then v else T.getD s .un:=by
 cases d with
 |none=>simp[put]
 |some d=>
  simp only[put,Gc,Gw,GV]
  by_cases h:d=s
  ·subst h
   by_cases hl:d < T.length <;> simp[hl]
  ·simp[h]
theorem Jaj {l:List IOper}{v:Nat→CV}{T:List CV}{s:Nat}:∀ j,(∀ i,i < j→(QI l i).dst≠some s)→(tst l v T j).getD s .un=T.getD s .un
 |0,_=>rfl
 |j+1,h=>by
  rw[tst,Jc4,if_neg (fun hh=>h j (GN j) hh.1)]
  exact Jaj j fun i hi=>h i (Hl hi)
theorem tst_at {l:List IOper}{v:Nat→CV}{T:List CV}{s i:Nat}(hd:(QI l i).dst=some s) (hs:s < T.length):∀ j,i < j→(∀ i',i' < j→(QI l i').dst=some s→i'=i)→(tst l v T j).getD s .un=v i
 |0,h,_=>by omega
 |j+1,h,hu=>by
  rw[tst,Jc4,Yw]
  by_cases hj:(QI l j).dst=some s
  ·have:=hu j (GN j) hj
   subst this
   rw[if_pos ⟨hj,hs⟩]
  ·rw[if_neg (fun hh=>hj hh.1)]
   have:i≠j:=fun e=>hj (e▸hd)
   exact tst_at hd hs j (by omega) fun i' hi'=>hu i' (Hl hi')
structure At (l:List IOper) (v:Nat→CV) (T:List CV) (S:Nat→Bool) (T':List CV):Prop where
 len:T'.length=T.length
 out:∀ s,(∀ i,i < l.length→S i=true→(QI l i).dst≠some s)→T'.getD s .un=T.getD s .un
 inn:∀ i s,i < l.length→S i=true→(QI l i).dst=some s→s < T.length→T'.getD s .un=v i
section
variable {P:Program}{E:Env}{n0:Nat}{N:Fr}{Q:Exit→List CV→List CObj→Prop}{H:List CObj}{T T':List CV}{k:List KItem}{l:List IOper}{es:List (List Nat)}{v:Nat→CV}
theorem At.agree (ho:Ordered l es) {S:Nat→Bool}(hA:At l v T S T') (hcl:∀ i,i < l.length→S i=true→∀ e∈es.getD i [],S e=true) {j:Nat}(hj:j < l.length) (hS:S j=false) (hr:∀ e∈es.getD j [],S e=true):agree (QI l j).rd (tst l v T j) T':=by
 intro s hs
 by_cases hlt:s < T.length
 ·by_cases hex:∃ i,i < l.length∧(QI l i).dst=some s
  ·obtain ⟨i,hi,hd⟩:=hex
   have hu:∀ i',i' < l.length→(QI l i').dst=some s→i'=i:=fun i' hi' hd'=>ho.uniq i' i s hi' hi hd' hd
   rcases Nat.lt_trichotomy i j with h | h | h
   ·have hin:i∈es.getD j []:=by
     rcases ho.ord i j s hi hj (by omega) hd hs with h1 | h1
     ·exact h1
     ·have:=ho.lt i hi j h1; omega
    rw[hA.inn i s hi (hr i hin) hd hlt]
    exact tst_at hd hlt j h fun i' hi' hd'=>hu i' (by omega) hd'
   ·subst h
    rw[hA.out s fun i' hi' hS' hd'=>by have:=hu i' hi' hd'; subst this; rw[hS]at hS'; cases hS']
    exact Jaj i fun i' hi' hd'=>by have:=hu i' (by omega) hd'; omega
   ·have hin:j∈es.getD i []:=by
     rcases ho.ord i j s hi hj (by omega) hd hs with h1 | h1
     ·have:=ho.lt j hj i h1; omega
     ·exact h1
    rw[hA.out s fun i' hi' hS' hd'=>by
     have:=hu i' hi' hd'; subst this
     have:=hcl i' hi' hS' j hin
     rw[hS]at this; cases this]
    exact Jaj j fun i' hi' hd'=>by have:=hu i' (by omega) hd'; omega
  ·rw[hA.out s fun i hi _ hd=>hex ⟨i,hi,hd⟩]
   exact Jaj j fun i hi hd=>hex ⟨i,by omega,hd⟩
 ·have e1:(tst l v T j).getD s .un=.un:=by
   rw[Gc,Gh (by rw[Yw]; omega)]; rfl
  have e2:T'.getD s .un=.un:=by
   rw[Gc,Gh (by rw[hA.len]; omega)]; rfl
  rw[e1,e2]
theorem At.step (ho:Ordered l es) {S:Nat→Bool}(hA:At l v T S T') {j:Nat}(hj:j < l.length) (hS:S j=false):At l v T (fun i=>S i || i == j) (put T' (QI l j).dst (v j)):=by
 refine ⟨by rw[JeZ,hA.len],fun s hs=>?_,fun i s hi hSi hd hlt=>?_⟩
 ·rw[Jc4,if_neg (fun hh=>hs j hj (by simp) hh.1)]
  exact hA.out s fun i hi hSi=>hs i hi (by simp[hSi])
 ·rw[Jc4,hA.len]
  by_cases hij:i=j
  ·subst hij; rw[if_pos ⟨hd,hlt⟩]
  ·rw[if_neg fun hh=>hij (ho.uniq i j s hi hj hd hh.1)]
   have:S i=true:=by simpa [hij]using hSi
   exact hA.inn i s hi this hd hlt
theorem At.all (ho:Ordered l es) {S:Nat→Bool}(hA:At l v T S T') (hS:∀ i,i < l.length→S i=true):T'=tst l v T l.length:=by
 apply GD
 intro s
 by_cases hlt:s < T.length
 ·have key:T'.getD s .un=(tst l v T l.length).getD s .un:=by
   by_cases hex:∃ i,i < l.length∧(QI l i).dst=some s
   ·obtain ⟨i,hi,hd⟩:=hex
    rw[hA.inn i s hi (hS i hi) hd hlt]
    exact (tst_at hd hlt _ hi fun i' hi' hd'=>ho.uniq i' i s hi' hi hd' hd).symm
   ·rw[hA.out s fun i hi _ hd=>hex ⟨i,hi,hd⟩]
    exact (Jaj _ fun i hi hd=>hex ⟨i,hi,hd⟩).symm
  have h1:s < T'.length:=by rw[hA.len]; exact hlt
  have h2:s < (tst l v T l.length).length:=by rw[Yw]; exact hlt
  rw[Gb h1,Gb h2]
  simpa [Gc,Gb h1,Gb h2]using key
 ·rw[Gh (by rw[hA.len]; omega),Gh (by rw[Yw]; omega)]
theorem any_order (ho:Ordered l es) (hv:∀ j,j < l.length→Val P E (QI l j) (tst l v T j) H (v j)) (hfin:Ok P E n0 N Q k (tst l v T l.length) H) {S:Nat→Bool}{is:List Nat}(h:Sched l.length es S is) :
  ∀ T',(∀ i,i < l.length→S i=true→∀ e∈es.getD i [],S e=true)→At l v T S T'→Ok P E n0 N Q (.ops (is.map (QI l))::k) T' H:=by
 induction h with
 |nil hn=>
  rename_i S
  intro T' hcl hA
  have hall:∀ i,i < l.length→S i=true:=by
   intro i
   induction i using GZ with
   |_ i ih=>
    intro hi
    cases hS:S i with
    |true=>rfl
    |false=>
     obtain ⟨e,he,hSe⟩:=hn i hi hS
     have hlt:=ho.lt i hi e he
     have:=ih e hlt (by omega)
     rw[this]at hSe; cases hSe
  rw[hA.all ho hall]
  exact Jct hfin
 |cons hi hS hr _ ih=>
  rename_i S i is hrest
  intro T' hcl hA
  refine Val.ok ((hv i hi).congr (hA.agree ho hcl hi hS hr)) (ih _ (fun j hj hSj e he=>?_) (hA.step ho hi hS))
  simp only[Gz,beq_iff_eq]at hSj ⊢
  rcases hSj with h | h
  ·exact .inl (hcl j hj h e he)
  ·subst h; exact .inl (hr e he)
theorem ok_dreg (hm : P.follows .mixedOrders = true) (hord : ordered l es = true) (hv : ∀ j, j < l.length → Val P E (QI l j) (tst l v T j) H (v j)) (hfin : Ok P E n0 N Q k (tst l v T l.length) H) : Ok P E n0 N Q (.code (.dreg l es) :: k) T H := by
  intro m w a b cs kr rest hp hd hk
  simp only [Yc] at hk
  obtain ⟨c', kr', rfl, hc, hk'⟩ := hk
  obtain ⟨id, ops, rfl, h1, rfl⟩ := Jga hc
  obtain ⟨hl, hg⟩ := Xj _ _ h1
  have hln : ops.size = l.length := by simpa using hl.symm
  have hsch := JfL ops ops.size (w.tape w.drawn (.order b.fn id)) (Gn ops.size false) (by simp) (by simp)
  have hst := stepR_region_draw (P := P) (b := b) (a := a) (k := kr' ++ rest) (cs := cs) (w := w) (ops := ops) (id := id)
  simp only [Region.schedule, hm, GM, if_true, Region.linearise] at hst
  generalize Region.linearise.go .any ops ops.size (w.tape w.drawn (.order b.fn id)) (Gn ops.size false) [] = is at hsch hst
  have hS0 : (fun i => (Gn ops.size false).getD i false) = fun _ => false := by
    funext i
    simp only [Gs, Hd]
    split <;> rfl
  rw [hS0, hln] at hsch
  have hlts : ∀ i ∈ is, i < l.length := by
    clear hst
    generalize (fun _ => false : Nat → Bool) = S at hsch
    induction hsch with
    | nil _ => intro i hi; cases hi
    | cons h _ _ _ ih => intro i hi; rcases Gm.1 hi with h' | h'
                         · subst h'; exact h
                         · exact ih i h'
  have hrun := any_order (n0 := n0) (N := N) (Q := Q) (k := k) (JbU hord) hv hfin hsch T (fun _ _ h => by cases h) ⟨rfl, fun _ _ => rfl, fun _ _ _ h => by cases h⟩
  have hs' : Sim E m H { w with drawn := w.drawn + 1 } := hp.sim.congr rfl
  have hx : Ext n0 m H w m H { w with drawn := w.drawn + 1 } := Ext.congr rfl ⟨rfl, rfl, rfl⟩
  refine Reach.step (.one hst) hx (hrun m _ a b cs (.inRegion ops is :: kr') rest ⟨hs', hp.tmps, hp.long⟩ (hd.ext hx) ?_)
  simp only [Yc]
  refine ⟨ops, is, kr', rfl, ⟨by simp, fun j i hj => ?_⟩, hk'⟩
  have hi := hlts i (Gl hj)
  obtain ⟨io, h2, h3⟩ := hg i (ops[i]'(by omega)) (by simp)
  exact ⟨ops[i]'(by omega), io, Gf (by omega), by simp [hj, QI, Gc, h2], h3⟩
end
end
section
def heapy:IOp→Bool
 |.bslice _ _ _ _=>true
 |.box _=>true
 |_=>false
def dexec (op:IOp) (T:List CV) (H:List CObj):Option (Cond×CV×List CObj):=if heapy op then none else exec op T H
section
variable (P:Program) (E:Env) (n0:Nat) (N:Fr) (Q:Exit→List CV→List CObj→Prop)
def vdr (k:List KItem):List IOper→List CV→List CObj→Prop
 |[],T,H=>Kn P E n0 N Q k T H
 |⟨d,op,none⟩::l,T,H=>match dexec op T H with
  |some (c,v,H')=>H'=H∧c.holds∧vdr k l (put T d v) H
  |none=>∃ v,Val P E ⟨d,op,none⟩ T H v∧vdr k l (put T d v) H
 |⟨d,op,some (s,want)⟩::l,T,H=>match T.getD s .un with
  |.bool t=>(t=want→match dexec op T H with
   |some (c,v,H')=>H'=H∧c.holds∧vdr k l (put T d v) H
   |none=>∃ v,Val P E ⟨d,op,some (s,want)⟩ T H v∧vdr k l (put T d v) H)∧(t=(!want)→vdr k l (put T d (.tup [])) H)
  |.tup []=>vdr k l (put T d (.tup [])) H
  |_=>False
def vdrC (k:List KItem) (io:IOper) (l:List IOper) (T:List CV) (H:List CObj):Prop:=∃ v,Val P E io T H v∧vdr P E n0 N Q k l (put T io.dst v) H
def vdrR (r:Option (Cond×CV×List CObj)) (d:Option Nat) (op:IOp) (g:Option (Nat×Bool)) (k:List KItem) (l:List IOper) (T:List CV) (H:List CObj):Prop:=
 match r with
 |some (c,v,H')=>H'=H∧c.holds∧vdr P E n0 N Q k l (put T d v) H
 |none=>vdrC P E n0 N Q k ⟨d,op,g⟩ l T H
end
section
variable {P:Program}{E:Env}{n0:Nat}{N:Fr}{Q:Exit→List CV→List CObj→Prop}{H H':List CObj}{T:List CV}{k:List KItem}{l:List IOper}{es:List (List Nat)}
theorem vd_nil:vdr P E n0 N Q k [] T H=Kn P E n0 N Q k T H:=propext Gj
theorem vd_op {d:Option Nat}{op:IOp}:vdr P E n0 N Q k (⟨d,op,none⟩::l) T H=vdrR P E n0 N Q (dexec op T H) d op none k l T H:=propext Gj
theorem vd_gop {d:Option Nat}{op:IOp}{s:Nat}{want:Bool}:vdr P E n0 N Q k (⟨d,op,some (s,want)⟩::l) T H=XP (T.getD s .un) want (vdrR P E n0 N Q (dexec op T H) d op (some (s,want)) k l T H) (vdr P E n0 N Q k l (put T d (.tup [])) H):=propext Gj
theorem vdrR_some {d:Option Nat}{op:IOp}{g:Option (Nat×Bool)}{c:Cond}{v:CV}:vdrR P E n0 N Q (some (c,v,H')) d op g k l T H=(H'=H∧c.holds∧vdr P E n0 N Q k l (put T d v) H):=propext Gj
theorem vdrR_none {d:Option Nat}{op:IOp}{g:Option (Nat×Bool)}:vdrR P E n0 N Q none d op g k l T H=vdrC P E n0 N Q k ⟨d,op,g⟩ l T H:=propext Gj
theorem vdr_look {T':List CV}{H':List CObj}(hT:T=T') (hH:H=H'):vdr P E n0 N Q k l T H=vdr P E n0 N Q k l T' H':=by rw[hT,hH]
theorem vdrR_look {r r':Option (Cond×CV×List CObj)}{d:Option Nat}{op:IOp}{g:Option (Nat×Bool)}(h:r=r'):vdrR P E n0 N Q r d op g k l T H=vdrR P E n0 N Q r' d op g k l T H:=by rw[h]
attribute [congr] vdr_look vdrR_look
theorem vdr_vals:∀ (l:List IOper) (T:List CV),vdr P E n0 N Q k l T H→∃ v:Nat→CV,(∀ j,j < l.length→Val P E (QI l j) (tst l v T j) H (v j))∧Kn P E n0 N Q k (tst l v T l.length) H
 |[],T,h=>⟨fun _=>.un,by simp,h⟩
 |io::l,T,h=>by
  have hex:∃ v0,Val P E io T H v0∧vdr P E n0 N Q k l (put T io.dst v0) H:=by
   obtain ⟨d,op,g⟩:=io
   have cs:∀ g,GOk T g→vdrR P E n0 N Q (dexec op T H) d op g k l T H→∃ v0,Val P E ⟨d,op,g⟩ T H v0∧vdr P E n0 N Q k l (put T d v0) H:=by
    intro g hg h
    unfold vdrR at h
    split at h
    ·rename_i c v H' he
     obtain ⟨rfl,hc,h⟩:=h
     have he2:exec op T H'=some (c,v,H'):=by
      unfold dexec at he
      split at he
      ·cases he
      ·exact he
     exact ⟨v,.inr ⟨hg,.inl ⟨c,he2,hc⟩⟩,h⟩
    ·exact h
   cases g with
   |none=>rw[vd_op]at h; exact cs none (.inl rfl) h
   |some g=>
    obtain ⟨s,want⟩:=g
    rw[vd_gop]at h
    unfold XP at h
    split at h
    ·rename_i t ht
     by_cases htw:t=want
     ·exact cs _ (.inr ⟨s,want,rfl,by rw[ht,htw]⟩) (h.1 htw)
     ·have e:t = !want:=by cases t <;> cases want <;> simp_all
      exact ⟨.tup [],.inl ⟨s,want,rfl,.inl (by rw[ht,e]),rfl⟩,h.2 e⟩
    ·rename_i ht
     exact ⟨.tup [],.inl ⟨s,want,rfl,.inr ht,rfl⟩,h⟩
    ·exact h.elim
  obtain ⟨v0,h1,h2⟩:=hex
  obtain ⟨v,h3,h4⟩:=vdr_vals l _ h2
  let v':Nat→CV:=fun j=>match j with | 0=>v0 | j+1=>v j
  have key:∀ j,tst (io::l) v' T (j+1)=tst l v (put T io.dst v0) j:=by
   intro j
   induction j with
   |zero=>rfl
   |succ j ih=>rw[tst,ih]; rfl
  refine ⟨v',fun j hj=>?_,?_⟩
  ·cases j with
   |zero=>exact h1
   |succ j=>rw[key]; exact h3 j (by simpa using hj)
  ·rw[GJ,key]; exact h4
theorem JQ (hm:P.follows .mixedOrders=true) (hord:ordered l es=true) (h:vdr P E n0 N Q k l T H):Ok P E n0 N Q (.code (.dreg l es)::k) T H:=by
 obtain ⟨v,h1,h2⟩:=vdr_vals l T h
 exact ok_dreg hm hord h1 (JB _ _ _ h2)
theorem J4 {d:Option Nat}{g:Option (Nat×Bool)}{f:Nat}{as:List IArg}{v:CV}(hg:GOk T g) (hcall:Fn P f (as.map (Kc T)) v) (h:vdr P E n0 N Q k l (put T d v) H):vdrC P E n0 N Q k ⟨d,.call f as,g⟩ l T H:=
 ⟨v,.inr ⟨hg,.inr (.inl ⟨f,as,rfl,hcall E H⟩)⟩,h⟩
end
attribute [go_sem] dexec heapy
attribute [go_sem] vd_nil vd_op vd_gop vdrR_some vdrR_none
end
section
structure Went (bs:Nat→Prop) (imm:Nat→Nat→Option Value) (w:World) (bs':Nat→Prop) (imm':Nat→Nat→Option Value) (w':World):Prop where
 size:w.heap.size≤w'.heap.size
 frame:∀ B,B < w.heap.size→¬ bs B→w'.heap[B]? = w.heap[B]?
 grow:Kl imm imm'
 newImm:∀ B i v,imm' B i=some v→imm B i=some v∨bs B∨w.heap.size≤B
 newBs:∀ B,bs' B→bs B∨w.heap.size≤B
 bslt:∀ B,bs' B→B < w'.heap.size
 valid:∀ B i v,imm' B i=some v→w'.cell? ⟨B,i,none⟩=some v
 one:∀ B i v,imm' B i=some v→v.oneCell'=true
 same:w'.os=w.os∧w'.output=w.output∧w'.tape=w.tape
def Jeo (P:Program) (E:Env) (l:Nat) (xs:List (List CV)):Prop:=
 ∀ s bs imm w x (vs:Array Value),E.X s true bs imm w→(∀ B i v,imm B i=some v→w.cell? ⟨B,i,none⟩=some v)→(∀ B i v,imm B i=some v→v.oneCell'=true)→(∀ B,bs B→B < w.heap.size)→xs[s]? = some x→JM [] imm x vs.toList→
  ∃ fn tmps assign body,(Instr.yield l vs).run P w=.ok (.round l fn tmps assign body) w∧
   RoundIn (WF none) 0 P l fn tmps assign body w fun e w'=>∃ b bs' imm',e=.returned (.bool b)∧E.X (s+1) b bs' imm' w'∧Went bs imm w bs' imm' w'
section
variable {P:Program}{E:Env}{n0:Nat}{N:Fr}{Q:Exit→List CV→List CObj→Prop}{H:List CObj}{T:List CV}{k:List KItem}{b:Frame}{cs:List Frame}{m:Bk}{w:World}
theorem Sim.went {bs':Nat→Prop}{imm':Nat→Nat→Option Value}{w':World}{i s s':Nat}{c c':Bool}(hs:Sim E m H w) (hH:H[i]? = some (.ext s c)) (hu:∀ k s b,H[k]? = some (.ext s b)→k=i) (hx:E.X s' c' bs' imm' w') (hw:Went m.ext m.imm w bs' imm' w') :
  Sim E { own:=m.own,imm:=imm',ext:=bs' } (H.set i (.ext s' c')) w'∧Ext n0 m H w { own:=m.own,imm:=imm',ext:=bs' } (H.set i (.ext s' c')) w':=by
 have hlt:i < H.length:=(Gg.1 hH).1
 have key:∀ (k:Nat) o,(H.set i (.ext s' c'))[k]? = some o→(k=i∧o=.ext s' c')∨(k≠i∧H[k]? = some o):=by
  intro k o hk
  rw[Gw]at hk
  split at hk
  ·rename_i e; subst e; simp[hlt]at hk; exact .inl ⟨rfl,hk.symm⟩
  ·rename_i e; exact .inr ⟨fun h=>e h.symm,hk⟩
 have alive:∀ (k:Nat) o,(H.set i (.ext s' c'))[k]? = some o→o.alive=true→H[k]? = some o:=by
  intro k o hk ha
  rcases key k o hk with ⟨_,rfl⟩ | ⟨_,h⟩
  ·cases ha
  ·exact h
 have notbs:∀ (k:Nat) o x,H[k]? = some o→o.alive=true→m.own[k]? = some x→¬ bs' x.B:=by
  intro k o x hk ha hx hb
  rcases hw.newBs _ hb with h | h
  ·exact hs.extsep k o x hk ha hx (.inl h)
  ·have:=YI hs hk ha hx; omega
 refine ⟨⟨by simp[hs.len],fun k o x hk hx=>?_,hw.valid,hw.one,fun k k' o o' x x' hk hk' ha ha' hx hx' hB=>hs.sep k k' o o' x x' (alive _ _ hk ha) (alive _ _ hk' ha') ha ha' hx hx' hB,fun k o x hk ha hx j hj=>?_,fun k t d hk=>?_,fun k o x hk ha hx h=>h.elim (notbs k o x (alive _ _ hk ha) ha hx) (fun h=>hs.extsep k o x (alive _ _ hk ha) ha hx (.inr h)),fun B hB=>hB.elim (hw.bslt B) (fun hB=>Gt (hs.gl.1.lt hB) hw.size),hs.gl.1.mono fun B hB=>hw.frame B (hs.gl.1.lt hB) (fun h=>hs.gl.2 B h hB),fun B hB h=>(hw.newBs B hB).elim (fun h1=>hs.gl.2 B h1 h) (fun h1=>by have:=hs.gl.1.lt h; omega)⟩,
  ⟨hw.size,fun B hB hn=>hw.frame B hB fun h=>hn (.inl h),hw.grow,fun B ho=>?_,fun B j v hv=>?_,fun _ _ _ h=>h,fun h=>h,hw.same⟩⟩
 ·rcases key k o hk with ⟨_,rfl⟩ | ⟨_,h⟩
  ·trivial
  ·by_cases ha:o.alive=true
   ·exact Ku (KH.refl _) hw.grow (fun _=>hw.frame _ (YI hs h ha hx) (fun hb=>hs.extsep k o x h ha hx (.inl hb))) (hs.obj k o x h hx)
   ·cases o <;> simp[CObj.alive]at ha <;> trivial
 ·cases hv:imm' x.B j with
  |none=>exact hv
  |some v=>
   have h:=alive _ _ hk ha
   rcases hw.newImm _ _ _ hv with h1 | h1 | h1
   ·rw[hs.ro k o x h ha hx j hj]at h1; cases h1
   ·exact absurd (.inl h1) (hs.extsep k o x h ha hx)
   ·have:=YI hs h ha hx; omega
 ·rcases key k _ hk with ⟨_,h⟩ | ⟨hne,h⟩
  ·cases h; exact hx
  ·exact absurd (hu _ _ _ h) hne
 ·rcases ho with h | ⟨k,o,x,hk,ha,hx,hB⟩
  ·rcases hw.newBs _ h with h1 | h1
   ·exact .inl (.inl h1)
   ·exact .inr h1
  ·exact .inl (.inr ⟨k,o,x,alive _ _ hk ha,ha,hx,hB⟩)
 ·rcases hw.newImm _ _ _ hv with h1 | h1 | h1
  ·exact .inl h1
  ·exact .inr (.inl (.inl h1))
  ·exact .inr (.inr h1)
theorem step_round {ops:Array Oper}{i:Nat}{is:List Nat}{o:Oper}{a:Act}{kr:List Item}{l fn:Nat}{tmps:Array Value}{assign body:Code}{R:Ending→World→Prop}(ho:ops[i]? = some o) (hw:Region.wanted o (yielded ops a.tmps)=true) (hsem:o.semAt b.roundOf a.eval=execOp a.eval o) (hrun:(execOp a.eval o).run P w=.ok (.round l fn tmps assign body) w)
  (hcall:RoundIn (WF none) 0 P l fn tmps assign body w R) (hR:∀ e w',R e w'→∃ r,e=.returned r):∃ r w',R (.returned r) w'∧Steps P (lone (b.atR a (.inRegion ops (i::is)::kr)) cs w) (lone (b.atR (a.put o.dst r) (.inRegion ops is::kr)) cs w'):=by
 have hg:=stepGR_op (P:=P) (b:=b) (k:=kr) (cs:=cs) (w:=w) (rest:=is) ho hw
 rw[hsem]at hg
 have hfin:∀ v,(b.atR a (.inRegion ops (i::is)::kr)).finish v=b.atR (a.put o.dst v) (.inRegion ops is::kr):=by
  intro v; rw[Frame.finish_atR,ho]; rfl
 obtain ⟨e,w'',hRe,hsteps⟩:=hcall.2 (b.atR a (.inRegion ops (i::is)::kr)) cs (Jdr _ _)
 have henter:Go.step P (lone (b.atR a (.inRegion ops (i::is)::kr)) cs w)=.next (lone (Frame.round l fn tmps assign body .normal) (b.atR a (.inRegion ops (i::is)::kr)::cs) w):=
  step_lone_go (by rw[hg]; simp[stepG.apply,hrun,Frame.atR])
 obtain ⟨r,rfl⟩:=hR e w'' hRe
 refine ⟨r,w'',hRe,.head henter ?_⟩
 rw[← hfin]; exact StepsIn.steps hsteps
theorem ok_yield {d:Option Nat}{g:Option (Nat×Bool)}{x:IArg}{l i s:Nat}{as:List IArg}{lst:List IOper}{xs:List (List CV)}(hg:GOk T g) (hx:Kc T x=.yld l) (hy:Jeo P E l xs) (hH:H[i]? = some (.ext s true)) (hu:∀ k s b,H[k]? = some (.ext s b)→k=i)
  (hxs:xs[s]? = some (as.map (Kc T))) (hcl:Jv (as.map (Kc T))=true) (h:∀ c,Ok P E n0 N Q (.ops lst::k) (put T d (.bool c)) (H.set i (.ext (s+1) c))):Ok P E n0 N Q (.ops (⟨d,.callv x as,g⟩::lst)::k) T H:=by
 intro m w a b cs kr rest hp hd hk
 obtain ⟨ops,j,is,kr',o,rfl,ho,hco,hk'⟩:=JaY hk
 obtain ⟨hw,hdst,hop⟩:=Jaf hco hg hp.tmps
 obtain ⟨cl,xo,ho2,hcal,hxo,has⟩:=Jfd hop
 have hr:=JF (a:=a) hp.tmps hxo
 rw[hx]at hr; simp only[rel]at hr
 obtain ⟨fn,tmps,assign,body,hrun,hround⟩:=hy s m.ext m.imm w _ (cl.args.map a.eval) (hp.sim.ext i s true hH) hp.sim.imm hp.sim.one (fun B hB=>hp.sim.extlt B (.inl hB)) hxs (KF _ _ hcl (by simpa using Ja9 hp.tmps has))
 have hrun':(execOp a.eval o).run P w=.ok (.round l fn tmps assign body) w:=by
  simp only[execOp,ho2,resolve,hcal,hr,Deferred.ofValue,Sem.run_bind,Sem.run_pure,Result.andThen_ok,invoke]
  simpa using hrun
 obtain ⟨r,w',⟨c,bs',imm',he,hX,hwent⟩,hsteps⟩:=step_round (b:=b) (cs:=cs) (is:=is) (kr:=kr'++rest) ho hw (semAt_plain hop) hrun' hround (fun e w' ⟨c,_,_,h,_⟩=>⟨_,h⟩)
 cases he
 rw[hdst]at hsteps
 obtain ⟨hsim,hext⟩:=Sim.went (n0:=n0) hp.sim hH hu hX hwent
 refine Reach.step hsteps hext (h c _ w' _ b cs (.inRegion ops is::kr') rest (Jcq hsim (KO (KH.refl _) hwent.grow _ _ hp.tmps) (by simpa using hp.long) (by simp[rel])) ?_ hk')
 rw[put_defers]; exact hd.ext hext
end
end
section
def pset:List CV→List Nat→List CV→List CV
 |T,p::ps,c::cs=>pset (T.set p c) ps cs
 |T,[],_=>T
 |T,_,[]=>T
theorem pset_rels {own:List Own}{imm:Nat→Nat→Option Value}:∀ (ps:List Nat) (cs:List CV) (vs:List Value) (T:List CV) (tmps:Array Value),JM own imm T tmps.toList→JM own imm cs vs→
  JM own imm (pset T ps cs) ((ps.zip vs).foldl (fun (t:Array Value) (p:Nat×Value)=>t.setIfInBounds p.1 p.2) tmps).toList
 |[],cs,vs,T,tmps,h,_=>by cases cs <;> simpa [pset]using h
 |p::ps,[],vs,T,tmps,h,hc=>by simp only[JM]at hc; subst hc; simpa [pset]using h
 |p::ps,c::cs,vs,T,tmps,h,hc=>by
  simp only[JM]at hc
  obtain ⟨r,rs,rfl,h1,h2⟩:=hc
  simp only[pset,List.zip_cons_cons,List.foldl_cons]
  refine pset_rels ps cs rs _ _ ?_ h2
  rw[Lc]
  exact rels_set h p h1
section
variable {P:Program}{E:Env}{n0:Nat}{N:Fr}{Q:Exit→List CV→List CObj→Prop}{H:List CObj}{T:List CV}{k:List KItem}{m:Bk}{w:World}
theorem Sim.grow (hs:Sim E m H w) {imm':Nat→Nat→Option Value}{w':World}(hf:∀ B,owned m H B∨B < gN→w'.heap[B]? = w.heap[B]?) (hsz:w.heap.size≤w'.heap.size) (hi:Kl m.imm imm') (hn:∀ B i v,imm' B i=some v→m.imm B i=some v∨¬ owned m H B)
  (hv:∀ B i v,imm' B i=some v→w'.cell? ⟨B,i,none⟩=some v) (h1:∀ B i v,imm' B i=some v→v.oneCell'=true):Sim E { own:=m.own,imm:=imm',ext:=m.ext } H w':=by
 refine ⟨hs.len,fun k o x hk hx=>?_,hv,h1,hs.sep,fun k o x hk ha hx i hxi=>?_,fun k s b hk=>?_,hs.extsep,fun B hB=>Gt (hs.extlt B hB) hsz,hs.gl.1.mono fun B hB=>hf B (.inr hB),hs.gl.2⟩
 ·by_cases ha:o.alive=true
  ·exact Ku (KH.refl _) hi (fun _=>hf _ (.inl (.inr ⟨k,o,x,hk,ha,hx,rfl⟩))) (hs.obj k o x hk hx)
  ·cases o <;> simp[CObj.alive]at ha <;> trivial
 ·cases hv:imm' x.B i with
  |none=>exact hv
  |some v=>
   rcases hn _ _ _ hv with h | h
   ·rw[hs.ro k o x hk ha hx i hxi]at h; cases h
   ·exact absurd (.inr ⟨k,o,x,hk,ha,hx,rfl⟩) h
 ·exact E.stable _ _ _ _ _ _ _ (hs.ext k s b hk) (fun B hB=>hf B (hB.imp_left .inl)) hsz hi (fun B i v hv=>(hn B i v hv).imp_right fun h hb=>h (.inl hb)) hv h1
def OutX (P:Program) (E:Env) (n0:Nat) (N:Fr) (Q:Exit→List CV→List CObj→Prop) (k:List KItem) (T:List CV) (I:Nat→List CObj→Prop) (own0:List Own) (imm0:Nat→Nat→Option Value) (n1 L D:Nat) (rc:LoopState→Option Code→Loop) (s:Nat) (b:Bool) (bs:Nat→Prop) (imm:Nat→Nat→Option Value) (w:World):Prop:=
 ∃ (own:List Own) (ex:Nat→Prop) (Hs:List CObj),Sim E ⟨own,imm,ex⟩ Hs w∧(∀ B,owned ⟨own,imm,ex⟩ Hs B→bs B)∧bs L∧bs D∧¬ owned ⟨own,imm,ex⟩ Hs L∧¬ owned ⟨own,imm,ex⟩ Hs D∧w.heap[D]? = some (.deferred (some []))∧
  KH own0 own∧Kl imm0 imm∧n1≤Hs.length∧
  (b=true→I s Hs∧w.heap[L]? = some (.loop (rc .ready none)))∧(b=false→∃ c ic,JD P c=some ic∧Ok P E n0 N Q (.code ic::k) T Hs∧w.heap[L]? = some (.loop (rc .done (some c))))
def OutE (P:Program) (E:Env) (n0:Nat) (N:Fr) (Q:Exit→List CV→List CObj→Prop) (k:List KItem) (T:List CV) (I:Nat→List CObj→Prop) (own0:List Own) (imm0:Nat→Nat→Option Value) (n1 L D:Nat) (rc:LoopState→Option Code→Loop):Env where
 X:=OutX P E n0 N Q k T I own0 imm0 n1 L D rc
 stable:=by
  rintro s b bs imm imm' w w' ⟨own,ex,Hs,h1,h2,h3,h4,h5,h6,h7,h8,h9,h10,h11,h12⟩ hf hsz hi hn hv ho
  refine ⟨own,ex,Hs,h1.grow (fun B hB=>hf B (hB.imp_left (h2 B))) hsz hi (fun B i v hv=>(hn B i v hv).imp_right fun h hb=>h (h2 B hb)) hv ho,h2,h3,h4,h5,h6,(hf D (.inl h4)).trans h7,h8,h9.trans hi,h10,fun hb=>⟨(h11 hb).1,(hf L (.inl h3)).trans (h11 hb).2⟩,fun hb=>?_⟩
  obtain ⟨c,ic,a1,a2,a3⟩:=h12 hb
  exact ⟨c,ic,a1,a2,(hf L (.inl h3)).trans a3⟩
def Iter (P:Program) (g:Nat) (l1 l2:List CV) (xs:List (List CV)):Prop:=
 ∀ E l,Jeo P E l xs→CallsC P E g (l1 ++ .yld l::l2) [.ext 0 true] fun _ H'=>H'[0]? = some (.ext xs.length true)∨∃ s,H'[0]? = some (.ext s false)
def asgQ (K:List CV→List CObj→Prop):Exit→List CV→List CObj→Prop
 |.normal,T,H=>K T H
 |_,_,_=>False
def roundQ (P:Program) (E:Env) (n0:Nat) (N:Fr) (Q:Exit→List CV→List CObj→Prop) (k:List KItem) (T:List CV) (I:List CObj→Prop):Exit→List CV→List CObj→Prop
 |.normal,_,H=>I H
 |.ret,_,H=>Ok P E n0 N Q (.code .ret::k) T H
 |.exit id,_,H=>Ok P E n0 N Q (.code (.exit id)::k) T H
 |_,_,_=>False
theorem fenced_eq (ro:Option Nat):(Machine.fenced P (WF none))=Machine.fenced P (WF ro):=by
 funext mm
 exact propext ⟨fun _=>JaB P ro mm,fun _=>JaB P none mm⟩
theorem Jfe (l:Nat):(WF none).inRound l=WF (some l):=rfl
theorem round_ok {ps:List Nat}{x y:ICode}{ca cb:Code}{xs:List (List CV)}{I:Nat→List CObj→Prop}{own0:List Own}{imm0:Nat→Nat→Option Value}{tmps:Array Value}{fn L D:Nat}(hca:JD P ca=some x) (hcb:JD P cb=some y) (hn1:own0.length=H.length) (hT:JM own0 imm0 T tmps.toList)
  (hxs:∀ c∈xs,c.length=ps.length) (hround:∀ s Hs c,I s Hs→xs[s]? = some c→Ok P E H.length ⟨0,true⟩ (asgQ fun T2 H2=>Ok P E H.length ⟨0,true⟩ (roundQ P E n0 N Q k T (I (s+1))) [.code y] T2 H2) [.code x] (pset T ps c) Hs) :
  Jeo P (OutE P E n0 N Q k T I own0 imm0 H.length L D fun st pe=>{ state:=st,pending:=pe,fn,tmps,params:=ps.toArray,assign:=ca,body:=cb,defers:=D }) L xs:=by
 intro s bs imm w xv vs hX hval hone hbslt hx hr
 obtain ⟨own,ex,Hs,h1,h2,h3,h4,h5,h6,h7,h8,h9,h10,h11,_⟩:=hX
 obtain ⟨hI,hl⟩:=h11 rfl
 have hsize:vs.size=ps.length:=by
  have:=JG hr
  rw[hxs _ (Gl hx)]at this
  simpa using this.symm
 have hLD:L≠D:=by intro e; rw[e,h7]at hl; cases hl
 refine ⟨fn,_,ca,cb,run_yield hl (by simpa using hsize),roundIn_of_wpIn trivial ?_⟩
 intro b2 k2 cs2 hro2 _ _
 have hkr:Yc P [.code x] [.code ca]:=by simp only[Yc]; exact ⟨ca,[],rfl,hca,rfl⟩
 have hkr':Yc P [.code y] [.code cb]:=by simp only[Yc]; exact ⟨cb,[],rfl,hcb,rfl⟩
 have htm:=pset_rels ps xv vs.toList T tmps (KO h8 h9 _ _ hT) (KO (KH.nil _) (Kl.refl _) _ _ hr)
 obtain ⟨e,a1,w1,m1,T1,H1,hext1,hp1,hd1,hq1,harr1⟩:=hround s Hs xv hI hx ⟨own,imm,ex⟩ w { tmps:=(ps.toArray.zip vs).foldl (fun (t:Array Value) (p:Nat×Value)=>t.setIfInBounds p.1 p.2) tmps,defers:=[] } b2 cs2 [.code ca] k2
  ⟨h1,by
   have e1:(ps.toArray.zip vs).foldl (fun (t:Array Value) (p:Nat×Value)=>t.setIfInBounds p.1 p.2) tmps=(ps.zip vs.toList).foldl (fun (t:Array Value) (p:Nat×Value)=>t.setIfInBounds p.1 p.2) tmps:=by
    rw[← Array.foldl_toList]; simp
   rw[e1]; exact htm,h10⟩ (JcY.nil _ _ (fun h=>by cases h) _ _ _ (GA _)) hkr
 have hLs:L < w.heap.size:=hbslt L h3
 have hDs:D < w.heap.size:=hbslt D h4
 cases e with
 |normal=>
  simp only[asgQ]at hq1
  refine ⟨.normal,a1,w1,?_,by rw[Jfe,← fenced_eq]; exact harr1⟩
  have hl1:w1.heap[L]? = some _:=(hext1.frame L hLs h5).trans hl
  have hd1D:w1.heap[D]? = some _:=(hext1.frame D hDs h6).trans h7
  have hnL1:¬ owned m1 H1 L:=fun h=>(hext1.newOwn L h).elim h5 (fun h=>by omega)
  have hnD1:¬ owned m1 H1 D:=fun h=>(hext1.newOwn D h).elim h6 (fun h=>by omega)
  refine ⟨_,run_beginRound hl1 rfl,?_⟩
  intro b3 k3 cs3 hro3 _ _
  have hs2:=hp1.sim.putDef (ob:=.loop { state:=.busy,pending:=none,fn,tmps,params:=ps.toArray,assign:=ca,body:=cb,defers:=D }) hl1 (by intro c e f h; cases h) hnL1
  have hdef2:JcY ⟨0,true⟩ b3 m1 H1 (w1.putObj L (.loop { state:=.busy,pending:=none,fn,tmps,params:=ps.toArray,assign:=ca,body:=cb,defers:=D })) a1.defers:=by
   obtain ⟨_,_,Ds,e1,e2,e3⟩:=hd1
   refine ⟨fun h=>(by cases h),GA _,Ds,e1,e2,fun D' hD'=>?_⟩
   obtain ⟨f1,f2,f3⟩:=e3 D' hD'
   have hne:D'≠L:=by intro e; rw[e,hl1]at f2; cases f2
   exact ⟨f1,(World.putObj_heap_other hne).trans f2,f3⟩
  obtain ⟨e2,a2,w3,m2,T2,H2,hext2,hp2,hd2,hq2,harr2⟩:=hq1 m1 _ a1 b3 cs3 [.code cb] k3 ⟨hs2,hp1.tmps,hp1.long⟩ hdef2 hkr'
  refine ⟨e2,a2,w3,?_,by rw[Jfe,← fenced_eq]; exact harr2⟩
  have hL1s:L < w1.heap.size:=Gt hLs hext1.size
  have hsz2:(w1.putObj L (.loop { state:=.busy,pending:=none,fn,tmps,params:=ps.toArray,assign:=ca,body:=cb,defers:=D })).heap.size=w1.heap.size:=World.putObj_size
  have hl3:w3.heap[L]? = some (.loop { state:=.busy,pending:=none,fn,tmps,params:=ps.toArray,assign:=ca,body:=cb,defers:=D }):=(hext2.frame L (by rw[hsz2]; exact hL1s) hnL1).trans (World.putObj_heap_same hL1s)
  have hD3:w3.heap[D]? = some (.deferred (some [])):=(hext2.frame D (by rw[hsz2]; exact Gt hDs hext1.size) hnD1).trans ((World.putObj_heap_other (Ne.symm hLD)).trans hd1D)
  have hnL2:¬ owned m2 H2 L:=fun h=>(hext2.newOwn L h).elim hnL1 (fun h=>by omega)
  have hnD2:¬ owned m2 H2 D:=fun h=>by
   rcases hext2.newOwn D h with h | h
   ·exact hnD1 h
   ·have:=hext1.size; omega
  have fin:∀ (jump:Option Code),(jump=none→I (s+1) H2)→(∀ c,jump=some c→∃ ic,JD P c=some ic∧Ok P E n0 N Q (.code ic::k) T H2)→
    ∃ v w',(Instr.endRound L jump).run P w3=.ok v w'∧∃ b bs' imm',Ending.returned v=.returned (.bool b)∧OutX P E n0 N Q k T I own0 imm0 H.length L D (fun st pe=>{ state:=st,pending:=pe,fn,tmps,params:=ps.toArray,assign:=ca,body:=cb,defers:=D }) (s+1) b bs' imm' w'∧Went bs imm w bs' imm' w':=by
   intro jump hj1 hj2
   have hs4:=hp2.sim.putDef (ob:=.loop { state:=if jump.isNone then .ready else .done,pending:=jump,fn,tmps,params:=ps.toArray,assign:=ca,body:=cb,defers:=D }) hl3 (by intro c e f h; cases h) hnL2
   have hL3s:L < w3.heap.size:=(Gy.1 hl3).1
   have hsz3:w.heap.size≤w3.heap.size:=Gu hext1.size (by have:=hext2.size; omega)
   refine ⟨_,_,run_endRound jump hl3,jump.isNone,fun B=>bs B∨owned m2 H2 B,m2.imm,rfl,⟨m2.own,m2.ext,H2,hs4,fun B hB=>.inr hB,.inl h3,.inl h4,hnL2,hnD2,(World.putObj_heap_other (Ne.symm hLD)).trans hD3,fun k x hk=>?_,(h9.trans hext1.imm).trans hext2.imm,hp2.long,fun hb=>?_,fun hb=>?_⟩,⟨?_,fun B hB hnb=>?_,hext1.imm.trans hext2.imm,fun B i v hv=>?_,fun B hB=>?_,fun B hB=>?_,hs4.imm,hs4.one,?_⟩⟩
   ·have hlt:k < H.length:=by rw[← hn1]; exact (Gg.1 hk).1
    exact hext2.base k x hlt (hext1.base k x hlt (h8 k x hk))
   ·have:jump=none:=by cases jump with | none=>rfl | some c=>cases hb
    subst this
    exact ⟨hj1 rfl,World.putObj_heap_same hL3s⟩
   ·cases jump with
    |none=>cases hb
    |some c=>
     obtain ⟨ic,g1,g2⟩:=hj2 c rfl
     exact ⟨c,ic,g1,g2,World.putObj_heap_same hL3s⟩
   ·rw[World.putObj_size]; exact hsz3
   ·have hBL:B≠L:=fun e=>hnb (e▸h3)
    have hn0:¬ owned ⟨own,imm,ex⟩ Hs B:=fun h=>hnb (h2 B h)
    have hn1':¬ owned m1 H1 B:=fun h=>(hext1.newOwn B h).elim hn0 (fun h=>by omega)
    rw[World.putObj_heap_other hBL,hext2.frame B (by rw[hsz2]; exact Gt hB hext1.size) hn1',World.putObj_heap_other hBL,hext1.frame B hB hn0]
   ·rcases hext2.newImm B i v hv with h | h | h
    ·rcases hext1.newImm B i v h with h | h | h
     ·exact .inl h
     ·exact .inr (.inl (h2 B h))
     ·exact .inr (.inr h)
    ·rcases hext1.newOwn B h with h | h
     ·exact .inr (.inl (h2 B h))
     ·exact .inr (.inr h)
    ·exact .inr (.inr (by rw[hsz2]at h; exact Gu hext1.size h))
   ·rcases hB with h | h
    ·exact .inl h
    ·rcases hext2.newOwn B h with h | h
     ·rcases hext1.newOwn B h with h | h
      ·exact .inl (h2 B h)
      ·exact .inr h
     ·exact .inr (by rw[hsz2]at h; exact Gu hext1.size h)
   ·rw[World.putObj_size]
    rcases hB with h | h
    ·exact Gt (hbslt B h) hsz3
    ·exact owned_lt hp2.sim h
   ·obtain ⟨a1',b1',c1'⟩:=hext1.same
    obtain ⟨a2',b2',c2'⟩:=hext2.same
    exact ⟨a2'.trans a1',b2'.trans b1',c2'.trans c1'⟩
  cases e2 with
  |normal=>exact fin none (fun _=>hq2) (fun c h=>by cases h)
  |ret=>exact fin (some .ret) (fun h=>by cases h) (fun c h=>by cases h; exact ⟨.ret,by simp[JD],hq2⟩)
  |exit id=>exact fin (some (.exit id)) (fun h=>by cases h) (fun c h=>by cases h; exact ⟨.exit id,by simp[JD],hq2⟩)
  |goto l=>exact hq2.elim
  |panic ch=>exact hq2.elim
  |outgrown=>exact hq2.elim
 |ret=>exact hq1.elim
 |exit id=>exact hq1.elim
 |goto l=>exact hq1.elim
 |panic ch=>exact hq1.elim
 |outgrown=>exact hq1.elim
end
end
section
section
variable {P:Program}{E:Env}{n0:Nat}{N:Fr}{Q:Exit→List CV→List CObj→Prop}{H:List CObj}{T:List CV}{k:List KItem}
theorem ok_rfunc {f : IArg} {ps : List Nat} {x y : ICode} {g : Nat} {l1 l2 : List CV} {xs : List (List CV)} {fn : Func} (I : Nat → List CObj → Prop) (hrnd : N.rnd = false) (hf : Kc T f = .fn g l1 l2) (hc1 : Jv l1 = true) (hc2 : Jv l2 = true) (hfn : P.funcs[g]? = some fn) (hbd : fn.body.isSome = true) (hnm : fn.name ≠ "runtime.NumGoroutine")
    (hit : Iter P g l1 l2 xs) (hxs : ∀ c ∈ xs, c.length = ps.length) (h0 : I 0 H) (hround : ∀ s Hs c, I s Hs → xs[s]? = some c → Ok P E H.length ⟨0, true⟩ (asgQ fun T2 H2 => Ok P E H.length ⟨0, true⟩ (roundQ P E n0 N Q k T (I (s + 1))) [.code y] T2 H2) [.code x] (pset T ps c) Hs)
    (hdone : ∀ H', I xs.length H' → Ok P E n0 N Q k T H') : Ok P E n0 N Q (.code (.rfunc f ps x y) :: k) T H := by
  intro m w a b cs kr rest hp hd hk
  simp only [Yc] at hk
  obtain ⟨c', kr', rfl, hc, hk'⟩ := hk
  obtain ⟨g0, qs, ca, cb, rfl, hg0, hps, hca, hcb⟩ := inv_rfunc hc
  have hro : b.roundOf = none := hd.1 hrnd
  have hr := JF (a := a) hp.tmps hg0
  rw [hf] at hr; simp only [rel] at hr
  obtain ⟨vs1, vs2, hv, hr1, hr2⟩ := hr
  have hqs : qs = ps.toArray := by rw [← hps]
  generalize hD : w.heap.size = D at *
  generalize hrc : (fun (st : LoopState) (pe : Option Code) => ({ state := st, pending := pe, fn := b.fn, tmps := a.tmps, params := ps.toArray, assign := ca, body := cb, defers := D } : Loop)) = rc
  generalize hW1 : (w.alloc (.deferred (some []))).alloc (.loop (rc .ready none)) = W1
  have he : (Instr.enterLoop b.fn a.tmps qs ca cb b.roundOf).run P w = .ok (D + 1, [{ target := .collected D, args := #[] }]) W1 := by
    rw [hro, ← hW1, ← hrc, hqs, ← hD]; exact run_enterLoop_outer _ _ _ _ _
  have hsz1 : W1.heap.size = D + 2 := by rw [← hW1]; simp [hD]
  have hheap1 : ∀ B, B < D → W1.heap[B]? = w.heap[B]? := by
    intro B hB
    have e : W1.heap = (w.heap.push (.deferred (some []))).push (.loop (rc .ready none)) := by rw [← hW1]; rfl
    rw [e, GU, GU, if_neg (by simp [hD]; omega), if_neg (by omega)]
  have hD1 : W1.heap[D]? = some (.deferred (some [])) := by
    have e : W1.heap = (w.heap.push (.deferred (some []))).push (.loop (rc .ready none)) := by rw [← hW1]; rfl
    rw [e, GU, GU, if_neg (by simp [hD]), if_pos hD.symm]
  have hL1 : W1.heap[D + 1]? = some (.loop (rc .ready none)) := by
    rw [← hW1]
    have := World.alloc_heap_new (w.alloc (.deferred (some []))) (.loop (rc .ready none))
    rwa [World.size_alloc, hD] at this
  have hsame1 : W1.os = w.os ∧ W1.output = w.output ∧ W1.tape = w.tape := by rw [← hW1]; exact ⟨rfl, rfl, rfl⟩
  have hown : ∀ B, owned m H B → B < D := fun B h => by rw [← hD]; exact owned_lt hp.sim h
  have hgl : ∀ B, B < gN → B < D := fun B h => by rw [← hD]; exact hp.sim.gl.1.lt h
  have himm1 : ∀ B i v, m.imm B i = some v → W1.cell? ⟨B, i, none⟩ = some v := fun B i v hv => (cell?_congr (hheap1 B (by rw [← hD]; exact Jff hp.sim hv))).trans (hp.sim.imm B i v hv)
  have hs1 : Sim E m H W1 := hp.sim.grow (fun B h => hheap1 B (h.elim (hown B) (hgl B))) (by omega) (Kl.refl _) (fun B i v h => .inl h) himm1 hp.sim.one
  have hn1 : m.own.length = H.length := hp.sim.len
  have hy : Jeo P (OutE P E n0 N Q k T I m.own m.imm H.length (D + 1) D rc) (D + 1) xs := by
    rw [← hrc]; exact round_ok hca hcb hn1 hp.tmps hxs hround
  have hres : (resolve a.eval (rangeCall g0 (D + 1)) 0).run P W1 = .ok { target := .fn (.func g) vs2, args := vs1 ++ #[.func (.yield (D + 1)) #[] #[]] } W1 := by
    simp only [resolve, hv]
    simp [Deferred.ofValue, Act.eval]
  have hinv : (invoke (.fn (.func g) vs2) (vs1 ++ #[.func (.yield (D + 1)) #[] #[]])).run P W1 = .ok (.enter g (vs1 ++ #[.func (.yield (D + 1)) #[] #[]] ++ vs2)) W1 := by
    simp only [invoke]; exact Jao hfn hbd hnm
  have henter := stepR_rangeFunc (P := P) (b := b) (a := a) (k := kr' ++ rest) (cs := cs) (w := w) he hres hinv
  let bs0 : Nat → Prop := fun B => owned m H B ∨ B = D + 1 ∨ B = D
  have hX0 : OutX P E n0 N Q k T I m.own m.imm H.length (D + 1) D rc 0 true bs0 m.imm W1 :=
    ⟨m.own, m.ext, H, hs1, fun B h => .inl h, .inr (.inl rfl), .inr (.inr rfl), fun h => by have := hown _ h; omega, fun h => by have := hown _ h; omega, hD1, KH.refl _, Kl.refl _, Gd _, fun _ => ⟨h0, hL1⟩, fun h => by cases h⟩
  have hsim0 : Sim (OutE P E n0 N Q k T I m.own m.imm H.length (D + 1) D rc) { own := [⟨0, 0, 0, 0⟩], imm := m.imm, ext := bs0 } [.ext 0 true] W1 := by
    refine ⟨rfl, fun k o x hk hx => ?_, himm1, hp.sim.one, fun k k' o o' x x' hk hk' ha => ?_, fun k o x hk ha => ?_, fun k s b hk => ?_, fun k o x hk ha => ?_, fun B hB => ?_, hs1.gl.1, fun B hB h => ?_⟩
    · cases k with
      | zero => simp at hk; subst hk; trivial
      | succ k => simp at hk
    · cases k with
      | zero => simp at hk; subst hk; cases ha
      | succ k => simp at hk
    · cases k with
      | zero => simp at hk; subst hk; cases ha
      | succ k => simp at hk
    · cases k with
      | zero => simp at hk; obtain ⟨rfl, rfl⟩ := hk; exact hX0
      | succ k => simp at hk
    · cases k with
      | zero => simp at hk; subst hk; cases ha
      | succ k => simp at hk
    · rcases hB with (h | h | h) | h
      · have := hown _ h; omega
      · omega
      · omega
      · have := hgl _ h; omega
    · rcases hB with hb | hb | hb
      · exact owned_gl hp.sim hb h
      · have := hgl _ h; omega
      · have := hgl _ h; omega
  have hvs : JM [⟨0, 0, 0, 0⟩] m.imm (l1 ++ .yld (D + 1) :: l2) (vs1 ++ #[Value.func (Fn.yield (D + 1)) #[] #[]] ++ vs2).toList := by
    simp only [Array.toList_append, HZ]
    refine QB (KF _ _ hc1 hr1) ?_
    simp only [JM, rel, H6, H8]
    exact ⟨_, _, rfl, rfl, KF _ _ hc2 hr2⟩
  obtain ⟨e, w3, fr, ⟨r, m', v, H', rfl, hext, hs3, _, hR⟩, hsteps, _, hleave⟩ := (hit _ _ hy _ W1 _ hsim0 hvs).2 (b.atR { a with defers := [{ target := .collected D, args := #[] }] ++ a.defers } (.inRangeFunc (D + 1) :: (kr' ++ rest)) :: cs) (Jdr _ _)
  have hno : ∀ B, owned { own := [⟨0, 0, 0, 0⟩], imm := m.imm, ext := bs0 } [.ext 0 true] B → bs0 B := by
    rintro B (h | ⟨k, o, x, hk, ha, _⟩)
    · exact h
    · cases k with
      | zero => simp at hk; subst hk; cases ha
      | succ k => simp at hk
  have fin : ∀ (s : Nat) (c : Bool), H'[0]? = some (.ext s c) → (c = true → s = xs.length) → Reach P E n0 N Q b rest cs m H w (lone (b.atR a (.code (.rangeFunc g0 qs ca cb) :: (kr' ++ rest))) cs w) := by
    intro s c hc0 hcs
    obtain ⟨own, ex, Hs, g1, g2, g3, g4, g5, g6, g7, g8, g9, g10, g11, g12⟩ := hs3.ext 0 s c hc0
    have go : ∀ (st : LoopState) (pe : Option Code) (kk : List KItem) (krr : List Item), st ≠ .busy → w3.heap[D + 1]? = some (.loop (rc st pe)) → Ok P E n0 N Q kk T Hs → Yc P kk krr → krr ++ rest = (pe.map Item.code).toList ++ (kr' ++ rest) →
        Reach P E n0 N Q b rest cs m H w (lone (b.atR a (.code (.rangeFunc g0 qs ca cb) :: (kr' ++ rest))) cs w) := by
      intro st pe kk krr hst hl hok hkk hkr
      have hrs : (rc st pe).state = st := by rw [← hrc]
      have hrp : (rc st pe).pending = pe := by rw [← hrc]
      have hend : (Instr.endLoop (D + 1)).run P w3 = .ok pe (w3.putObj (D + 1) (.loop { rc st pe with state := .exhausted })) := by
        have h := run_endLoop (P := P) hl (by rw [hrs]; exact hst)
        rw [h]
        simp only [hrp]
      have hback := stepR_endRangeFunc (P := P) (b := b) (a := { a with defers := [{ target := .collected D, args := #[] }] ++ a.defers }) (k := kr' ++ rest) (cs := cs) hend
      have hs4 := g1.putDef (ob := .loop { rc st pe with state := .exhausted }) hl (by intro c e f h; cases h) g5
      have hsize := hext.size
      have hext4 : Ext n0 m H w ⟨own, m'.imm, ex⟩ Hs (w3.putObj (D + 1) (.loop { rc st pe with state := .exhausted })) := by
        refine ⟨by rw [World.putObj_size]; omega, fun B hB hnb => ?_, hext.imm, fun B hB => ?_, fun B i v hv => ?_, fun k x hk hx => g8 k x hx, fun _ => ?_, ?_⟩
        · have hBD : B < D := by omega
          rw [World.putObj_heap_other (by omega), hext.frame B (by omega) (fun h => by rcases hno B h with h | h | h; · exact hnb h
                                                                                       · omega
                                                                                       · omega), hheap1 B hBD]
        · rcases hext.newOwn B (.inl (g2 B hB)) with h | h
          · rcases hno B h with h | h | h
            · exact .inl h
            · exact .inr (by omega)
            · exact .inr (by omega)
          · exact .inr (by omega)
        · rcases hext.newImm B i v hv with h | h | h
          · exact .inl h
          · rcases hno B h with h | h | h
            · exact .inr (.inl h)
            · exact .inr (.inr (by omega))
            · exact .inr (.inr (by omega))
          · exact .inr (.inr (by omega))
        · exact Gu hp.long (Gu g10 (Nat.le_of_eq g1.len.symm))
        · obtain ⟨s1, s2, s3⟩ := hsame1
          obtain ⟨t1, t2, t3⟩ := hext.same
          exact ⟨t1.trans s1, t2.trans s2, t3.trans s3⟩
      have hT4 : JM own m'.imm T a.tmps.toList := KO g8 hext.imm _ _ hp.tmps
      have hlen4 : n0 ≤ Hs.length := Gu hp.long g10
      have hd4 : JcY N b ⟨own, m'.imm, ex⟩ Hs (w3.putObj (D + 1) (.loop { rc st pe with state := .exhausted })) ([{ target := .collected D, args := #[] }] ++ a.defers) := by
        obtain ⟨q1, q2, Ds, q3, q4, q5⟩ := hd
        have hlt : ∀ D' ∈ Ds, D' < D := fun D' h => by rw [← hD]; exact (Gy.1 (q5 D' h).2.1).1
        refine ⟨q1, Gu q2 hext4.size, D :: Ds, by rw [q3]; rfl, List.nodup_cons.2 ⟨fun h => Nat.lt_irrefl _ (hlt D h), q4⟩, fun D' hD' => ?_⟩
        rcases Gm.1 hD' with rfl | h
        · exact ⟨by omega, (World.putObj_heap_other (by omega)).trans g7, g6⟩
        · obtain ⟨r1, r2, r3⟩ := q5 D' h
          have := hlt D' h
          exact ⟨r1, (hext4.frame D' (by omega) r3).trans r2, fun ho => (hext4.newOwn D' ho).elim r3 (fun h => by omega)⟩
      refine Reach.step (.head henter (Steps.trans (StepsIn.steps hsteps) (.head (step_leave_returned hleave) ?_))) hext4 (hok ⟨own, m'.imm, ex⟩ _ { a with defers := [{ target := .collected D, args := #[] }] ++ a.defers } b cs krr rest ⟨hs4, hT4, hlen4⟩ hd4 hkk)
      rw [finish_atR_inRangeFunc, hkr]
      exact .one hback
    cases c with
    | true =>
      obtain ⟨hI, hl⟩ := g11 rfl
      exact go .ready none k kr' (by simp) hl (hdone Hs (hcs rfl ▸ hI)) hk' (by simp)
    | false =>
      obtain ⟨c, ic, q1, q2, q3⟩ := g12 rfl
      exact go .done (some c) (.code ic :: k) (.code c :: kr') (by simp) q3 q2 (by simp only [Yc]; exact ⟨c, kr', rfl, q1, hk'⟩) (by simp)
  rcases hR with h | ⟨s, h⟩
  · exact fin _ _ h fun _ => rfl
  · exact fin _ _ h fun h => by cases h
end
end
section
section
variable {P:Program}{E:Env}{n0:Nat}{N:Fr}{Q:Exit→List CV→List CObj→Prop}{H:List CObj}{T:List CV}{k:List KItem}
theorem vr_yield {d:Option Nat}{g:Option (Nat×Bool)}{x:IArg}{l i s:Nat}{as:List IArg}{lst:List IOper}{xs:List (List CV)}(hg:GOk T g) (hx:Kc T x=.yld l) (hy:Jeo P E l xs) (hH:H[i]? = some (.ext s true)) (hu:∀ k s b,H[k]? = some (.ext s b)→k=i)
  (hxs:xs[s]? = some (as.map (Kc T))) (hcl:Jv (as.map (Kc T))=true) (h:∀ c,Kn P E n0 N Q (.ops lst::k) (put T d (.bool c)) (H.set i (.ext (s+1) c))):Ok P E n0 N Q (.ops (⟨d,.callv x as,g⟩::lst)::k) T H:=
 ok_yield hg hx hy hH hu hxs hcl fun c=>JB _ _ _ (h c)
def Jde (P:Program) (E:Env) (n0:Nat) (N:Fr) (Q:Exit→List CV→List CObj→Prop) (k:List KItem) (T:List CV) (I:List CObj→Prop) (e:Exit) (_:List CV) (H:List CObj):Prop:=
 match e with
 |.normal=>I H
 |.ret=>Q .ret T H
 |.exit id=>Jcf P E n0 N Q (XN id k) id T H
 |_=>False
theorem Jes {T':List CV}{I:List CObj→Prop}:Jde P E n0 N Q k T I .normal T' H=I H:=rfl
theorem vroundQ_ret {T':List CV}{I:List CObj→Prop}:Jde P E n0 N Q k T I .ret T' H=Q .ret T H:=rfl
theorem vroundQ_exit {T':List CV}{I:List CObj→Prop}{id:Nat}:Jde P E n0 N Q k T I (.exit id) T' H=Jcf P E n0 N Q (XN id k) id T H:=rfl
theorem asgQ_normal {K:List CV→List CObj→Prop}:asgQ K .normal T H=K T H:=rfl
theorem fn_of_row {f:Nat}{args:List CV}{z:Nat}{els:List (List CV)}(h:CallsC P Env.none f args [] fun v H'=>(els=[]∧v=.nils)∨∃ id,H'[id]? = some (.arr z els)∧∃ cap,v=.slc id 0 els.length cap) (ha:Jv args=true) (hc:Jw els=true):Fn P f args (.rslc z els none):=by
 refine fn_of ?_ ha rfl
 intro m w vs hs hv
 refine (h m w vs hs hv).mono ?_
 rintro e w' ⟨r,m',v,H',h1,h2,h3,h4,⟨rfl,rfl⟩ | ⟨id,g1,cap,rfl⟩⟩
 ·exact ⟨r,m',_,H',h1,h2,h3,wk.nils _ _ _ h4,rfl⟩
 ·obtain ⟨imm',hs',he,hf⟩:=Sim.freeze (n0:=([]:List CObj).length) h3 g1 hc
  refine ⟨r,_,_,_,h1,h2.trans he,hs',hf _ _ h4,?_⟩
  simp[frz]
theorem getElem?_app_len {g l:List CObj}:(g++l)[g.length]? = l[0]?:=by rw[Gq (Gd _)]; simp
theorem getElem?_app_add {g l:List CObj}{n:Nat}:(g++l)[g.length+n]? = l[n]?:=by rw[Gq (Hm _ _)]; congr 1; omega
theorem set_app_len {g l:List CObj}{x:CObj}:(g++l).set g.length x=g++l.set 0 x:=by rw[Ht _ _ (Gd _)]; simp
theorem set_app_add {g l:List CObj}{n:Nat}{x:CObj}:(g++l).set (g.length+n) x=g++l.set n x:=by rw[Ht _ _ (Hm _ _)]; congr 2; omega
theorem vr_fv {d:Option Nat}{g:Option (Nat×Bool)}{x:IArg}{f:Nat}{l1 l2:List CV}{as:List IArg}{l:List IOper}{v:CV}{F:IFunc}(hg:GOk T g) (hx:Kc T x=.fn f l1 l2) (hF:Jg P f=some F) (hnm:(P.funcs[f]?.map (·.name))≠some "runtime.NumGoroutine")
  (hcall:Fn P f (l1++as.map (Kc T)++l2) v) (h:Kn P E n0 N Q (.ops l::k) (put T d v) H):Ok P E n0 N Q (.ops (⟨d,.callv x as,g⟩::l)::k) T H:=by
 have hfn:∃ fn,P.funcs[f]? = some fn∧fn.body.isSome=true:=by
  unfold Jg at hF
  split at hF
  ·rename_i fn hfn
   split at hF
   ·rename_i c hb
    exact ⟨fn,hfn,by rw[hb]; rfl⟩
   ·cases hF
  ·cases hF
 obtain ⟨fn,hfn,hbd⟩:=hfn
 exact ok_callv hg hx hfn hbd (fun e=>hnm (by rw[hfn,← e]; rfl)) (hcall E H) fun v' H' ⟨h1,h2⟩=>by rw[h1,h2]; exact JB _ _ _ h
theorem Je {id z:Nat}{els:List (List CV)}(hH:H[id]? = some (.arr z els)) (hc:Jw els=true) (h:Kn P E n0 N Q k (JS id z els T) (Ki id z els H)):Ok P E n0 N Q k T H:=
 ok_freeze hH hc (JB _ _ _ h)
end
attribute [go_sem] getElem?_app_len getElem?_app_add set_app_len set_app_add HZ List.length_append Jes vroundQ_ret vroundQ_exit asgQ_normal pset
end
section
def Jl (id:Nat):List Nat→Nat→Option Nat
 |[],_=>none
 |k::ρ,i=>if k=id then some i else Jl id ρ (i+1)
mutual
def ren (ρ:List Nat):CV→CV
 |.slc j off len cap=>match Jl j ρ 0 with | some j'=>.slc j' off len cap | none=>.un
 |.ptr j i off=>match Jl j ρ 0 with | some j'=>.ptr j' i off | none=>.un
 |.map j=>match Jl j ρ 0 with | some j'=>.map j' | none=>.un
 |.fn f l1 l2=>.fn f (JA ρ l1) (JA ρ l2)
 |.iface t c=>.iface t (ren ρ c)
 |.agg l=>.agg (JA ρ l)
 |.tup l=>.tup (JA ρ l)
 |c=>c
def JA (ρ:List Nat):List CV→List CV
 |[]=>[]
 |c::cs=>ren ρ c::JA ρ cs
end
theorem JeW {id:Nat}:∀ (ρ:List Nat) (i j:Nat),Jl id ρ i=some j→i≤j∧ρ[j-i]? = some id
 |[],_,_,h=>by simp[Jl]at h
 |k::ρ,i,j,h=>by
  simp only[Jl]at h
  split at h
  ·rename_i hk
   cases h; simp[hk]
  ·obtain ⟨h1,h2⟩:=JeW ρ (i+1) j h
   refine ⟨by omega,?_⟩
   rw[show j-i=(j-(i+1))+1 by omega]
   simpa using h2
theorem Jcn {id j:Nat}{ρ:List Nat}(h:Jl id ρ 0=some j):ρ[j]? = some id:=by
 simpa using (JeW ρ 0 j h).2
mutual
theorem ren_rel {own own':List Own}{imm:Nat→Nat→Option Value}{ρ:List Nat}(ho:∀ (j:Nat) id,ρ[j]? = some id→own'[j]? = own[id]?):∀ (c:CV) (v:Value),rel own imm c v→rel own' imm (ren ρ c) v
 |.un,_,_=>by simp only[ren,rel]
 |.bool _,_,h=>by simp only[ren,rel]at h ⊢; exact h
 |.int _ _,_,h=>by simp only[ren,rel]at h ⊢; exact h
 |.str _,_,h=>by simp only[ren,rel]at h ⊢; exact h
 |.nilp,_,h=>by simp only[ren,rel]at h ⊢; exact h
 |.ptr j i off,v,h=>by
  simp only[ren]
  split
  ·rename_i j' hj
   simp only[rel]at h ⊢
   obtain ⟨x,hx,e⟩:=h
   exact ⟨x,(ho j' j (Jcn hj)).trans hx,e⟩
  ·simp only[rel]
 |.rptr cs,v,h=>by simp only[ren,rel]at h ⊢; exact h
 |.nils,_,h=>by simp only[ren,rel]at h ⊢; exact h
 |.slc j off len cap,v,h=>by
  simp only[ren]
  split
  ·rename_i j' hj
   simp only[rel]at h ⊢
   obtain ⟨x,a,c,hx,e⟩:=h
   exact ⟨x,a,c,(ho j' j (Jcn hj)).trans hx,e⟩
  ·simp only[rel]
 |.rslc z' e cap,v,h=>by simp only[ren,rel]at h ⊢; exact h
 |.nilm,_,h=>by simp only[ren,rel]at h ⊢; exact h
 |.map j,v,h=>by
  simp only[ren]
  split
  ·rename_i j' hj
   simp only[rel]at h ⊢
   obtain ⟨x,hx,e⟩:=h
   exact ⟨x,(ho j' j (Jcn hj)).trans hx,e⟩
  ·simp only[rel]
 |.fn f l1 l2,_,h=>by
  simp only[ren,rel]at h ⊢
  obtain ⟨vs1,vs2,e,h1,h2⟩:=h
  exact ⟨vs1,vs2,e,JaU ho l1 _ h1,JaU ho l2 _ h2⟩
 |.yld _,_,h=>by simp only[ren,rel]at h ⊢; exact h
 |.nilf,_,h=>by simp only[ren,rel]at h ⊢; exact h
 |.iface _ c,_,h=>by
  simp only[ren,rel]at h ⊢
  obtain ⟨r,e,h1⟩:=h
  exact ⟨r,e,ren_rel ho c _ h1⟩
 |.nili,_,h=>by simp only[ren,rel]at h ⊢; exact h
 |.agg l,_,h=>by
  simp only[ren,rel]at h ⊢
  obtain ⟨vs,e,h1⟩:=h
  exact ⟨vs,e,JaU ho l _ h1⟩
 |.tup l,_,h=>by
  simp only[ren,rel]at h ⊢
  obtain ⟨vs,e,h1⟩:=h
  exact ⟨vs,e,JaU ho l _ h1⟩
theorem JaU {own own':List Own}{imm:Nat→Nat→Option Value}{ρ:List Nat}(ho:∀ (j:Nat) id,ρ[j]? = some id→own'[j]? = own[id]?):∀ (l:List CV) (vs:List Value),JM own imm l vs→JM own' imm (JA ρ l) vs
 |[],vs,h=>by simp only[JA,JM]at h ⊢; exact h
 |c::cs,vs,h=>by
  simp only[JA,JM]at h ⊢
  obtain ⟨r,rs,e,h1,h2⟩:=h
  exact ⟨r,rs,e,ren_rel ho c _ h1,JaU ho cs _ h2⟩
end
def Jcd (ρ:List Nat):CObj→CObj
 |.arr z e=>.arr z (e.map (JA ρ))
 |.map kvs=>.map (kvs.map fun p=>(ren ρ p.1,ren ρ p.2))
 |o=>o
def Ke (ρ:List Nat) (H:List CObj):List CObj:=ρ.map fun id=>Jcd ρ (H.getD id .dead)
structure RenOk (ρ:List Nat) (n0:Nat) (H:List CObj):Prop where
 nodup:ρ.Nodup
 lt:∀ id∈ρ,id < H.length
 base:∀ k,k < n0→ρ[k]? = some k
theorem Jdt {ρ:List Nat}:∀ (l:List CV),(JA ρ l).length=l.length
 |[]=>rfl
 |_::cs=>by simp[JA,Jdt cs]
theorem renL_get {ρ:List Nat}:∀ (l:List CV) (i:Nat),(JA ρ l)[i]? = (l[i]?).map (ren ρ)
 |[],_=>by simp[JA]
 |c::cs,0=>by simp[JA]
 |c::cs,i+1=>by simp[JA,renL_get cs i]
theorem JaV {ρ:List Nat}(o:CObj):(Jcd ρ o).alive=o.alive:=by cases o <;> rfl
theorem renH_get {ρ:List Nat}{H:List CObj}{k:Nat}{o:CObj}(hl:∀ id∈ρ,id < H.length) (h:(Ke ρ H)[k]? = some o):∃ id o0,ρ[k]? = some id∧H[id]? = some o0∧o=Jcd ρ o0:=by
 simp only[Ke,Gr]at h
 cases hk:ρ[k]? with
 |none=>simp[hk]at h
 |some id=>
  have hlt:=hl id (Gl hk)
  simp[hk,Gc,Gb hlt]at h
  exact ⟨id,H[id],rfl,Gb hlt,h.symm⟩
theorem relO_ren {own own':List Own}{imm:Nat→Nat→Option Value}{ρ:List Nat}{zz o:Nat}{es:List (List CV)}{R:Nat→Option Value}(hf:∀ c v,rel own imm c v→rel own' imm (ren ρ c) v) (h:relO own imm zz es R o):relO own' imm zz (es.map (JA ρ)) R o:=by
 intro j e he
 rw[Gr]at he
 cases hes:es[j]? with
 |none=>simp[hes]at he
 |some e0=>
  simp[hes]at he; subst he
  obtain ⟨h1,h2⟩:=h j e0 hes
  refine ⟨by rw[Jdt]; exact h1,fun t c hc=>?_⟩
  rw[renL_get]at hc
  cases ht:e0[t]? with
  |none=>simp[ht]at hc
  |some c0=>
   simp[ht]at hc; subst hc
   obtain ⟨r,h3,h4⟩:=h2 t c0 ht
   exact ⟨r,h3,hf _ _ h4⟩
section
variable {E:Env}{n0:Nat}{m:Bk}{H:List CObj}{w:World}
theorem Sim.ren {ρ:List Nat}(hs:Sim E m H w) (hr:RenOk ρ n0 H) (hn:n0≤H.length) :
  ∃ own',Sim E { m with own:=own' } (Ke ρ H) w∧Ext n0 m H w { m with own:=own' } (Ke ρ H) w∧(∀ c v,rel m.own m.imm c v→rel own' m.imm (ren ρ c) v)∧∀ l vs,JM m.own m.imm l vs→JM own' m.imm (JA ρ l) vs:=by
 let own':List Own:=ρ.map fun id=>m.own.getD id ⟨0,0,0,0⟩
 have ho:∀ (j:Nat) id,ρ[j]? = some id→own'[j]? = m.own[id]?:=by
  intro j id hj
  have hlt:id < m.own.length:=by rw[hs.len]; exact hr.lt id (Gl hj)
  simp[own',hj,Gc,Gb hlt]
 have hf:∀ c v,rel m.own m.imm c v→rel own' m.imm (Go.Cm.ren ρ c) v:=ren_rel ho
 have key:∀ (k:Nat) o x,(Ke ρ H)[k]? = some o→own'[k]? = some x→∃ id o0,ρ[k]? = some id∧H[id]? = some o0∧o=Jcd ρ o0∧m.own[id]? = some x:=by
  intro k o x hk hx
  obtain ⟨id,o0,h1,h2,h3⟩:=renH_get hr.lt hk
  exact ⟨id,o0,h1,h2,h3,(ho k id h1).symm.trans hx⟩
 refine ⟨own',⟨by simp[own',Ke],fun k o x hk hx=>?_,hs.imm,hs.one,fun k k' o o' x x' hk hk' ha ha' hx hx' hB=>?_,fun k o x hk ha hx=>?_,fun k s b hk=>?_,fun k o x hk ha hx=>?_,hs.extlt,hs.gl⟩,⟨Gd _,fun _ _ _=>rfl,Kl.refl _,fun B hB=>.inl ?_,fun B i v hv=>.inl hv,fun k x hk hx=>?_,fun _=>?_,rfl,rfl,rfl⟩,hf,JaU ho⟩
 ·obtain ⟨id,o0,h1,h2,rfl,h4⟩:=key k o x hk hx
  have:=hs.obj id o0 x h2 h4
  cases o0 with
  |arr z' es=>
   obtain ⟨a1,c,el,a2,a3,a4,a5,a6⟩:=this
   exact ⟨a1,c,el,a2,a3,by simpa using a4,relO_ren hf a5,a6⟩
  |map kvs=>
   obtain ⟨es,clock,a1,a2,a3⟩:=this
   refine ⟨es,clock,a1,by simpa using a2,fun i k v e hk he=>?_⟩
   rw[Gr]at hk
   cases hkv:kvs[i]? with
   |none=>simp[hkv]at hk
   |some p=>
    simp[hkv]at hk
    obtain ⟨rfl,rfl⟩:=hk
    have:=a3 i p.1 p.2 e hkv he
    exact ⟨hf _ _ this.1,hf _ _ this.2⟩
  |dead=>trivial
  |ext s b=>trivial
 ·obtain ⟨id,o0,h1,h2,rfl,h4⟩:=key k o x hk hx
  obtain ⟨id',o0',h1',h2',rfl,h4'⟩:=key k' o' x' hk' hx'
  rw[JaV]at ha ha'
  have:=hs.sep id id' o0 o0' x x' h2 h2' ha ha' h4 h4' hB
  subst this
  exact (List.getElem?_inj (Gg.1 h1).1 hr.nodup).1 (h1.trans h1'.symm)
 ·obtain ⟨id,o0,h1,h2,rfl,h4⟩:=key k o x hk hx
  rw[JaV]at ha
  exact hs.ro id o0 x h2 ha h4
 ·obtain ⟨id,o0,h1,h2,h3⟩:=renH_get hr.lt hk
  have:o0=.ext s b:=by cases o0 <;> simp[Jcd]at h3; simp[h3]
  subst this
  exact hs.ext id s b h2
 ·obtain ⟨id,o0,h1,h2,rfl,h4⟩:=key k o x hk hx
  rw[JaV]at ha
  exact hs.extsep id o0 x h2 ha h4
 ·rcases hB with h | ⟨k,o,x,hk,ha,hx,hB⟩
  ·exact .inl h
  ·obtain ⟨id,o0,h1,h2,rfl,h4⟩:=key k o x hk hx
   rw[JaV]at ha
   exact .inr ⟨id,o0,x,h2,ha,h4,hB⟩
 ·exact (ho k k (hr.base k hk)).trans hx
 ·cases n0 with
  |zero=>exact GA _
  |succ n=>
   have:=(Gg.1 (hr.base n (GN n))).1
   simp[own']; omega
end
end
section
def Jet (ρ:List Nat) (n0 len:Nat):Bool:=decide ρ.Nodup && ρ.all (fun id=>decide (id < len)) && (Gi n0).all (fun k=>ρ[k]? == some k)
theorem Xp {ρ:List Nat}{n0:Nat}{H:List CObj}(h:Jet ρ n0 H.length=true):RenOk ρ n0 H:=by
 simp only[Jet,Ga,decide_eq_true_eq,GG,Gx,beq_iff_eq]at h
 exact ⟨h.1.1,h.1.2,h.2⟩
section
variable {P:Program}{E:Env}{n0:Nat}{N:Fr}{Q:Exit→List CV→List CObj→Prop}{H:List CObj}{T:List CV}{k:List KItem}
theorem ok_ren {ρ:List Nat}(hr:RenOk ρ n0 H) (h:Ok P E n0 N Q k (JA ρ T) (Ke ρ H)):Ok P E n0 N Q k T H:=by
 intro m w a b cs kr rest hp hd hk
 obtain ⟨own',hs,he,_,hT⟩:=Sim.ren (n0:=n0) hp.sim hr hp.long
 have hlen:n0≤(Ke ρ H).length:=by
  cases n0 with
  |zero=>exact GA _
  |succ n=>
   have:=(Gg.1 (hr.base n (GN n))).1
   simp[Ke]; omega
 exact Reach.step (.refl _ _) he (h { m with own:=own' } w a b cs kr rest ⟨hs,hT _ _ hp.tmps,hlen⟩ (hd.ext he) hk)
theorem Jy {x:ICode}{σ:Type}(I:σ→Prop) (inv:σ→List CV) (hp:σ→List CObj) (μ:σ→Nat) (s0:σ) (ρ0:List Nat) (h0:I s0) (hr0:Jet ρ0 n0 H.length=true) (hT:forget (JA ρ0 T) (inv s0)) (hH:Ke ρ0 H=hp s0)
  (hb:∀ s,I s→Kn P E n0 N (JcF P E n0 N Q k fun T' H'=>∃ s' ρ,I s'∧μ s' < μ s∧Jet ρ n0 H'.length=true∧Ke ρ H'=hp s'∧forget (JA ρ T') (inv s')) [.code x] (inv s) (hp s)):Ok P E n0 N Q (.code (.loop x)::k) T H:=by
 refine ok_loop (I:=fun s T H=>I s∧∃ ρ,RenOk ρ n0 H∧wks (JA ρ T) (inv s)∧Ke ρ H=hp s) μ s0 ⟨h0,ρ0,Xp hr0,XY hT,hH⟩ ?_
 rintro s T H ⟨hs,ρ,hr,hw,hH⟩
 refine ok_ren hr (KT hw ?_)
 rw[hH]
 refine (JB _ _ _ (hb s hs)).mono fun e T' H' hq=>Jai (fun T2 H2 h2=>?_) hq
 obtain ⟨s',ρ',hs',hlt,h3,h4,hf⟩:=h2
 exact ⟨s',⟨hs',ρ',Xp h3,XY hf,h4⟩,hlt⟩
end
end
section
def gp:List (Nat×CV)→Nat→List CV
 |[],n=>GH n .un
 |(g,v)::l,n=>GH g .un++v::gp l n
def KN (id:Nat) (els:List (List CV)):CV:=match els with
 |[]=>.nils
 |_::_=>.slc id 0 els.length none
def Qi (z:Nat) (els:List (List CV)):CObj:=match els with
 |[]=>.dead
 |_::_=>.arr z els
theorem Qu {id:Nat}:KN id []=.nils:=rfl
theorem Xc {z:Nat}:Qi z []=.dead:=rfl
theorem QQ {id:Nat}{e:List CV}{els:List (List CV)}:KN id (e::els)=.slc id 0 (els.length+1) none:=rfl
theorem Yx {z:Nat}{e:List CV}{els:List (List CV)}:Qi z (e::els)=.arr z (e::els):=rfl
theorem QA {id:Nat}{els:List (List CV)}(h:els≠[]):KN id els=.slc id 0 els.length none:=by cases els <;> simp_all [KN]
theorem Qk {z:Nat}{els:List (List CV)}(h:els≠[]):Qi z els=.arr z els:=by cases els <;> simp_all [Qi]
theorem JY {id:Nat}{e:List CV}{l els:List (List CV)}:KN id (els++e::l)=.slc id 0 (els.length+(l.length+1)) none:=by rw[QA (by simp)]; simp
theorem JZ {z:Nat}{e:List CV}{l els:List (List CV)}:Qi z (els++e::l)=.arr z (els++e::l):=Qk (by simp)
theorem Ji {ρ:List Nat}{z:Nat}{els:List (List CV)}:Jcd ρ (.arr z els)=.arr z (els.map (JA ρ)):=rfl
theorem Jh {ρ:List Nat}:Jcd ρ .dead=.dead:=rfl
theorem Kk {ρ:List Nat}{z:Nat}{els:List (List CV)}(hc:els.map (JA ρ)=els):Jcd ρ (Qi z els)=Qi z els:=by
 cases els with
 |nil=>rfl
 |cons e l=>simp only[Qi,Jcd]; rw[hc]
mutual
theorem JeV {ρ:List Nat}:∀ (c:CV),c.closed=true→ren ρ c=c
 |.un,_=>rfl
 |.bool _,_=>rfl
 |.int _ _,_=>rfl
 |.str _,_=>rfl
 |.nilp,_=>rfl
 |.ptr _ _ _,h=>by simp[CV.closed]at h
 |.rptr _,_=>rfl
 |.nils,_=>rfl
 |.slc _ _ _ _,h=>by simp[CV.closed]at h
 |.rslc _ _ _,_=>rfl
 |.nilm,_=>rfl
 |.map _,h=>by simp[CV.closed]at h
 |.fn f l1 l2,h=>by
  simp only[CV.closed,Ga]at h
  simp only[ren,Xq l1 h.1,Xq l2 h.2]
 |.yld _,_=>rfl
 |.nilf,_=>rfl
 |.iface t c,h=>by
  simp only[CV.closed]at h
  simp only[ren,JeV c h]
 |.nili,_=>rfl
 |.agg l,h=>by
  simp only[CV.closed]at h
  simp only[ren,Xq l h]
 |.tup l,h=>by
  simp only[CV.closed]at h
  simp only[ren,Xq l h]
theorem Xq {ρ:List Nat}:∀ (l:List CV),Jv l=true→JA ρ l=l
 |[],_=>rfl
 |c::cs,h=>by
  simp only[Jv,Ga]at h
  simp only[JA,JeV c h.1,Xq cs h.2]
end
theorem Ja {ρ:List Nat}:∀ {els:List (List CV)},Jw els=true→els.map (JA ρ)=els
 |[],_=>rfl
 |e::l,h=>by
  simp only[Jw,Ga]at h
  simp only[GK,Xq e h.1,Ja h.2]
section
variable {P:Program}{E:Env}{n0:Nat}{N:Fr}{Q:Exit→List CV→List CObj→Prop}{H:List CObj}{T:List CV}{k:List KItem}{m:Bk}{w:World}
theorem CallsC.ren {f:Nat}{args:List CV}{R R':CV→List CObj→Prop}(h:CallsC P E f args H R) (hR:∀ v H',R v H'→∃ ρ,Jet ρ H.length H'.length=true∧R' (ren ρ v) (Ke ρ H')):CallsC P E f args H R':=by
 intro m w vs hs hv
 refine (h m w vs hs hv).mono ?_
 rintro e w' ⟨r,m',v,H',h1,h2,h3,h4,h5⟩
 obtain ⟨ρ,g1,g2⟩:=hR _ _ h5
 have hlen:H.length≤H'.length:=by have:=h2.long (by rw[hs.len]; exact Gd _); rw[h3.len]at this; exact this
 obtain ⟨own',hs',he,hf,_⟩:=Sim.ren (n0:=H.length) h3 (Xp g1) hlen
 exact ⟨r,_,_,_,h1,h2.trans he,hs',hf _ _ h4,g2⟩
theorem Sim.pad (hs:Sim E m H w):Sim E { m with own:=m.own++[⟨0,0,0,0⟩] } (H++[.dead]) w∧KH m.own (m.own++[⟨0,0,0,0⟩])∧Ext n0 m H w { m with own:=m.own++[⟨0,0,0,0⟩] } (H++[.dead]) w:=by
 have ho:=KH.append m.own [⟨0,0,0,0⟩]
 have key:∀ (k:Nat) o x,(H++[CObj.dead])[k]? = some o→o≠.dead→(m.own++[⟨0,0,0,0⟩])[k]? = some x→H[k]? = some o∧m.own[k]? = some x:=by
  intro k o x hk hd hx
  by_cases hlt:k < H.length
  ·rw[Gv hlt]at hk
   rw[Gv (by rw[hs.len]; exact hlt)]at hx
   exact ⟨hk,hx⟩
  ·rw[Gq (by omega)]at hk
   cases hj:k-H.length with
   |zero=>rw[hj]at hk; simp at hk; exact absurd hk.symm hd
   |succ j=>rw[hj]at hk; simp at hk
 have al:∀ o:CObj,o.alive=true→o≠.dead:=by rintro o h rfl; simp[CObj.alive]at h
 refine ⟨⟨by simp[hs.len],fun k o x hk hx=>?_,hs.imm,hs.one,fun k k' o o' x x' hk hk' ha ha' hx hx' hB=>?_,fun k o x hk ha hx=>?_,fun k s b hk=>?_,fun k o x hk ha hx=>?_,hs.extlt,hs.gl⟩,ho,
  ⟨Gd _,fun _ _ _=>rfl,Kl.refl _,fun B hB=>.inl ?_,fun B i v hv=>.inl hv,fun k x _ hx=>ho _ _ hx,fun h=>by simp; omega,rfl,rfl,rfl⟩⟩
 ·by_cases hd:o=.dead
  ·subst hd; trivial
  ·obtain ⟨h1,h2⟩:=key k o x hk hd hx
   exact Ku ho (Kl.refl _) (fun _=>rfl) (hs.obj k o x h1 h2)
 ·obtain ⟨h1,h2⟩:=key k o x hk (al o ha) hx
  obtain ⟨h3,h4⟩:=key k' o' x' hk' (al o' ha') hx'
  exact hs.sep k k' o o' x x' h1 h3 ha ha' h2 h4 hB
 ·obtain ⟨h1,h2⟩:=key k o x hk (al o ha) hx
  exact hs.ro k o x h1 ha h2
 ·have hlt:k < H.length:=by
   refine Ld fun hlt=>?_
   rw[Gq (by omega)]at hk
   cases hj:k-H.length with
   |zero=>rw[hj]at hk; simp at hk
   |succ j=>rw[hj]at hk; simp at hk
  rw[Gv hlt]at hk
  exact hs.ext k s b hk
 ·obtain ⟨h1,h2⟩:=key k o x hk (al o ha) hx
  exact hs.extsep k o x h1 ha h2
 ·rcases hB with h | ⟨k,o,x,hk,ha,hx,hB⟩
  ·exact .inl h
  ·obtain ⟨h1,h2⟩:=key k o x hk (al o ha) hx
   exact .inr ⟨k,o,x,h1,ha,h2,hB⟩
theorem Q3 (h:Kn P E n0 N Q k T (H++[.dead])):Ok P E n0 N Q k T H:=by
 intro m w a b cs kr rest hp hd hk
 obtain ⟨hs,ho,he⟩:=Sim.pad (n0:=n0) hp.sim
 exact Reach.step (.refl _ _) he (JB _ _ _ h _ w a b cs kr rest ⟨hs,KO ho (Kl.refl _) _ _ hp.tmps,by have:=hp.long; simp; omega⟩ (hd.ext he) hk)
theorem exAppend_row {z bytes id:Nat}{els:List (List CV)}{x:List CV}{xs:List (List CV)}(hH:H[id]? = some (Qi z els)) :
  KJ z bytes H (KN id els) (x::xs)=some (Jr (els.length+(xs.length+1)) bytes,.slc H.length 0 (els.length+(xs.length+1)) none,H.set id .dead++[.arr z (els++x::xs)]):=by
 cases els with
 |nil=>
  have hlt:=(Gg.1 hH).1
  have:H.set id .dead=H:=by
   refine GD fun i=>?_
   rw[Gw]
   split
   ·rename_i h; subst h; rw[hH]; simp[hlt,Qi]
   ·rfl
  simp[KJ,KN,this]
 |cons e l=>
  simp only[Qi]at hH
  simp[KJ,KN,hH]
def JbF (els:List (List CV)):Option Nat:=match els with
 |[]=>some 0
 |_::_=>none
def deadE (z:Nat) (els:List (List CV)):CObj:=match els with
 |[]=>.arr z []
 |_::_=>.dead
def condE (els:List (List CV)) (n:Nat) (c:Cond):Cond:=match els with
 |[]=>.and (.le 1 (0+n)) c
 |_::_=>c
theorem condE_holds {els:List (List CV)}{n:Nat}{c:Cond}:(condE els (n+1) c).holds=c.holds:=by
 cases els with
 |nil=>simp[condE,Cond.holds]
 |cons e l=>rfl
theorem Y2 {e:List CV}{l els:List (List CV)}:JbF (els++e::l)=none:=by cases els <;> rfl
theorem exAppend_E {z bytes id n:Nat}{els:List (List CV)}{x:List CV}{xs:List (List CV)}(hH:H[id]? = some (.arr z els)) (hn:n=els.length) :
  KJ z bytes H (.slc id 0 n (JbF els)) (x::xs)=some (condE els (xs.length+1) (Jr (els.length+(xs.length+1)) bytes),.slc H.length 0 (els.length+(xs.length+1)) none,H.set id (deadE z els)++[.arr z (els++x::xs)]):=by
 subst hn
 cases els with
 |nil=>
  have hlt:=(Gg.1 hH).1
  have:H.set id (.arr z [])=H:=by
   refine GD fun i=>?_
   rw[Gw]
   split
   ·rename_i h; subst h; rw[hH]
   ·rfl
  simp[KJ,JbF,deadE,condE,hH,this]
 |cons e l=>simp[KJ,JbF,deadE,condE,hH]
mutual
theorem Xu {id z:Nat}{els:List (List CV)}:∀ (c:CV),c.closed=true→frz id z els c=c
 |.un,_=>rfl
 |.bool _,_=>rfl
 |.int _ _,_=>rfl
 |.str _,_=>rfl
 |.nilp,_=>rfl
 |.ptr _ _ _,h=>by simp[CV.closed]at h
 |.rptr _,_=>rfl
 |.nils,_=>rfl
 |.slc _ _ _ _,h=>by simp[CV.closed]at h
 |.rslc _ _ _,_=>rfl
 |.nilm,_=>rfl
 |.map _,h=>by simp[CV.closed]at h
 |.fn f l1 l2,h=>by
  simp only[CV.closed,Ga]at h
  simp only[frz,Qb l1 h.1,Qb l2 h.2]
 |.yld _,_=>rfl
 |.nilf,_=>rfl
 |.iface t c,h=>by
  simp only[CV.closed]at h
  simp only[frz,Xu c h]
 |.nili,_=>rfl
 |.agg l,h=>by
  simp only[CV.closed]at h
  simp only[frz,Qb l h]
 |.tup l,h=>by
  simp only[CV.closed]at h
  simp only[frz,Qb l h]
theorem Qb {id z:Nat}{els:List (List CV)}:∀ (l:List CV),Jv l=true→JS id z els l=l
 |[],_=>rfl
 |c::cs,h=>by
  simp only[Jv,Ga]at h
  simp only[JS,Xu c h.1,Qb cs h.2]
end
theorem Jfi {f:Nat}{args:List CV}{z:Nat}{els:List (List CV)}(h:CallsC P Env.none f args [] fun v H'=>∃ id,v=KN id els∧H'[id]? = some (Qi z els)) (ha:Jv args=true) (hc:Jw els=true):Fn P f args (.rslc z els none):=by
 refine fn_of_row (h.mono fun v H' ⟨id,h1,h2⟩=>?_) ha hc
 cases els with
 |nil=>exact .inl ⟨rfl,h1⟩
 |cons e l=>exact .inr ⟨id,h2,none,h1⟩
theorem Jfj {f:Nat}{args:List CV}{z:Nat}{els:List (List CV)}(h:CallsC P Env.none f args [] fun v H'=>∃ id off len cap es,v=.slc id off len cap∧H'[id]? = some (.arr z es)∧off+len≤es.length∧(es.drop off).take len=els∧Jw es=true) (ha:Jv args=true):Fn P f args (.rslc z els none):=by
 refine fn_of ?_ ha rfl
 have h2:=h.freeze (R':=fun v H'=>v=.rslc z els none) fun v H' ⟨id,off,len,cap,es,h1,h2,h5,h4,h3⟩=>⟨id,z,es,h2,h3,by rw[h1]; simp[frz,h4,h5]⟩
 exact h2
end
attribute [go_sem high] exAppend_E
attribute [go_sem] condE_holds exAppend_row gp List.length_set
end
section
section
variable {P:Program}{E:Env}{n0:Nat}{N:Fr}{Q:Exit→List CV→List CObj→Prop}{H:List CObj}{T:List CV}{k:List KItem}{m:Bk}{w:World}{a:Act}{o:Oper}
theorem invo_bin {op:Op}{b:BinOp}{tk:TK}{i j:IArg}(h:Xl P op=some (.bin b tk i j)):∃ t d x y ty,op=.binOp b t x y ty∧P.underlying t=some d∧tk=Q4 d∧JE x=some i∧JE y=some j:=by
 unfold Xl at h
 split at h
 all_goals (repeat' split at h)
 all_goals first
  |(cases h; done)
  |(obtain ⟨_,_,h9⟩:=XQ h; cases h9; done)
  |skip
 cases h
 exact ⟨_,_,_,_,_,rfl,‹_›,rfl,‹_›,‹_›⟩
theorem eqnil_good {i:IArg}{z:Nat}(hcomp:Xl P o.op=some (.bin .eql .slice i (.c .nils))) (hx:Kc T i=.rslc z [] none) (hp:Pre E n0 m H w T a):∃ b:Bool,Good P E n0 m H w (execOp a.eval o) (.bool b) H:=by
 obtain ⟨t,d,x,y,ty,ho,hd,htk,hxi,hyi⟩:=invo_bin hcomp
 obtain ⟨e,rfl⟩:=Xb htk.symm
 have h1:=JF hp.tmps hxi
 have h2:=JF hp.tmps hyi
 rw[hx]at h1
 rw[aget_c]at h2
 simp only[rel]at h1 h2
 have key:∀ u:Value,(∃ p,u=.slice p 0 0)∨(∃ p q r,u=.slice (some p) q r)→∃ b:Bool,∀ w,(binOp .eql t u (.slice none 0 0)).run P w=.ok (.bool b) w:=by
  rintro u (⟨p,rfl⟩ | ⟨p,q,r,rfl⟩)
  ·cases p with
   |none=>
    obtain ⟨r,hr,_,_,hrun⟩:=eqv (P:=P) (op:=.eql) (t:=t) (b:=true) (v:=.bool true) (c:=.tt) (own:=[]) (imm:=fun _ _=>none) (z:=.slice none 0 0) (z':=.slice none 0 0) (fun n w=>by simp only[Op.equalIn,Sem.run_bind,run_underlying hd,Result.andThen_ok]; rfl) rfl rfl rfl (by simp) (by simp)
    simp only[rel]at hr; subst hr
    exact ⟨true,hrun⟩
   |some p=>
    obtain ⟨r,hr,_,_,hrun⟩:=eqv (P:=P) (op:=.eql) (t:=t) (b:=false) (v:=.bool false) (c:=.tt) (own:=[]) (imm:=fun _ _=>none) (z:=.slice (some p) 0 0) (z':=.slice none 0 0) (fun n w=>by simp only[Op.equalIn,Sem.run_bind,run_underlying hd,Result.andThen_ok]; rfl) rfl rfl rfl (by simp) (by simp)
    simp only[rel]at hr; subst hr
    exact ⟨false,hrun⟩
  ·obtain ⟨r',hr,_,_,hrun⟩:=eqv (P:=P) (op:=.eql) (t:=t) (b:=false) (v:=.bool false) (c:=.tt) (own:=[]) (imm:=fun _ _=>none) (z:=.slice (some p) q r) (z':=.slice none 0 0) (fun n w=>by simp only[Op.equalIn,Sem.run_bind,run_underlying hd,Result.andThen_ok]; rfl) rfl rfl rfl (by simp) (by simp)
   simp only[rel]at hr; subst hr
   exact ⟨false,hrun⟩
 have hu:(∃ p,a.eval x=.slice p 0 0)∨(∃ p q r,a.eval x=.slice (some p) q r):=by
  rcases h1 with ⟨_,_,b,hb⟩ | ⟨B,o1,c,hb,_⟩
  ·exact .inl ⟨b,hb⟩
  ·exact .inr ⟨_,_,_,hb⟩
 obtain ⟨b,hrun⟩:=key _ hu
 refine ⟨b,Jp (r:=.bool b) hp.sim ?_ (by simp only[rel])⟩
 have hna:∀ cs ds,¬ (a.eval x=.agg cs∧a.eval y=.agg ds):=by
  rintro cs ds ⟨_,h⟩; rw[h2]at h; cases h
 have hni:¬ (a.eval x=.nilIface∧a.eval y=.nilIface):=by
  rintro ⟨_,h⟩; rw[h2]at h; cases h
 simp only[execOp,ho,Sem.run_bind,Jb3 .eql t x y _ _ w hna hni,Result.andThen_ok,Sem.run_pure]
 rw[h2,hrun w]; rfl
theorem ok_eqnil {d:Option Nat}{i:IArg}{z:Nat}{l:List IOper}(hx:Kc T i=.rslc z [] none) (h:∀ b,Kn P E n0 N Q (.ops l::k) (put T d (.bool b)) H):Ok P E n0 N Q (.ops (⟨d,.bin .eql .slice i (.c .nils),none⟩::l)::k) T H:=by
 intro m w a b cs kr rest hp hd hk
 obtain ⟨ops,j,is,kr',o,rfl,ho,hco,hk'⟩:=JaY hk
 obtain ⟨hw,hdst,hop⟩:=Jaf hco (.inl rfl) hp.tmps
 obtain ⟨bb,m',w',r,nx,hrun,hnx,hext,hsim,hrel,hown⟩:=eqnil_good hop hx hp
 have hst:=Jch (b:=b) (cs:=cs) (is:=is) (kr:=kr'++rest) ho hw (semAt_plain hop) hrun hnx
 rw[hdst]at hst
 have hlen:n0≤H.length:=by rw[← hsim.len]; exact hext.long (by rw[hp.sim.len]; exact hp.long)
 refine Reach.step (.one hst) hext ((JB _ _ _ (h bb)) m' w' _ b cs (.inRegion ops is::kr') rest (Jcq hsim (KO hown hext.imm _ _ hp.tmps) hlen hrel) ?_ hk')
 rw[put_defers]; exact hd.ext hext
end
end
end Go.Cm
end
section
open Go.ChangeShapes Go.WideShapes Go.RowKit
namespace Go.Cm
section
def immW (W:World) (B i:Nat):Option Value:=match W.cell? ⟨B,i,none⟩ with
 |some v=>if v.oneCell'=true then some v else none
 |none=>none
theorem immW_some {W:World}{B i:Nat}{v:Value}(h:immW W B i=some v):W.cell? ⟨B,i,none⟩=some v∧v.oneCell'=true:=by
 unfold immW at h
 split at h
 ·split at h
  ·cases h; exact ⟨‹_›,‹_›⟩
  ·cases h
 ·cases h
theorem immW_mk {W:World}{B i:Nat}{v:Value}(h:W.cell? ⟨B,i,none⟩=some v) (h1:v.oneCell'=true):immW W B i=some v:=by
 simp[immW,h,h1]
theorem sim_start (W:World) (hg:GLw W):Sim Env.none { own:=[],imm:=immW W,ext:=fun _=>False } [] W:=
 ⟨rfl,by simp,fun B i v h=>(immW_some h).1,fun B i v h=>(immW_some h).2,by simp,by simp,by simp,by simp,fun B h=>hg.lt (h.resolve_left id),hg,by simp⟩
theorem one_of_rel {own:List Own}{imm:Nat→Nat→Option Value}{c:CV}{v:Value}(h:c.oneCell=true) (hr:rel own imm c v):v.oneCell'=true:=by
 cases c <;> simp[CV.oneCell]at h <;> simp only[rel]at hr
 case bool=>subst hr; rfl
 case int=>subst hr; rfl
 case str=>subst hr; rfl
 case nilp=>subst hr; rfl
 case ptr=>obtain ⟨x,_,rfl⟩:=hr; rfl
 case rptr=>obtain ⟨B,o,rfl,_⟩:=hr; rfl
 case nils=>subst hr; rfl
 case slc=>obtain ⟨x,a,c,_,rfl,_⟩:=hr; rfl
 case rslc=>rcases hr with ⟨_,_,b,rfl⟩ | ⟨B,o,c,rfl,_⟩ <;> rfl
 case nilm=>subst hr; rfl
 case map=>obtain ⟨x,_,rfl⟩:=hr; rfl
 case fn=>obtain ⟨a,b,rfl,_⟩:=hr; rfl
 case yld=>subst hr; rfl
 case nilf=>subst hr; rfl
 case iface=>obtain ⟨r,rfl,_⟩:=hr; rfl
 case nili=>subst hr; rfl
def Jas (P:Program):Nat→TypeId→Bool
 |0,_=>false
 |d+1,t=>match P.underlying t with
  |some .bool=>true
  |some (.int _)=>true
  |some .string=>true
  |some (.slice e)=>Jas P d e && decide (0 < P.cellsOf e)
  |some (.struct fs)=>fs.toList.all fun f=>Jas P d f.type
  |_=>false
def fits (P:Program):Nat→TypeId→List CV→Prop
 |0,_,_=>False
 |d+1,t,l=>match P.underlying t with
  |some .bool=>∃ b,l=[.bool b]
  |some (.int k)=>∃ x,l=[.int k x]∧InR k x
  |some .string=>∃ s,l=[.str s]∧s.size≤maxLen
  |some (.slice e)=>∃ els,l=[.rslc (P.cellsOf e) els none]∧els.length≤maxLen∧∀ x∈els,fits P d e x
  |some (.struct fs)=>∃ ls:List (List CV),l=ls.flatten∧ls.length=fs.size∧∀ (i:Nat) f li,fs[i]? = some f→ls[i]? = some li→fits P d f.type li
  |_=>False
theorem Jba:∀ {l:List CV},QO l=true↔∀ c∈l,c.oneCell=true
 |[]=>by simp[QO]
 |c::l=>by simp[QO,Jba (l:=l)]
theorem JcM {own:List Own}{imm:Nat→Nat→Option Value}:∀ (sizes:List Nat) (cs:List Value) (ls:List (List CV)),cs.length=sizes.sum→ls.length=sizes.length→
  (∀ (j:Nat) n li,sizes[j]? = some n→ls[j]? = some li→JM own imm li ((cs.drop (sizes.take j).sum).take n))→JM own imm ls.flatten cs
 |[],cs,ls,h1,h2,_=>by
  have:ls=[]:=G7 h2
  subst this
  have:cs=[]:=G7 (by simpa using h1)
  subst this
  simp[JM]
 |n::sizes,cs,[],_,h2,_=>by simp at h2
 |n::sizes,cs,l::ls,h1,h2,h=>by
  simp only[Lb]at h1
  have e:cs=cs.take n++cs.drop n:=(List.take_append_drop n cs).symm
  have h3:=h 0 n l rfl rfl
  simp only[H9,List.sum_nil,La]at h3
  have ih:=JcM sizes (cs.drop n) ls (by rw[List.length_drop]; omega) (by simpa using h2) (fun j m li hj hl=>by
   have:=h (j+1) m li (by simpa using hj) (by simpa using hl)
   simp only[Hw,Lb]at this
   rw[List.drop_drop]; exact this)
  rw[e,List.flatten_cons]
  exact QB h3 ih
section
variable {H:Type}{enc:TypeId×Value→H}{P:Program}{W:World}{held:Bool}
theorem cells?_get {base:Nat}{a:Addr}{n:Nat}{cs:List Value}(h:W.cells? base a n=some cs):cs.length=n∧∀ t,t < n→W.cell? (a.add t)=cs[t]?:=by
 unfold World.cells? at h
 split at h
 ·have hl:=mapM_some_length h
  refine ⟨by simpa using hl,fun t ht=>mapM_some_get h t t (by simp[ht])⟩
 ·cases h
theorem Jdj {T:TypeId→Prop}(K:Kids P T):∀ (d:Nat) (t:TypeId) (cs:List Value) (x:DataW H×List MemPlace) (fuel:Nat),T t→Jas P d t=true→
  DataW.trod enc P W 0 (fun _=>true) held fuel t cs=some x→∃ l,JM [] (immW W) l cs∧QO l=true∧fits P d t l
 |0,_,_,_,_,_,h,_=>by simp[Jas]at h
 |d+1,t,cs,x,fuel,hT,hp,h=>by
  unfold Jas at hp
  split at hp
  ·rename_i ht
   obtain ⟨b,rfl,_⟩:=DataW.trod_bool ht h
   exact ⟨[.bool b],by simp[JM,rel],rfl,by simp[fits,ht]⟩
  ·rename_i k ht
   obtain ⟨n,rfl,_,hw⟩:=DataW.trod_int ht h
   refine ⟨[.int k n],by simp[JM,rel],rfl,?_⟩
   simp only[fits,ht]
   refine ⟨n,rfl,?_⟩
   simp only[Lit.wf,Ga,decide_eq_true_eq]at hw
   exact ⟨hw.1,hw.2⟩
  ·rename_i ht
   obtain ⟨s,rfl,_,hs⟩:=DataW.trod_string ht h
   exact ⟨[.str s],by simp[JM,rel],rfl,by simp[fits,ht]; exact hs⟩
  ·rename_i e ht
   simp only[Ga,decide_eq_true_eq]at hp
   obtain ⟨hpe,hz⟩:=hp
   have hTe:=K.slice hT ht
   rcases DataW.trod_slice ht h with ⟨rfl,_⟩ | ⟨a,len,cap,elems,rest,n,rfl,rfl,_,_,hlc,hmax,hel,he,hr,_⟩
   ·refine ⟨[.rslc (P.cellsOf e) [] none],by simp[JM,rel],rfl,?_⟩
    simp only[fits,ht]
    exact ⟨[],rfl,by simp,by simp⟩
   ·have hr:=hr rfl
    have key:∀ i,i < len→∃ li,(∃ csi,W.cells? 0 (a.add (i*P.cellsOf e)) (P.cellsOf e)=some csi∧JM [] (immW W) li csi)∧QO li=true∧fits P d e li:=by
     intro i hi
     have h1:=he i hi
     rw[Gb (by omega)]at h1
     obtain ⟨csi,h2,h3⟩:=Hq.1 h1
     obtain ⟨li,g1,g2,g3⟩:=Jdj K d e csi _ n hTe hpe h3
     exact ⟨li,⟨csi,h2,g1⟩,g2,g3⟩
    have keyC:∃ F:Nat→List CV,∀ i,i < len→(∃ csi,W.cells? 0 (a.add (i*P.cellsOf e)) (P.cellsOf e)=some csi∧JM [] (immW W) (F i) csi)∧QO (F i)=true∧fits P d e (F i):=by
     refine ⟨fun i=>if hi:i < len then Lf (key i hi) else [],fun i hi=>?_⟩
     simp only[dif_pos hi]
     exact Le (key i hi)
    obtain ⟨F,hF⟩:=keyC
    refine ⟨[.rslc (P.cellsOf e) ((Gi len).map F) none],?_,rfl,?_⟩
    ·simp only[JM]
     refine ⟨_,_,rfl,?_,rfl⟩
     simp only[rel]
     by_cases hc0:cap=0
     ·subst hc0
      have:len=0:=by omega
      subst this
      exact .inl ⟨.inl trivial,rfl,_,rfl⟩
     ·have hplain:∃ b off,a=⟨b,off,none⟩:=by
       have hcell:∃ v,W.cell? a=some v:=by
        by_cases hl0:len=0
        ·subst hl0
         have h1:=hr.2 0 (by omega)
         rw[Gb (by omega)]at h1
         obtain ⟨csi,h2,_⟩:=Hq.1 h1
         obtain ⟨h3,h4⟩:=cells?_get h2
         have h5:=h4 0 hz
         rw[Gb (by omega)]at h5
         exact ⟨_,by simpa [Addr.add]using h5⟩
        ·obtain ⟨csi,h2,_⟩:=(hF 0 (by omega)).1
         obtain ⟨h3,h4⟩:=cells?_get h2
         have h5:=h4 0 hz
         rw[Gb (by omega)]at h5
         exact ⟨_,by simpa [Addr.add]using h5⟩
       obtain ⟨v,hv⟩:=hcell
       obtain ⟨b,off,spot⟩:=a
       have hspot:spot=none:=World.cell?_spot hv
       subst hspot
       exact ⟨b,off,rfl⟩
      obtain ⟨b,off,rfl⟩:=hplain
      refine .inr ⟨b,off,cap,by simp,by simpa using hlc,by simp,?_⟩
      rw[K5]
      intro j el hj
      have hjl:j < len:=by have:=(Gg.1 hj).1; simpa using this
      simp[hjl]at hj
      subst hj
      obtain ⟨⟨csi,h2,h3⟩,h4,_⟩:=hF j hjl
      obtain ⟨h5,h6⟩:=cells?_get h2
      have hlen:=JG h3
      refine ⟨by rw[hlen,h5],fun t c hc=>?_⟩
      obtain ⟨v,hv,hrel⟩:=XD h3 hc
      have htl:t < P.cellsOf e:=by have:=(Gg.1 hv).1; omega
      have h7:=h6 t htl
      rw[hv]at h7
      rw[Go.WideShapes.add_plain,Go.WideShapes.add_plain]at h7
      refine ⟨v,immW_mk h7 (one_of_rel (Jba.1 h4 c (Gl hc)) hrel),hrel⟩
    ·simp only[fits,ht]
     refine ⟨_,rfl,by simp; omega,fun y hy=>?_⟩
     obtain ⟨i,hi,rfl⟩:=GL.1 hy
     exact (hF i (Gx.1 hi)).2.2
  ·rename_i fs ht
   obtain ⟨xs,n,rfl,rfl,hlen,hxs,hf⟩:=DataW.trod_struct ht h
   obtain ⟨hk1,hk2,hk3⟩:=K.struct hT ht
   rw[GG]at hp
   have key:∀ (i:Nat) f,fs[i]? = some f→∃ li,JM [] (immW W) li ((cs.drop f.offset).take (P.cellsOf f.type))∧QO li=true∧fits P d f.type li:=by
    intro i f hi
    have h1:=hf i f hi
    have hlt:i < fs.size:=(Gy.1 hi).1
    rw[Gb (by omega)]at h1
    have hm:f∈fs.toList:=Gl (by rw[GR]; exact hi)
    exact Jdj K d f.type _ _ n (hk1 f hm) (hp f hm) h1
   have keyC:∃ F:Nat→List CV,∀ (i:Nat) f,fs[i]? = some f→JM [] (immW W) (F i) ((cs.drop f.offset).take (P.cellsOf f.type))∧QO (F i)=true∧fits P d f.type (F i):=by
    refine ⟨fun i=>if hi:i < fs.size then Lf (key i fs[i] (Gf hi)) else [],fun i f hi=>?_⟩
    have hlt:i < fs.size:=(Gy.1 hi).1
    simp only[dif_pos hlt]
    have:=Le (key i fs[i] (Gf hlt))
    rw[Gf hlt]at hi
    cases hi
    exact this
   obtain ⟨F,hF⟩:=keyC
   refine ⟨((Gi fs.size).map F).flatten,?_,?_,?_⟩
   ·refine JcM (fs.toList.map fun f=>P.cellsOf f.type) cs _ (by rw[hlen,hk2]) (by simp) (fun j n li hj hl=>?_)
    rw[Gr]at hj
    cases hfj:fs.toList[j]? with
    |none=>simp[hfj]at hj
    |some f=>
     simp[hfj]at hj
     subst hj
     have hfj2:fs[j]? = some f:=by rw[← GR]; exact hfj
     have hlt:j < fs.size:=(Gy.1 hfj2).1
     simp[hlt]at hl
     subst hl
     have h1:=(hF j f hfj2).1
     rw[hk3 j f hfj]at h1
     rw[← List.map_take]
     exact h1
   ·rw[Jba]
    intro c hc
    obtain ⟨l1,hl1,hc1⟩:=List.mem_flatten.1 hc
    obtain ⟨i,hi,rfl⟩:=GL.1 hl1
    rw[Gx]at hi
    exact Jba.1 (hF i fs[i] (Gf hi)).2.1 c hc1
   ·simp only[fits,ht]
    refine ⟨_,rfl,by simp,fun i f li hi hl=>?_⟩
    have hlt:i < fs.size:=(Gy.1 hi).1
    simp[hlt]at hl
    subst hl
    exact (hF i f hi).2.2
  ·simp at hp
def YY (P:Program) (d:Nat) (t:TypeId) (c:CV):Prop:=match P.underlying t with
 |some (.struct _)=>∃ l,c=.agg l∧fits P d t l
 |_=>fits P d t [c]
def fitsAll (P:Program) (d:Nat):List TypeId→List CV→Prop
 |[],l=>l=[]
 |t::ts,l=>∃ c cs,l=c::cs∧YY P d t c∧fitsAll P d ts cs
theorem trod_top {T:TypeId→Prop}(K:Kids P T) {d:Nat}{t:TypeId}{v:Value}{dd:DataW H}{p:List MemPlace}{base:Nat}(hT:T t) (hp:Jas P d t=true) (hv:Value.okWide P W .any base t v)
  (h:DataW.Trod enc P W 0 (fun _=>true) held t v dd p):∃ c,rel [] (immW W) c v∧YY P d t c:=by
 obtain ⟨fuel,hf⟩:=h
 obtain ⟨l,h1,h2,h3⟩:=Jdj K d t _ _ fuel hT hp hf
 cases d with
 |zero=>simp[Jas]at hp
 |succ d=>
  have one:∀ w:Value,w=v→v.cells=#[v]→(∀ fs,P.underlying t≠some (.struct fs))→∃ c,rel [] (immW W) c v∧YY P (d+1) t c:=by
   intro w _ hc hns
   rw[hc]at h1
   simp only[JM]at h1
   cases l with
   |nil=>simp[JM]at h1
   |cons c l=>
    simp only[JM]at h1
    obtain ⟨r,rs,e,g1,g2⟩:=h1
    simp at e
    obtain ⟨rfl,rfl⟩:=e
    have:l=[]:=G7 (by rw[JG g2]; rfl)
    subst this
    refine ⟨c,g1,?_⟩
    unfold YY
    split
    ·rename_i fs hfs; exact absurd hfs (hns fs)
    ·exact h3
  have hp':=hp
  unfold Jas at hp
  split at hp
  ·rename_i ht
   obtain ⟨b,rfl⟩:=okWide_bool ht hv
   exact one _ rfl rfl (by rw[ht]; simp)
  ·rename_i k ht
   obtain ⟨b,rfl⟩:=okWide_int ht hv
   exact one _ rfl rfl (by rw[ht]; simp)
  ·rename_i ht
   obtain ⟨b,rfl⟩:=okWide_string ht hv
   exact one _ rfl rfl (by rw[ht]; simp)
  ·rename_i e ht
   obtain ⟨a,b,c,rfl⟩:=okWide_slice ht hv
   exact one _ rfl rfl (by rw[ht]; simp)
  ·rename_i fs ht
   obtain ⟨cs,rfl,_⟩:=okWide_struct ht hv
   refine ⟨.agg l,?_,?_⟩
   ·simp only[rel]; exact ⟨cs,rfl,h1⟩
   ·simp only[YY,ht]; exact ⟨l,rfl,h3⟩
  ·simp at hp
theorem trod_all {T:TypeId→Prop}(K:Kids P T) {d:Nat}{base:Nat}:∀ {ts:List TypeId}{vs:List Value}{ds:List (DataW H)}{p:List MemPlace},(∀ t∈ts,T t∧Jas P d t=true)→
  (∀ (j:Nat) t v,ts[j]? = some t→vs[j]? = some v→Value.okWide P W .any base t v)→DataW.TrodAll enc P W 0 (fun _=>true) held ts vs ds p→∃ l,JM [] (immW W) l vs∧fitsAll P d ts l
 |[],[],[],_,_,_,_=>⟨[],by simp[JM],rfl⟩
 |t::ts,v::vs,dd::ds,_,hT,hv,⟨p,q,h1,h2,_⟩=>by
  obtain ⟨c,g1,g2⟩:=trod_top K (hT t (by simp)).1 (hT t (by simp)).2 (hv 0 t v rfl rfl) h1
  obtain ⟨l,g3,g4⟩:=trod_all K (fun t ht=>hT t (by simp[ht])) (fun j t v hj hvj=>hv (j+1) t v (by simpa using hj) (by simpa using hvj)) h2
  exact ⟨c::l,by simp only[JM]; exact ⟨v,vs,rfl,g1,g3⟩,c,l,rfl,g2,g4⟩
 |[],[],_::_,_,_,_,h=>h.elim
 |[],_::_,_,_,_,_,h=>by cases h
 |_::_,[],_,_,_,_,h=>by cases h
 |_::_,_::_,[],_,_,_,h=>h.elim
theorem JbK {W':World}{sp:Nat→Bool}:∀ {ts:List TypeId}{vs:List Value}{ds:List (DataW H)}{p:List MemPlace},DataW.TrodAll enc P W 0 sp held ts vs ds p→(∀ x∈p,W.sameAt W' x)→DataW.TrodAll enc P W' 0 sp held ts vs ds p
 |[],[],[],_,h,_=>h
 |t::ts,v::vs,dd::ds,_,⟨p,q,⟨n,h1⟩,h2,e⟩,hs=>by
  subst e
  exact ⟨p,q,⟨n,DataW.trod_carry n _ _ _ h1 fun x hx=>hs x (List.mem_append_left _ hx)⟩,JbK h2 fun x hx=>hs x (List.mem_append_right _ hx),rfl⟩
 |[],[],_::_,_,h,_=>h.elim
 |[],_::_,_,_,h,_=>by cases h
 |_::_,[],_,_,h,_=>by cases h
 |_::_,_::_,[],_,h,_=>h.elim
theorem JfX {f:Func}{s:ChangeSpec}{apart fresh handsOn again:Bool}{W W':World}{args:Array Value}{v:Value}{ds gs:List (DataW H)}{before pa pv:List MemPlace}
  (hW:DataW.Whole enc P f.params.toList s.vars apart W args.toList ds gs before)
  (hres:∀ (b:Nat) (sp:Nat→Bool) (hd:Bool),DataW.TrodAll enc P W' b sp hd f.resultTypes.toList (v.resultList f.resultTypes.size) (s.fn H (ds++gs)).results [])
  (hargs:∀ sp:Nat→Bool,(∀ p∈before,sp p.block=true)→DataW.TrodAll enc P W' 0 sp true f.params.toList args.toList (s.fn H (ds++gs)).args pa)
  (hvars:∀ sp:Nat→Bool,(∀ p∈before,sp p.block=true)→DataW.TrodVars enc P W' sp s.vars (s.fn H (ds++gs)).vars pv)
  (hps:before=pa++pv) (hb:Below W.heap.size W W')
  (hok:∀ (j:Nat) (t:TypeId) (r:Value),f.resultTypes[j]? = some t→(v.resultList f.resultTypes.size)[j]? = some r→Value.okWide P W' .any 0 t r) :
  s.post enc P f apart fresh handsOn again W args v W':=by
 have hlt:∀ p∈before,p.block < W.heap.size:=fun p hp=>hW.lt p hp
 have hold:∀ p∈before,(fun b=>decide (b < W.heap.size)) p.block=true:=fun p hp=>by simpa using hlt p hp
 refine ⟨ds,gs,before,[],pa,pv,hW,hres _ _ _,hargs _ hold,hvars _ hold,World.keptBut_mono (fun p hp=>⟨hp,?_⟩) (hb.frame (·∈before)),fun _=>?_⟩
 ·rw[hps,List.mem_append]at hp
  exact Or.inr hp
 ·obtain ⟨_,_,_,_,_,hz,hn⟩:=hW
  refine ⟨hok,_,_,([]++pa)++pv,⟨[]++pa,pv,trodAll_append (hargs _ (fun _ _=>rfl)) (hres _ _ _),hvars _ (fun _ _=>rfl),rfl,?_,?_⟩,?_⟩
  ·intro b off hp
   have hin:MemPlace.cell b off∈before:=by rw[hps]; simpa using hp
   rw[hb.frozen (hlt _ hin)]
   exact hz b off hin
  ·intro ha
   have:=hn ha
   rw[hps]at this
   simpa using this
  ·intro p hp _
   rw[hps]
   simpa using hp
theorem law_contract {f:Nat}{fn:Func}{s:ChangeSpec}{bt:TypeId}{d:Nat}(hl:laidOutB P=true) (hm:mapsRowed P=true)
  (hz:((Gi P.types.size).all fun t=>match P.underlying t with | some (.slice e)=>decide (0 < P.cellsOf e) | _=>true)=true)
  (hbt:P.underlying bt=some .bool) (hres:fn.resultTypes=#[bt]) (hvars:s.vars=[]) (hsp:∀ ds:List (DataW H),ds.length=fn.params.size→(s.fn H ds).results=[.lit (.bool true)]∧(s.fn H ds).args=ds∧(s.fn H ds).vars=[])
  (hts:(fn.params.toList.all fun t=>decide (t < P.types.size) && Jas P d t)=true)
  (law:∀ l:List CV,fitsAll P d fn.params.toList l→Fn P f l (.bool true))
  (W:World) (base:Nat) (args:Array Value) (ds gs:List (DataW H)) (before:List MemPlace) (hval:∀ (j:Nat) t v,fn.params[j]? = some t→args[j]? = some v→Value.okWide P W .any base t v)
  (hW:DataW.Whole enc P fn.params.toList s.vars false W args.toList ds gs before) (hg:GLw W) :
  Calls P f args W fun e W'=>∃ v,e=.returned v∧s.post enc P fn false true false false W args v W':=by
 have K:=kids_rows hl hm
 have hfull:=slices_full_of P hz
 rw[GG]at hts
 have hT:∀ t∈fn.params.toList,t < P.types.size∧Jas P d t=true:=fun t ht=>by simpa using hts t ht
 have hW':=hW
 obtain ⟨p,q,hA,hV,rfl,hfz,hnd⟩:=hW
 rw[hvars]at hV
 obtain ⟨rfl,rfl⟩:=trodVars_none hV
 obtain ⟨l,h1,h2⟩:=trod_all (d:=d) (base:=base) K hT (fun j t v hj hvj=>hval j t v (by rw[← GR]; exact hj) (by rw[← GR]; exact hvj)) hA
 have hc:=law l h2 Env.none [] _ W args (sim_start W hg) h1
 refine (hc.calls fun k=>Jdr none k).mono ?_
 rintro e W' ⟨r,m',v,H',rfl,hext,hs,hrel,rfl,rfl⟩
 simp only[rel]at hrel
 subst hrel
 have hno:∀ B,¬ owned { own:=[],imm:=immW W,ext:=fun _=>False } [] B:=by
  rintro B (h | ⟨k,o,x,hk,_⟩)
  ·exact h
  ·simp at hk
 have hb:Below W.heap.size W W':=⟨hext.same.1,hext.same.2.2,hext.same.2.1,hext.size,fun k hk=>hext.frame k hk (hno k)⟩
 have hlt:∀ x∈p++[],x.block < W.heap.size:=fun x hx=>hW'.lt x hx
 have hdl:ds.length=fn.params.size:=by have:=(trodAll_length hA).2; simpa using this
 obtain ⟨hs1,hs2,hs3⟩:=hsp (ds++[]) (by simpa using hdl)
 refine ⟨_,rfl,JfX (pa:=p) (pv:=[]) hW' (fun _ _ _=>?_) (fun sp hsp'=>?_) (fun _ _=>?_) (by simp) hb (ok_one hres rfl (okWide_bool_mk hbt _))⟩
 ·rw[hres,hs1]
  exact trodAll_cons_mk (shut_bool hbt _) trodAll_mk0
 ·rw[hs2,List.append_nil]
  exact DataW.TrodAll.respare K hfull (fun t ht=>(hT t ht).1) (JbK hA fun x hx=>hb.same (hlt x (by simpa using hx))) (fun x hx=>hsp' x (by simpa using hx))
 ·rw[hvars,hs3]; rfl
theorem fits_int {d:Nat}{t:TypeId}{k:IntKind}{l:List CV}(ht:P.underlying t=some (.int k)) (h:fits P d t l):∃ x,l=[.int k x]∧InR k x:=by
 cases d with
 |zero=>exact h.elim
 |succ d=>simpa only[fits,ht]using h
theorem fits_str {d:Nat}{t:TypeId}{l:List CV}(ht:P.underlying t=some .string) (h:fits P d t l):∃ b,l=[.str b]∧b.size≤maxLen:=by
 cases d with
 |zero=>exact h.elim
 |succ d=>simpa only[fits,ht]using h
theorem JcC {d:Nat}{t e:TypeId}{l:List CV}(ht:P.underlying t=some (.slice e)) (h:fits P (d+1) t l):∃ els,l=[.rslc (P.cellsOf e) els none]∧els.length≤maxLen∧∀ x∈els,fits P d e x:=by
 simpa only[fits,ht]using h
theorem fits_struct2 {d:Nat}{t:TypeId}{f0 f1:Field}{l:List CV}(ht:P.underlying t=some (.struct #[f0,f1])) (h:fits P (d+1) t l):∃ a b,l=a++b∧fits P d f0.type a∧fits P d f1.type b:=by
 simp only[fits,ht]at h
 obtain ⟨ls,rfl,hl,hf⟩:=h
 match ls,hl with
 |[a,b],_=>exact ⟨a,b,by simp,hf 0 f0 a rfl rfl,hf 1 f1 b rfl rfl⟩
theorem top_int {d:Nat}{t:TypeId}{k:IntKind}{c:CV}(ht:P.underlying t=some (.int k)) (h:YY P d t c):∃ x,c=.int k x∧InR k x:=by
 simp only[YY,ht]at h
 obtain ⟨x,h1,h2⟩:=fits_int ht h
 cases h1
 exact ⟨x,rfl,h2⟩
end
end
end Go.Cm
end
section
namespace Go.Cm
section
inductive Foot where
 |all
 |on (l:List Nat)
def Foot.has:Foot→Nat→Prop
 |.all,_=>True
 |.on l,x=>x∈l
def Foot.meets:Foot→Foot→Bool
 |.all,.all=>true
 |.all,.on l=>!l.isEmpty
 |.on l,.all=>!l.isEmpty
 |.on l,.on l'=>l.any fun x=>l'.contains x
theorem Foot.meets_of {a b:Foot}{x:Nat}(ha:a.has x) (hb:b.has x):a.meets b=true:=by
 cases a <;> cases b <;> simp only[Foot.has,Foot.meets]at *
 ·rename_i l; cases l <;> simp_all
 ·rename_i l; cases l <;> simp_all
 ·exact H7.2 ⟨x,ha,by simpa using hb⟩
def hat (H:List CObj):Nat→Option CObj×Nat
 |0=>(none,H.length)
 |i+1=>(H[i]?,0)
theorem JcB {H H':List CObj}(h:∀ x,hat H x=hat H' x):H=H':=GD fun i=>by
 have:=h (i+1)
 simpa [hat]using this
def XV (fs:List (Foot×Foot)) (i:Nat):Foot×Foot:=fs.getD i (.all,.all)
section
variable (P:Program) (E:Env)
structure HS (io:IOper) (T:List CV) (H:List CObj) (v:CV) (H':List CObj) (f:Foot×Foot):Prop where
 out:∀ x,¬ f.2.has x→hat H' x=hat H x
 run:∀ T2 H2,agree io.rd T T2→(∀ x,f.1.has x→hat H2 x=hat H x)→∃ H2',(∀ x,f.2.has x→hat H2' x=hat H' x)∧(∀ x,¬ f.2.has x→hat H2' x=hat H2 x)∧
  ∀ (n0:Nat) (N:Fr) (Q:Exit→List CV→List CObj→Prop) (k:List KItem) (l:List IOper),Ok P E n0 N Q (.ops l::k) (put T2 io.dst v) H2'→Ok P E n0 N Q (.ops (io::l)::k) T2 H2
end
def KW (l:List IOper) (es:List (List Nat)) (fs:List (Foot×Foot)):Bool:=
 ordered l es && (Gi l.length).all fun i=>(Gi l.length).all fun j=>i == j || !((XV fs i).2.meets (XV fs j).1 || (XV fs i).2.meets (XV fs j).2) || (es.getD j []).contains i || (es.getD i []).contains j
structure OrderedH (l:List IOper) (es:List (List Nat)) (fs:List (Foot×Foot)):Prop where
 base:Ordered l es
 ord:∀ i j x,i < l.length→j < l.length→i≠j→(XV fs i).2.has x→((XV fs j).1.has x∨(XV fs j).2.has x)→i∈es.getD j []∨j∈es.getD i []
theorem Jbk {l:List IOper}{es:List (List Nat)}{fs:List (Foot×Foot)}(h:KW l es fs=true):OrderedH l es fs:=by
 simp only[KW,Ga,GG,Gx]at h
 refine ⟨JbU h.1,fun i j x hi hj hne h1 h2=>?_⟩
 have h3:=h.2 i hi j hj
 have hm:((XV fs i).2.meets (XV fs j).1 || (XV fs i).2.meets (XV fs j).2)=true:=by
  rcases h2 with h2 | h2
  ·rw[Foot.meets_of h1 h2]; rfl
  ·rw[Foot.meets_of h1 h2,Hg]
 have hne':(i == j)=false:=by simpa using hne
 rw[hm,hne']at h3
 simp only[Hf,He,Gz,GQ]at h3
 exact h3
def AtH (l:List IOper) (fs:List (Foot×Foot)) (hh:Nat→List CObj) (S:Nat→Bool) (H:List CObj):Prop:=
 ∀ x m,m≤l.length→(∀ i,i < l.length→(XV fs i).2.has x→(S i=true↔i < m))→hat H x=hat (hh m) x
section
variable {P:Program}{E:Env}{n0:Nat}{N:Fr}{Q:Exit→List CV→List CObj→Prop}{H:List CObj}{T:List CV}{k:List KItem}{l:List IOper}{es:List (List Nat)}{fs:List (Foot×Foot)}{v:Nat→CV}{hh:Nat→List CObj}
theorem Jc8 (hv:∀ j,j < l.length→HS P E (QI l j) (tst l v T j) (hh j) (v j) (hh (j+1)) (XV fs j)) {x a:Nat}:∀ d,a+d≤l.length→(∀ i,a≤i→i < a+d→¬ (XV fs i).2.has x)→hat (hh (a+d)) x=hat (hh a) x
 |0,_,_=>rfl
 |d+1,h,hn=>by
  have h1:=(hv (a+d) (by omega)).out x (hn (a+d) (by omega) (by omega))
  have h2:=Jc8 hv d (by omega) fun i hi hi'=>hn i hi (by omega)
  rw[← h2]; exact h1
theorem Jfv (ho:OrderedH l es fs) (hv:∀ j,j < l.length→HS P E (QI l j) (tst l v T j) (hh j) (v j) (hh (j+1)) (XV fs j)) (hfin:Ok P E n0 N Q k (tst l v T l.length) (hh l.length)) {S:Nat→Bool}{is:List Nat}(h:Sched l.length es S is) :
  ∀ T' H',(∀ i,i < l.length→S i=true→∀ e∈es.getD i [],S e=true)→At l v T S T'→AtH l fs hh S H'→Ok P E n0 N Q (.ops (is.map (QI l))::k) T' H':=by
 induction h with
 |nil hn=>
  rename_i S
  intro T' H' hcl hA hB
  have hall:∀ i,i < l.length→S i=true:=by
   intro i
   induction i using GZ with
   |_ i ih=>
    intro hi
    cases hS:S i with
    |true=>rfl
    |false=>
     obtain ⟨e,he,hSe⟩:=hn i hi hS
     have hlt:=ho.base.lt i hi e he
     have:=ih e hlt (by omega)
     rw[this]at hSe; cases hSe
  have hH:H'=hh l.length:=JcB fun x=>hB x l.length (Gd _) fun i hi _=>⟨fun _=>hi,fun _=>hall i hi⟩
  rw[hA.all ho.base hall,hH]
  exact Jct hfin
 |cons hi hS hr _ ih=>
  rename_i S j is hrest
  intro T' H' hcl hA hB
  have key:∀ i,i < l.length→i≠j→∀ x,(XV fs i).2.has x→((XV fs j).1.has x∨(XV fs j).2.has x)→(S i=true↔i < j):=by
   intro i hil hne x h1 h2
   have h3:=ho.ord i j x hil hi hne h1 h2
   constructor
   ·intro hSi
    rcases h3 with h3 | h3
    ·exact ho.base.lt j hi i h3
    ·have:=hcl i hil hSi j h3; rw[hS]at this; cases this
   ·intro hlt
    rcases h3 with h3 | h3
    ·exact hr i h3
    ·have:=ho.base.lt i hil j h3; omega
  obtain ⟨H2',g1,g2,g3⟩:=(hv j hi).run T' H' (hA.agree ho.base hcl hi hS hr) (fun x hx=>hB x j (by omega) fun i hil hw=>by
   by_cases hij:i=j
   ·subst hij; rw[hS]; simp
   ·exact key i hil hij x hw (.inl hx))
  refine g3 n0 N Q k _ (ih _ _ (fun i hil hSi e he=>?_) (hA.step ho.base hi hS) ?_)
  ·simp only[Gz,beq_iff_eq]at hSi ⊢
   rcases hSi with h | h
   ·exact .inl (hcl i hil h e he)
   ·subst h; exact .inl (hr e he)
  ·intro x m hm hw
   by_cases hx:(XV fs j).2.has x
   ·rw[g1 x hx]
    have hjm:j < m:=(hw j hi hx).1 (by simp)
    have hc:=Jc8 hv (x:=x) (a:=j+1) (m-(j+1)) (by omega) (fun i h1 h2 hxi=>by
     have hil:i < l.length:=by omega
     have h4:=(hw i hil hxi).2 (by omega)
     have hne:i≠j:=by omega
     have h5:S i=true:=by simpa [hne]using h4
     have:=(key i hil hne x hxi (.inr hx)).1 h5
     omega)
    have e:j+1+(m-(j+1))=m:=by omega
    rw[e]at hc
    exact hc.symm
   ·rw[g2 x hx]
    refine hB x m hm fun i hil hxi=>?_
    have hne:i≠j:=fun e=>hx (e▸hxi)
    have:=hw i hil hxi
    simpa [hne]using this
def clo (es:List (List Nat)):List (List Nat):=es.foldl (fun acc e=>acc++[(e++e.flatMap fun d=>acc.getD d []).eraseDups]) []
def Jad (n:Nat) (es es':List (List Nat)):Bool:=(Gi n).all fun j=>((es.getD j []).all fun e=>(es'.getD j []).contains e) && (es'.getD j []).all fun e=>(es.getD j []).contains e || (es.getD j []).any fun d=>decide (d < j) && (es'.getD d []).contains e
theorem sched_clo {n:Nat}{es es':List (List Nat)}(h:Jad n es es'=true) {S:Nat→Bool}{is:List Nat}(hs:Sched n es S is):(∀ i,i < n→S i=true→∀ e∈es.getD i [],S e=true)→Sched n es' S is:=by
 simp only[Jad,GG,Gx,Ga,Gz,H7,decide_eq_true_eq,GQ]at h
 have up:∀ (S:Nat→Bool),(∀ i,i < n→S i=true→∀ e∈es.getD i [],S e=true)→∀ j,j < n→(∀ e∈es.getD j [],S e=true)→∀ e∈es'.getD j [],S e=true:=by
  intro S hcl j
  induction j using GZ with
  |_ j ih=>
   intro hj hd e he
   rcases (h j hj).2 e he with h1 | ⟨d,h1,h2,h3⟩
   ·exact hd e h1
   ·exact ih d h2 (by omega) (hcl d (by omega) (hd d h1)) e h3
 induction hs with
 |nil hn=>
  intro _
  refine .nil fun i hi hS=>?_
  obtain ⟨e,h1,h2⟩:=hn i hi hS
  exact ⟨e,(h i hi).1 e h1,h2⟩
 |cons hi hS hr _ ih=>
  rename_i S j is _
  intro hcl
  refine .cons hi hS (up S hcl j hi hr) (ih fun i hil hSi e he=>?_)
  simp only[Gz,beq_iff_eq]at hSi ⊢
  rcases hSi with h1 | h1
  ·exact .inl (hcl i hil h1 e he)
  ·subst h1; exact .inl (hr e he)
theorem Jf1 {es' : List (List Nat)} (hclo : Jad l.length es es' = true) (hm : P.follows .mixedOrders = true) (hord : KW l es' fs = true) (hv : ∀ j, j < l.length → HS P E (QI l j) (tst l v T j) (hh j) (v j) (hh (j + 1)) (XV fs j)) (h0 : hh 0 = H) (hfin : Ok P E n0 N Q k (tst l v T l.length) (hh l.length)) : Ok P E n0 N Q (.code (.dreg l es) :: k) T H := by
  intro m w a b cs kr rest hp hd hk
  simp only [Yc] at hk
  obtain ⟨c', kr', rfl, hc, hk'⟩ := hk
  obtain ⟨id, ops, rfl, h1, rfl⟩ := Jga hc
  obtain ⟨hl, hg⟩ := Xj _ _ h1
  have hln : ops.size = l.length := by simpa using hl.symm
  have hsch := JfL ops ops.size (w.tape w.drawn (.order b.fn id)) (Gn ops.size false) (by simp) (by simp)
  have hst := stepR_region_draw (P := P) (b := b) (a := a) (k := kr' ++ rest) (cs := cs) (w := w) (ops := ops) (id := id)
  simp only [Region.schedule, hm, GM, if_true, Region.linearise] at hst
  generalize Region.linearise.go .any ops ops.size (w.tape w.drawn (.order b.fn id)) (Gn ops.size false) [] = is at hsch hst
  have hS0 : (fun i => (Gn ops.size false).getD i false) = fun _ => false := by
    funext i
    simp only [Gs, Hd]
    split <;> rfl
  rw [hS0, hln] at hsch
  have hlts : ∀ i ∈ is, i < l.length := by
    clear hst
    generalize (fun _ => false : Nat → Bool) = S at hsch
    induction hsch with
    | nil _ => intro i hi; cases hi
    | cons h _ _ _ ih => intro i hi; rcases Gm.1 hi with h' | h'
                         · subst h'; exact h
                         · exact ih i h'
  have hor := Jbk hord
  have hsch := sched_clo hclo hsch fun _ _ h => by cases h
  have hrun := Jfv (n0 := n0) (N := N) (Q := Q) (k := k) hor hv hfin hsch T H (fun _ _ h => by cases h) ⟨rfl, fun _ _ => rfl, fun _ _ _ h => by cases h⟩ (fun x m hm hw => by
    have hc := Jc8 hv (x := x) (a := 0) m (by omega) (fun i _ h2 hxi => by
      have := (hw i (by omega) hxi).2 (by omega)
      cases this)
    rw [G5] at hc
    rw [hc, h0])
  have hs' : Sim E m H { w with drawn := w.drawn + 1 } := hp.sim.congr rfl
  have hx : Ext n0 m H w m H { w with drawn := w.drawn + 1 } := Ext.congr rfl ⟨rfl, rfl, rfl⟩
  refine Reach.step (.one hst) hx (hrun m _ a b cs (.inRegion ops is :: kr') rest ⟨hs', hp.tmps, hp.long⟩ (hd.ext hx) ?_)
  simp only [Yc]
  refine ⟨ops, is, kr', rfl, ⟨by simp, fun j i hj => ?_⟩, hk'⟩
  have hi := hlts i (Gl hj)
  obtain ⟨io, h2, h3⟩ := hg i (ops[i]'(by omega)) (by simp)
  exact ⟨ops[i]'(by omega), io, Gf (by omega), by simp [hj, QI, Gc, h2], h3⟩
abbrev Foot.no:Foot×Foot:=(.on [],.on [])
abbrev Foot.any:Foot×Foot:=(.all,.all)
theorem hs_val {io:IOper}{x:CV}(h:∀ H2,Val P E io T H2 x):HS P E io T H x H Foot.no:=
 ⟨fun _ _=>rfl,fun T2 H2 ha _=>⟨H2,fun y hy=>(by cases hy),fun _ _=>rfl,fun _ _ _ _ _ hok=>((h H2).congr ha).ok hok⟩⟩
theorem JdT {io:IOper}{T2:List CV}(h:agree io.rd T T2) (hg:GOk T io.guard):GOk T2 io.guard:=by
 obtain ⟨d,op,g⟩:=io
 rcases hg with h1 | ⟨s,want,h1,h4⟩
 ·exact .inl h1
 ·simp only at h1; subst h1
  exact .inr ⟨s,want,rfl,by rw[← (Jm h).1 s (by simp)]; exact h4⟩
theorem hs_op {io:IOper}{x:CV}{c:Cond}{H':List CObj}(hg:GOk T io.guard) (he:exec io.op T H=some (c,x,H')) (hc:c.holds):HS P E io T H x H' Foot.any:=by
 refine ⟨fun _ hn=>absurd trivial hn,fun T2 H2 ha hx=>?_⟩
 have hH:H2=H:=JcB fun y=>hx y trivial
 subst hH
 exact ⟨H',fun _ _=>rfl,fun _ hn=>absurd trivial hn,fun _ _ _ _ _ hok=>ok_op (JdT ha hg) (by rw[← Xw (Jm ha).2]; exact he) hc hok⟩
end
def stays:IOp→Bool
 |.mv _=>true
 |.bin _ _ _ _=>true
 |.slice _ _ _ _ _=>true
 |.len _ _=>true
 |.not _=>true
 |.neg _=>true
 |.conv _ _=>true
 |.pick _ _ _=>true
 |.build _ _=>true
 |.field _ _ _ _=>true
 |.faddr _ _=>true
 |.extract _ _=>true
 |.load _ _ _=>true
 |.iaddr _ _ _=>true
 |_=>false
theorem exSlice_nil {z:Nat}{x:CV}{lo hi:Int}{mx:Option Int}{r:Cond×CV}(h:Xx z [] x lo hi mx=some r) (H:List CObj):Xx z H x lo hi mx=some r:=by
 cases x <;> simp only[Xx,List.getElem?_nil,reduceCtorEq]at h ⊢ <;> exact h
theorem exec_nil {op:IOp}{T:List CV}{c:Cond}{x:CV}(hop:stays op=true) (h:exec op T []=some (c,x,[])) (H:List CObj):exec op T H=some (c,x,H):=by
 cases op <;> simp only[stays,GX]at hop
 case slice z y lo hi mx=>
  simp only[exec]at h ⊢
  split at h
  ·rename_i l hh m h1 h2 h3
   split at h
   ·rename_i c' v' h4
    rw[exSlice_nil h4 H]
    simp_all
   ·cases h
  ·cases h
 case len tk y=>
  simp only[exec]at h ⊢
  split at h <;> simp_all
 all_goals
  simp only[exec]at h ⊢
  repeat' split at h
  all_goals simp_all
def Jgb (b:Bool) (op:IOp) (T:List CV) (H:List CObj):Option (Cond×CV×List CObj):=
 if b=true then exec op T H else if stays op=true then (match exec op T []with | some (c,v,[])=>some (c,v,H) | _=>none) else none
def Qw (b:Bool):Foot×Foot:=if b then Foot.any else Foot.no
section
variable (P:Program) (E:Env) (n0:Nat) (N:Fr) (Q:Exit→List CV→List CObj→Prop)
def vdh (k:List KItem):List IOper→List Bool→List CV→List CObj→Prop
 |[],_,T,H=>Kn P E n0 N Q k T H
 |_::_,[],_,_=>False
 |⟨d,op,none⟩::l,b::bs,T,H=>match Jgb b op T H with
  |some (c,v,H')=>c.holds∧vdh k l bs (put T d v) H'
  |none=>∃ v H',HS P E ⟨d,op,none⟩ T H v H' (Qw b)∧vdh k l bs (put T d v) H'
 |⟨d,op,some g⟩::l,b::bs,T,H=>∃ v H',HS P E ⟨d,op,some g⟩ T H v H' (Qw b)∧vdh k l bs (put T d v) H'
def vdhR (r:Option (Cond×CV×List CObj)) (d:Option Nat) (op:IOp) (b:Bool) (k:List KItem) (l:List IOper) (bs:List Bool) (T:List CV) (H:List CObj):Prop:=
 match r with
 |some (c,v,H')=>c.holds∧vdh P E n0 N Q k l bs (put T d v) H'
 |none=>∃ v H',HS P E ⟨d,op,none⟩ T H v H' (Qw b)∧vdh P E n0 N Q k l bs (put T d v) H'
end
section
variable {P:Program}{E:Env}{n0:Nat}{N:Fr}{Q:Exit→List CV→List CObj→Prop}{H H':List CObj}{T:List CV}{k:List KItem}{l:List IOper}{es:List (List Nat)}{bs:List Bool}
theorem vh_nil:vdh P E n0 N Q k [] bs T H=Kn P E n0 N Q k T H:=propext (by cases bs <;> exact Gj)
theorem vh_op {d:Option Nat}{op:IOp}{b:Bool}:vdh P E n0 N Q k (⟨d,op,none⟩::l) (b::bs) T H=vdhR P E n0 N Q (Jgb b op T H) d op b k l bs T H:=propext Gj
theorem vdhR_some {d:Option Nat}{op:IOp}{b:Bool}{c:Cond}{v:CV}:vdhR P E n0 N Q (some (c,v,H')) d op b k l bs T H=(c.holds∧vdh P E n0 N Q k l bs (put T d v) H'):=propext Gj
theorem vdh_look {T':List CV}{H':List CObj}(hT:T=T') (hH:H=H'):vdh P E n0 N Q k l bs T H=vdh P E n0 N Q k l bs T' H':=by rw[hT,hH]
theorem vdhR_look {r r':Option (Cond×CV×List CObj)}{d:Option Nat}{op:IOp}{b:Bool}(h:r=r'):vdhR P E n0 N Q r d op b k l bs T H=vdhR P E n0 N Q r' d op b k l bs T H:=by rw[h]
attribute [congr] vdh_look vdhR_look
theorem Jby {b:Bool}{d:Option Nat}{op:IOp}{c:Cond}{v:CV}(he:Jgb b op T H=some (c,v,H')) (hc:c.holds):HS P E ⟨d,op,none⟩ T H v H' (Qw b):=by
 unfold Jgb at he
 split at he
 ·rename_i hb; subst hb
  exact hs_op (.inl rfl) he hc
 ·rename_i hb
  split at he
  ·rename_i hs
   split at he
   ·rename_i c' v' h1
    simp only[GV,GI]at he
    obtain ⟨rfl,rfl,rfl⟩:=he
    have:b=false:=by simpa using hb
    subst this
    exact hs_val fun H2=>.inr ⟨.inl rfl,.inl ⟨_,exec_nil hs h1 H2,hc⟩⟩
   ·cases he
  ·cases he
theorem vdh_vals:∀ (l:List IOper) (bs:List Bool) (T:List CV) (H:List CObj),vdh P E n0 N Q k l bs T H→l.length=bs.length→∃ (v:Nat→CV) (hh:Nat→List CObj),hh 0=H∧(∀ j,j < l.length→HS P E (QI l j) (tst l v T j) (hh j) (v j) (hh (j+1)) (XV (bs.map Qw) j))∧Kn P E n0 N Q k (tst l v T l.length) (hh l.length)
 |[],bs,T,H,h,_=>⟨fun _=>.un,fun _=>H,rfl,by simp,by rw[vh_nil]at h; exact h⟩
 |io::l,[],T,H,h,hl=>by simp at hl
 |io::l,b::bs,T,H,h,hl=>by
  have hex:∃ v0 H',HS P E io T H v0 H' (Qw b)∧vdh P E n0 N Q k l bs (put T io.dst v0) H':=by
   obtain ⟨d,op,g⟩:=io
   cases g with
   |none=>
    rw[vh_op]at h
    unfold vdhR at h
    split at h
    ·rename_i c v H' he
     exact ⟨v,H',Jby he h.1,h.2⟩
    ·exact h
   |some g=>exact h
  obtain ⟨v0,H',h1,h2⟩:=hex
  obtain ⟨v,hh,h0,h3,h4⟩:=vdh_vals l bs _ _ h2 (by simpa using hl)
  let v':Nat→CV:=fun j=>match j with | 0=>v0 | j+1=>v j
  let hh':Nat→List CObj:=fun j=>match j with | 0=>H | j+1=>hh j
  have key:∀ j,tst (io::l) v' T (j+1)=tst l v (put T io.dst v0) j:=by
   intro j
   induction j with
   |zero=>rfl
   |succ j ih=>rw[tst,ih]; rfl
  refine ⟨v',hh',rfl,fun j hj=>?_,?_⟩
  ·cases j with
   |zero=>
    have e:hh' (0+1)=H':=h0
    rw[e]; exact h1
   |succ j=>rw[key]; exact h3 j (by simpa using hj)
  ·rw[GJ,key]; exact h4
theorem Qt (bs:List Bool) (hm:P.follows .mixedOrders=true) (hord:(l.length == bs.length && (Jad l.length es (clo es) && KW l (clo es) (bs.map Qw)))=true) (h:vdh P E n0 N Q k l bs T H):Ok P E n0 N Q (.code (.dreg l es)::k) T H:=by
 simp only[Ga,beq_iff_eq]at hord
 obtain ⟨v,hh,h0,h1,h2⟩:=vdh_vals l bs T H h hord.1
 exact Jf1 hord.2.1 hm hord.2.2 h1 h0 (JB _ _ _ h2)
end
attribute [go_sem] Jgb stays vh_nil vh_op vdhR_some
end
section
section
variable (P:Program) (E:Env)
def vdk (K:List CV→List CObj→Prop):List IOper→List Bool→List CV→List CObj→Prop
 |[],_,T,H=>K T H
 |_::_,[],_,_=>False
 |⟨d,op,none⟩::l,b::bs,T,H=>match Jgb b op T H with
  |some (c,v,H')=>c.holds∧vdk K l bs (put T d v) H'
  |none=>∃ v H',HS P E ⟨d,op,none⟩ T H v H' (Qw b)∧vdk K l bs (put T d v) H'
 |⟨d,op,some g⟩::l,b::bs,T,H=>∃ v H',HS P E ⟨d,op,some g⟩ T H v H' (Qw b)∧vdk K l bs (put T d v) H'
def vdkR (r:Option (Cond×CV×List CObj)) (d:Option Nat) (op:IOp) (b:Bool) (K:List CV→List CObj→Prop) (l:List IOper) (bs:List Bool) (T:List CV) (H:List CObj):Prop:=
 match r with
 |some (c,v,H')=>c.holds∧vdk P E K l bs (put T d v) H'
 |none=>∃ v H',HS P E ⟨d,op,none⟩ T H v H' (Qw b)∧vdk P E K l bs (put T d v) H'
def leads (n0:Nat) (N:Fr) (Q:Exit→List CV→List CObj→Prop) (T':List CV) (H':List CObj) (T:List CV) (H:List CObj):Prop:=
 ∀ k,Ok P E n0 N Q k T' H'→Ok P E n0 N Q k T H
end
section
variable {P:Program}{E:Env}{n0:Nat}{N:Fr}{Q:Exit→List CV→List CObj→Prop}{H H':List CObj}{T T':List CV}{k:List KItem}{l:List IOper}{es:List (List Nat)}{bs:List Bool}{K:List CV→List CObj→Prop}
theorem vk_nil:vdk P E K [] bs T H=K T H:=propext (by cases bs <;> exact Gj)
theorem vk_op {d:Option Nat}{op:IOp}{b:Bool}:vdk P E K (⟨d,op,none⟩::l) (b::bs) T H=vdkR P E (Jgb b op T H) d op b K l bs T H:=propext Gj
theorem vdkR_some {d:Option Nat}{op:IOp}{b:Bool}{c:Cond}{v:CV}:vdkR P E (some (c,v,H')) d op b K l bs T H=(c.holds∧vdk P E K l bs (put T d v) H'):=propext Gj
theorem vdk_look {T':List CV}{H':List CObj}(hT:T=T') (hH:H=H'):vdk P E K l bs T H=vdk P E K l bs T' H':=by rw[hT,hH]
theorem vdkR_look {r r':Option (Cond×CV×List CObj)}{d:Option Nat}{op:IOp}{b:Bool}(h:r=r'):vdkR P E r d op b K l bs T H=vdkR P E r' d op b K l bs T H:=by rw[h]
attribute [congr] vdk_look vdkR_look
theorem vdk_vals:∀ (l:List IOper) (bs:List Bool) (T:List CV) (H:List CObj),vdk P E K l bs T H→l.length=bs.length→∃ (v:Nat→CV) (hh:Nat→List CObj),hh 0=H∧(∀ j,j < l.length→HS P E (QI l j) (tst l v T j) (hh j) (v j) (hh (j+1)) (XV (bs.map Qw) j))∧K (tst l v T l.length) (hh l.length)
 |[],bs,T,H,h,_=>⟨fun _=>.un,fun _=>H,rfl,by simp,by rw[vk_nil]at h; exact h⟩
 |io::l,[],T,H,h,hl=>by simp at hl
 |io::l,b::bs,T,H,h,hl=>by
  have hex:∃ v0 H',HS P E io T H v0 H' (Qw b)∧vdk P E K l bs (put T io.dst v0) H':=by
   obtain ⟨d,op,g⟩:=io
   cases g with
   |none=>
    rw[vk_op]at h
    unfold vdkR at h
    split at h
    ·rename_i c v H' he
     exact ⟨v,H',Jby he h.1,h.2⟩
    ·exact h
   |some g=>exact h
  obtain ⟨v0,H',h1,h2⟩:=hex
  obtain ⟨v,hh,h0,h3,h4⟩:=vdk_vals l bs _ _ h2 (by simpa using hl)
  let v':Nat→CV:=fun j=>match j with | 0=>v0 | j+1=>v j
  let hh':Nat→List CObj:=fun j=>match j with | 0=>H | j+1=>hh j
  have key:∀ j,tst (io::l) v' T (j+1)=tst l v (put T io.dst v0) j:=by
   intro j
   induction j with
   |zero=>rfl
   |succ j ih=>rw[tst,ih]; rfl
  refine ⟨v',hh',rfl,fun j hj=>?_,?_⟩
  ·cases j with
   |zero=>
    have e:hh' (0+1)=H':=h0
    rw[e]; exact h1
   |succ j=>rw[key]; exact h3 j (by simpa using hj)
  ·rw[GJ,key]; exact h4
theorem Jdm (hord:(l.length == bs.length && (Jad l.length es (clo es) && KW l (clo es) (bs.map Qw)))=true) (h:vdk P E (leads P E n0 N Q T' H') l bs T H) (hfin:Ok P E n0 N Q k T' H') {is:List Nat}(hs:Sched l.length es (fun _=>false) is):Ok P E n0 N Q (.ops (is.map (QI l))::k) T H:=by
 simp only[Ga,beq_iff_eq]at hord
 obtain ⟨v,hh,h0,hv,h2⟩:=vdk_vals l bs T H h hord.1
 have hsch:=sched_clo hord.2.1 hs fun _ _ h=>by cases h
 exact Jfv (Jbk hord.2.2) hv (h2 k hfin) hsch T H (fun _ _ h=>by cases h) ⟨rfl,fun _ _=>rfl,fun _ _ _ h=>by cases h⟩ (fun x m hm hw=>by
  have hc:=Jc8 hv (x:=x) (a:=0) m (by omega) (fun i _ h2 hxi=>by
   have:=(hw i (by omega) hxi).2 (by omega)
   cases this)
  rw[G5]at hc
  rw[hc,h0])
theorem ok_draw (hm : P.follows .mixedOrders = true) (h : ∀ is, Sched l.length es (fun _ => false) is → Ok P E n0 N Q (.ops (is.map (QI l)) :: k) T H) : Ok P E n0 N Q (.code (.dreg l es) :: k) T H := by
  intro m w a b cs kr rest hp hd hk
  simp only [Yc] at hk
  obtain ⟨c', kr', rfl, hc, hk'⟩ := hk
  obtain ⟨id, ops, rfl, h1, rfl⟩ := Jga hc
  obtain ⟨hl, hg⟩ := Xj _ _ h1
  have hln : ops.size = l.length := by simpa using hl.symm
  have hsch := JfL ops ops.size (w.tape w.drawn (.order b.fn id)) (Gn ops.size false) (by simp) (by simp)
  have hst := stepR_region_draw (P := P) (b := b) (a := a) (k := kr' ++ rest) (cs := cs) (w := w) (ops := ops) (id := id)
  simp only [Region.schedule, hm, GM, if_true, Region.linearise] at hst
  generalize Region.linearise.go .any ops ops.size (w.tape w.drawn (.order b.fn id)) (Gn ops.size false) [] = is at hsch hst
  have hS0 : (fun i => (Gn ops.size false).getD i false) = fun _ => false := by
    funext i
    simp only [Gs, Hd]
    split <;> rfl
  rw [hS0, hln] at hsch
  have hlts : ∀ i ∈ is, i < l.length := by
    clear hst h
    generalize (fun _ => false : Nat → Bool) = S at hsch
    induction hsch with
    | nil _ => intro i hi; cases hi
    | cons h _ _ _ ih => intro i hi; rcases Gm.1 hi with h' | h'
                         · subst h'; exact h
                         · exact ih i h'
  have hrun := h is hsch
  have hs' : Sim E m H { w with drawn := w.drawn + 1 } := hp.sim.congr rfl
  have hx : Ext n0 m H w m H { w with drawn := w.drawn + 1 } := Ext.congr rfl ⟨rfl, rfl, rfl⟩
  refine Reach.step (.one hst) hx (hrun m _ a b cs (.inRegion ops is :: kr') rest ⟨hs', hp.tmps, hp.long⟩ (hd.ext hx) ?_)
  simp only [Yc]
  refine ⟨ops, is, kr', rfl, ⟨by simp, fun j i hj => ?_⟩, hk'⟩
  have hi := hlts i (Gl hj)
  obtain ⟨io, h2, h3⟩ := hg i (ops[i]'(by omega)) (by simp)
  exact ⟨ops[i]'(by omega), io, Gf (by omega), by simp [hj, QI, Gc, h2], h3⟩
def YK (es:List (List Nat)) (j i:Nat):List (List Nat):=es.set j (i::es.getD j [])
theorem Y4 {es:List (List Nat)}{j i a:Nat}(hj:j < es.length):(YK es j i).getD a []=if a=j then i::es.getD j [] else es.getD a []:=by
 unfold YK
 simp only[Gc,Gw]
 by_cases h:j=a
 ·subst h; simp[hj]
 ·rw[if_neg h,if_neg fun e=>h e.symm]
theorem sched_add {n:Nat}{i j:Nat}(hj:j < es.length) {S:Nat→Bool}{is:List Nat}(h:Sched n es S is):S i=true→Sched n (YK es j i) S is:=by
 induction h with
 |nil hn=>
  intro hi
  refine .nil fun a ha hS=>?_
  obtain ⟨e,h1,h2⟩:=hn a ha hS
  refine ⟨e,?_,h2⟩
  rw[Y4 hj]
  split
  ·rename_i h; subst h; exact Hu _ h1
  ·exact h1
 |cons ha hS hr _ ih=>
  intro hi
  refine .cons ha hS (fun e he=>?_) (ih (by simp[hi]))
  rw[Y4 hj]at he
  split at he
  ·rename_i h; subst h
   rcases Gm.1 he with h | h
   ·rw[h]; exact hi
   ·exact hr e h
  ·exact hr e he
theorem JeR {n i j:Nat}(hij:i≠j) (hi:i < es.length) (hj:j < es.length) {S:Nat→Bool}{is:List Nat}(h:Sched n es S is):S i=false→S j=false→Sched n (YK es j i) S is∨Sched n (YK es i j) S is:=by
 induction h with
 |nil hn=>
  intro _ _
  refine .inl (.nil fun a ha hS=>?_)
  obtain ⟨e,h1,h2⟩:=hn a ha hS
  refine ⟨e,?_,h2⟩
  rw[Y4 hj]
  split
  ·rename_i h; subst h; exact Hu _ h1
  ·exact h1
 |cons ha hS hr hrest ih=>
  rename_i S a is
  intro h1 h2
  by_cases hai:a=i
  ·subst hai
   refine .inl (.cons ha hS (fun e he=>?_) (sched_add hj hrest (by simp)))
   rw[Y4 hj,if_neg hij]at he
   exact hr e he
  ·by_cases haj:a=j
   ·subst haj
    refine .inr (.cons ha hS (fun e he=>?_) (sched_add hi hrest (by simp)))
    rw[Y4 hi,if_neg hai]at he
    exact hr e he
   ·rcases ih (by simp[h1,Ne.symm hai]) (by simp[h2,Ne.symm haj]) with h | h
    ·exact .inl (.cons ha hS (fun e he=>by rw[Y4 hj,if_neg haj]at he; exact hr e he) h)
    ·exact .inr (.cons ha hS (fun e he=>by rw[Y4 hi,if_neg hai]at he; exact hr e he) h)
def swi (i j a:Nat):Nat:=if a=i then j else if a=j then i else a
theorem swi_lt {n i j a:Nat}(hi:i < n) (hj:j < n) (ha:a < n):swi i j a < n:=by
 unfold swi
 split
 ·exact hj
 ·split
  ·exact hi
  ·exact ha
theorem Jak {i j a:Nat}:swi i j (swi i j a)=a:=by
 unfold swi; split <;> split <;> simp_all
theorem sched_swap {n i j:Nat}{es2:List (List Nat)}(hi:i < n) (hj:j < n) (he:∀ a,a < n→es2.getD (swi i j a) []=(es.getD a []).map (swi i j)) {S:Nat→Bool}{is:List Nat}(h:Sched n es S is):Sched n es2 (fun a=>S (swi i j a)) (is.map (swi i j)):=by
 have hb:∀ a,a < n→swi i j a < n:=fun a ha=>swi_lt hi hj ha
 induction h with
 |nil hn=>
  refine .nil fun a ha hS=>?_
  obtain ⟨e,h1,h2⟩:=hn _ (hb a ha) hS
  refine ⟨swi i j e,?_,by rw[Jak]; exact h2⟩
  have:=he _ (hb a ha)
  rw[Jak]at this
  rw[this]; exact Hy h1
 |cons ha hS hr _ ih=>
  rename_i S a is _
  refine .cons (hb a ha) (by rw[Jak]; exact hS) (fun e hm=>?_) ?_
  ·rw[he a ha]at hm
   obtain ⟨e',h1,rfl⟩:=GL.1 hm
   rw[Jak]; exact hr e' h1
  ·have e:(fun b=>S (swi i j b) || b == swi i j a)=fun b=>S (swi i j b) || swi i j b == a:=by
    funext b
    congr 1
    by_cases h:b=swi i j a
    ·subst h; rw[Jak]; simp
    ·have:swi i j b≠a:=fun hh=>h (by rw[← hh,Jak])
     rw[beq_false_of_ne h,beq_false_of_ne this]
   rw[e]; exact ih
def swl (l:List IOper) (i j:Nat):List IOper:=(Gi l.length).map fun a=>QI l (swi i j a)
def swe (es:List (List Nat)) (i j:Nat):List (List Nat):=(Gi es.length).map fun a=>(es.getD (swi i j a) []).map (swi i j)
theorem swl_get {i j a:Nat}(ha:a < l.length):QI (swl l i j) a=QI l (swi i j a):=by
 unfold swl
 rw[QI,Gc]
 simp[ha]
def pairOk (l:List IOper) (es:List (List Nat)) (bs bs2:List Bool) (i j:Nat):Bool:=
 decide (i < j) && decide (j < l.length) && (es.length == l.length) &&
 (l.length == bs.length && (Jad l.length (YK es j i) (clo (YK es j i)) && KW l (clo (YK es j i)) (bs.map Qw))) &&
 ((swl l i j).length == bs2.length && (Jad (swl l i j).length (swe (YK es i j) i j) (clo (swe (YK es i j) i j)) && KW (swl l i j) (clo (swe (YK es i j) i j)) (bs2.map Qw)))
theorem vr_dregP (i j : Nat) (bs bs2 : List Bool) (T' : List CV) (H' : List CObj) (hm : P.follows .mixedOrders = true) (hord : pairOk l es bs bs2 i j = true) (h1 : vdk P E (leads P E n0 N Q T' H') l bs T H) (h2 : vdk P E (leads P E n0 N Q T' H') (swl l i j) bs2 T H) (hfin : Kn P E n0 N Q k T' H') : Ok P E n0 N Q (.code (.dreg l es) :: k) T H := by
  unfold pairOk at hord
  rw [Ga, Ga] at hord
  obtain ⟨⟨g0, g1⟩, g2⟩ := hord
  simp only [Ga, decide_eq_true_eq, beq_iff_eq] at g0
  obtain ⟨⟨a1, a2⟩, a3⟩ := g0
  refine ok_draw hm fun is hs => ?_
  rcases JeR (i := i) (j := j) (by omega) (by omega) (by omega) hs rfl rfl with h | h
  · exact Jdm g1 h1 (JB _ _ _ hfin) h
  · have hlen : (swl l i j).length = l.length := by simp [swl]
    have hsw := sched_swap (es2 := swe (YK es i j) i j) (i := i) (j := j) (by omega) a2 (fun a ha => by
      have hb : swi i j a < l.length := swi_lt (by omega) a2 (by assumption)
      have hl2 : (YK es i j).length = l.length := by simp [YK, a3]
      unfold swe
      rw [Gc]
      simp only [Gr, hl2]
      rw [List.getElem?_range hb]
      simp [Jak]) h
    rw [← hlen] at hsw
    have := Jdm g2 h2 (JB (k := k) _ _ hfin) hsw
    have e : (is.map (swi i j)).map (QI (swl l i j)) = is.map (QI l) := by
      rw [List.map_map]
      refine Hz fun a ha => ?_
      have hal : a < l.length := by
        clear this hsw
        generalize (fun _ => false : Nat → Bool) = S at hs
        clear h
        induction hs with
        | nil _ => cases ha
        | cons h _ _ _ ih => rcases Gm.1 ha with h' | h'
                             · subst h'; exact h
                             · exact ih h'
      have hb : swi i j a < l.length := swi_lt (by omega) a2 (by assumption)
      simp only [Function.comp]
      rw [swl_get hb, Jak]
    rw [e] at this
    exact this
theorem Jk (h:forget T T'):leads P E n0 N Q T' H T H:=fun _ hok=>KT (XY h) hok
theorem leads_ren {T1:List CV}{H1:List CObj}(ρ:List Nat) (hr:Jet ρ n0 H.length=true) (h:leads P E n0 N Q T1 H1 (JA ρ T) (Ke ρ H)):leads P E n0 N Q T1 H1 T H:=fun k hok=>ok_ren (Xp hr) (h k hok)
theorem QW (ρ:List Nat) (hr:Jet ρ n0 H.length=true) (hT:forget (JA ρ T) T') (hH:Ke ρ H=H'):leads P E n0 N Q T' H' T H:=leads_ren ρ hr (by rw[hH]; exact Jk hT)
end
attribute [go_sem] vk_nil vk_op vdkR_some
end
section
section
variable {P:Program}{E:Env}{n0:Nat}{N:Fr}{Q:Exit→List CV→List CObj→Prop}{H:List CObj}{T:List CV}{k:List KItem}
theorem vr_rfuncJ {f:IArg}{ps:List Nat}{x y:ICode}{g:Nat}{l1 l2:List CV}{xs:List (List CV)}{Γ:Type}(J:Nat→Γ→Prop) (hp:Nat→Γ→List CObj) (γ0:Γ) (hJ0:J 0 γ0) (hrnd:N.rnd=false) (hf:Kc T f=.fn g l1 l2) (hc1:Jv l1=true) (hc2:Jv l2=true) {F:IFunc}(hF:Jg P g=some F) (hnm:(P.funcs[g]?.map (·.name))≠some "runtime.NumGoroutine")
  (hit:Iter P g l1 l2 xs) (hxs:∀ c∈xs,c.length=ps.length) (h0:H=hp 0 γ0)
  (hround:∀ s γ c,J s γ→xs[s]? = some c→Kn P E H.length ⟨0,true⟩ (asgQ fun T2 H2=>Kn P E H.length ⟨0,true⟩ (Jde P E n0 N Q k T (fun H'=>∃ γ',J (s+1) γ'∧H'=hp (s+1) γ')) [.code y] T2 H2) [.code x] (pset T ps c) (hp s γ))
  (hdone:∀ γ,J xs.length γ→Kn P E n0 N Q k T (hp xs.length γ)):Ok P E n0 N Q (.code (.rfunc f ps x y)::k) T H:=by
 have hfn:∃ fn,P.funcs[g]? = some fn∧fn.body.isSome=true:=by
  unfold Jg at hF
  split at hF
  ·rename_i fn hfn
   split at hF
   ·rename_i c hb
    exact ⟨fn,hfn,by rw[hb]; rfl⟩
   ·cases hF
  ·cases hF
 obtain ⟨fn,hfn,hbd⟩:=hfn
 refine ok_rfunc (fun s H'=>∃ γ,J s γ∧H'=hp s γ) hrnd hf hc1 hc2 hfn hbd (fun e=>hnm (by rw[hfn,← e]; rfl)) hit hxs ⟨γ0,hJ0,h0⟩ (fun s Hs c hI hc=>?_) (fun H' ⟨γ,hJ,hI⟩=>by rw[hI]; exact JB _ _ _ (hdone γ hJ))
 obtain ⟨γ,hJ,rfl⟩:=hI
 refine (JB _ _ _ (hround s γ c hJ hc)).mono fun e T2 H2 hq=>?_
 cases e with
 |normal=>
  refine (JB _ _ _ hq).mono fun e T3 H3 hq3=>?_
  cases e with
  |normal=>exact hq3
  |ret=>exact ok_ret hq3
  |exit id=>
   refine ok_exit ?_
   simp only[Jde,Jcf]at hq3
   split <;> rename_i hx <;> rw[hx]at hq3
   ·exact JB _ _ _ hq3
   ·exact hq3
  |goto l=>exact hq3.elim
  |panic c=>exact hq3.elim
  |outgrown=>exact hq3.elim
 |ret=>exact hq.elim
 |exit id=>exact hq.elim
 |goto l=>exact hq.elim
 |panic c=>exact hq.elim
 |outgrown=>exact hq.elim
end
section
variable {P:Program}{E:Env}{n0:Nat}{N:Fr}{Q:Exit→List CV→List CObj→Prop}{H:List CObj}{T:List CV}{k:List KItem}{l:List IOper}{bs:List Bool}{K:List CV→List CObj→Prop}
theorem hs_f {d:Option Nat}{g:Option (Nat×Bool)}{f:Nat}{as:List IArg}{v:CV}(hg:GOk T g) (hcall:Fn P f (as.map (Kc T)) v):HS P E ⟨d,.call f as,g⟩ T H v H Foot.no:=
 hs_val fun H2=>.inr ⟨hg,.inr (.inl ⟨f,as,rfl,hcall E H2⟩)⟩
theorem Jaz {d:Option Nat}{g:Option (Nat×Bool)}{f:Nat}{as:List IArg}{v:CV}{H':List CObj}(hg:GOk T g) (hcall:CallsC P E f (as.map (Kc T)) H fun v2 H2=>v2=v∧H2=H'):HS P E ⟨d,.call f as,g⟩ T H v H' Foot.any:=by
 refine ⟨fun _ hn=>absurd trivial hn,fun T2 H2 ha hx=>?_⟩
 have hH:H2=H:=JcB fun y=>hx y trivial
 subst hH
 have hT:as.map (Kc T)=as.map (Kc T2):=X3 (Jm ha).2
 refine ⟨H',fun _ _=>rfl,fun _ hn=>absurd trivial hn,fun _ _ _ _ _ hok=>Jf2 (JdT ha hg) (by rw[← hT]; exact hcall) ?_⟩
 rintro v2 H2 ⟨rfl,rfl⟩
 exact hok
theorem vh_f {d:Option Nat}{f:Nat}{as:List IArg}{v:CV}(hcall:Fn P f (as.map (Kc T)) v) (h:vdh P E n0 N Q k l bs (put T d v) H):vdhR P E n0 N Q none d (.call f as) false k l bs T H:=
 ⟨v,H,hs_f (.inl rfl) hcall,h⟩
theorem vk_f {d:Option Nat}{f:Nat}{as:List IArg}{v:CV}(hcall:Fn P f (as.map (Kc T)) v) (h:vdk P E K l bs (put T d v) H):vdkR P E none d (.call f as) false K l bs T H:=
 ⟨v,H,hs_f (.inl rfl) hcall,h⟩
theorem vk_c {d:Option Nat}{f:Nat}{as:List IArg}{v:CV}{H':List CObj}(hcall:CallsC P E f (as.map (Kc T)) H fun v2 H2=>v2=v∧H2=H') (h:vdk P E K l bs (put T d v) H'):vdkR P E none d (.call f as) true K l bs T H:=
 ⟨v,H',Jaz (.inl rfl) hcall,h⟩
end
section
variable (P:Program) (E:Env) (n0:Nat) (N:Fr) (Q:Exit→List CV→List CObj→Prop)
def vdf (k:List KItem):List IOper→List (Foot×Foot)→List CV→List CObj→Prop
 |[],_,T,H=>Kn P E n0 N Q k T H
 |_::_,[],_,_=>False
 |io::l,f::fs,T,H=>∃ v H',HS P E io T H v H' f∧vdf k l fs (put T io.dst v) H'
end
section
variable {P:Program}{E:Env}{n0:Nat}{N:Fr}{Q:Exit→List CV→List CObj→Prop}{H:List CObj}{T:List CV}{k:List KItem}{l:List IOper}{es:List (List Nat)}
theorem vdf_vals:∀ (l:List IOper) (fs:List (Foot×Foot)) (T:List CV) (H:List CObj),vdf P E n0 N Q k l fs T H→l.length=fs.length→∃ (v:Nat→CV) (hh:Nat→List CObj),hh 0=H∧(∀ j,j < l.length→HS P E (QI l j) (tst l v T j) (hh j) (v j) (hh (j+1)) (XV fs j))∧Kn P E n0 N Q k (tst l v T l.length) (hh l.length)
 |[],fs,T,H,h,_=>⟨fun _=>.un,fun _=>H,rfl,by simp,by cases fs <;> exact h⟩
 |io::l,[],T,H,h,hl=>by simp at hl
 |io::l,f::fs,T,H,h,hl=>by
  obtain ⟨v0,H',h1,h2⟩:=h
  obtain ⟨v,hh,h0,h3,h4⟩:=vdf_vals l fs _ _ h2 (by simpa using hl)
  let v':Nat→CV:=fun j=>match j with | 0=>v0 | j+1=>v j
  let hh':Nat→List CObj:=fun j=>match j with | 0=>H | j+1=>hh j
  have key:∀ j,tst (io::l) v' T (j+1)=tst l v (put T io.dst v0) j:=by
   intro j
   induction j with
   |zero=>rfl
   |succ j ih=>rw[tst,ih]; rfl
  refine ⟨v',hh',rfl,fun j hj=>?_,?_⟩
  ·cases j with
   |zero=>
    have e:hh' (0+1)=H':=h0
    rw[e]; exact h1
   |succ j=>rw[key]; exact h3 j (by simpa using hj)
  ·rw[GJ,key]; exact h4
theorem YL (fs:List (Foot×Foot)) (hm:P.follows .mixedOrders=true) (hord:(l.length == fs.length && (Jad l.length es (clo es) && KW l (clo es) fs))=true) (h:vdf P E n0 N Q k l fs T H):Ok P E n0 N Q (.code (.dreg l es)::k) T H:=by
 simp only[Ga,beq_iff_eq]at hord
 obtain ⟨v,hh,h0,h1,h2⟩:=vdf_vals l fs T H h hord.1
 exact Jf1 hord.2.1 hm hord.2.2 h1 h0 (JB _ _ _ h2)
theorem hs_new {d:Option Nat}{f:Nat}{as:List IArg}{id:Nat}{ob:CObj}{mk:Nat→CV}(hlen:H.length=id) (hcall:∀ H2:List CObj,CallsC P E f (as.map (Kc T)) H2 fun v2 H3=>v2=mk H2.length∧H3=H2++[ob]) :
  HS P E ⟨d,.call f as,none⟩ T H (mk id) (H++[ob]) (.on [0],.on [0,id+1]):=by
 subst hlen
 refine ⟨fun x hx=>?_,fun T2 H2 ha hx=>?_⟩
 ·simp only[Foot.has,Gm,G8,or_false,not_or]at hx
  cases x with
  |zero=>exact absurd rfl hx.1
  |succ x=>
   simp only[hat,GI,and_true]
   have hne:x≠H.length:=fun e=>hx.2 (by rw[e])
   rcases Ho x H.length with h | h
   ·rw[Gv h]
   ·rw[Gh (by simp; omega),Gh h]
 ·have hl:H2.length=H.length:=by
   have:=hx 0 (by simp[Foot.has])
   simpa [hat]using this
  have hT:as.map (Kc T)=as.map (Kc T2):=X3 (Jm ha).2
  refine ⟨H2++[ob],fun x hx=>?_,fun x hx=>?_,fun _ _ _ _ _ hok=>Jf2 (.inl rfl) (by rw[← hT]; exact hcall H2) ?_⟩
  ·simp only[Foot.has,Gm,G8,or_false]at hx
   rcases hx with rfl | rfl
   ·simp[hat,hl]
   ·simp only[hat,GI,and_true]
    rw[← hl,Gq (Gd _),hl,Gq (Gd _)]
  ·simp only[Foot.has,Gm,G8,or_false,not_or]at hx
   cases x with
   |zero=>exact absurd rfl hx.1
   |succ x=>
    simp only[hat,GI,and_true]
    have hne:x≠H2.length:=fun e=>hx.2 (by rw[e,hl])
    rcases Ho x H2.length with h | h
    ·rw[Gv h]
    ·rw[Gh (by simp; omega),Gh h]
  ·rintro v2 H3 ⟨rfl,rfl⟩
   rw[hl]; exact hok
theorem hs_ld {d:Option Nat}{ag:Bool}{n:Nat}{a:IArg}{id i off:Nat}{c:Cond}{x:CV}(ha:Kc T a=.ptr id i off) (he:exec (.load ag n a) T H=some (c,x,H)) (hc:c.holds) :
  HS P E ⟨d,.load ag n a,none⟩ T H x H (.on [id+1],.on []):=by
 refine ⟨fun _ _=>rfl,fun T2 H2 hag hx=>⟨H2,fun y hy=>(by cases hy),fun _ _=>rfl,fun _ _ _ _ _ hok=>?_⟩⟩
 have hH:H2[id]? = H[id]?:=by
  have:=hx (id+1) (by simp[Foot.has])
  simpa [hat]using this
 have hT:Kc T a=Kc T2 a:=Ju (Jm hag).2
 have he2:exec (.load ag n a) T2 H2=some (c,x,H2):=by
  simp only[exec,ha]at he
  simp only[exec,← hT,ha,hH]
  split at he
  ·split at he
   ·rename_i h1
    simp only[GV,GI]at he
    obtain ⟨rfl,rfl,_⟩:=he
    simp[h1]
   ·rename_i h1
    simp only[GV,GI]at he
    obtain ⟨rfl,rfl,_⟩:=he
    simp[h1]
  ·cases he
 exact ok_op (.inl rfl) he2 hc hok
theorem hs_any {io:IOper}{x:CV}{c:Cond}{H':List CObj}(hg:GOk T io.guard) (he:exec io.op T H=some (c,x,H')) (hc:c.holds):HS P E io T H x H' Foot.any:=hs_op hg he hc
theorem hs_all {d:Option Nat}{op:IOp}{x:CV}{c:Cond}(he:∀ H2,exec op T H2=some (c,x,H2)) (hc:c.holds):HS P E ⟨d,op,none⟩ T H x H Foot.no:=
 hs_val fun H2=>.inr ⟨.inl rfl,.inl ⟨_,he H2,hc⟩⟩
theorem hs_row {d:Option Nat}{z n:Nat}{zero:List CV}{ps:List (Nat×IArg)}(els:List (List CV)) (hcl:Jv ((IOp.bslice z n zero ps).rd.map fun s=>T.getD s .un)=true) (he:XO T z (GH n zero) ps=some els) (hn:els.length=n) (hc:Jw els=true):HS P E ⟨d,.bslice z n zero ps,none⟩ T H (.rslc z els none) H Foot.no:=by
 refine hs_val fun H2=>.inr ⟨.inl rfl,.inr (.inr ⟨hcl,rfl,.tt,.slc 0 0 n (some n),[.arr z els],0,z,els,?_,trivial,rfl,hc,?_⟩)⟩
 ·simp[exec,he]
 ·subst hn; simp[frz]
theorem Yt {d:Option Nat}{op:IOp}{x:CV}{c:Cond}(hop:stays op=true) (he:exec op T []=some (c,x,[])) (hc:c.holds):HS P E ⟨d,op,none⟩ T H x H Foot.no:=
 hs_val fun H2=>.inr ⟨.inl rfl,.inl ⟨_,exec_nil hop he H2,hc⟩⟩
end
section
variable {P:Program}{E:Env}{n0:Nat}{N:Fr}{Q:Exit→List CV→List CObj→Prop}{H:List CObj}{T:List CV}{k:List KItem}{l:List IOper}{bs:List Bool}
theorem vh_all {d:Option Nat}{op:IOp}(x:CV) {c:Cond}(he:∀ H2,exec op T H2=some (c,x,H2)) (hc:c.holds) (h:vdh P E n0 N Q k l bs (put T d x) H):vdhR P E n0 N Q none d op false k l bs T H:=
 ⟨x,H,hs_all he hc,h⟩
theorem JbJ {d:Option Nat}{z n:Nat}{zero:List CV}{ps:List (Nat×IArg)}(els:List (List CV)) (hcl:Jv ((IOp.bslice z n zero ps).rd.map fun s=>T.getD s .un)=true) (he:XO T z (GH n zero) ps=some els) (hn:els.length=n) (hc:Jw els=true) (h:vdh P E n0 N Q k l bs (put T d (.rslc z els none)) H):vdhR P E n0 N Q none d (.bslice z n zero ps) false k l bs T H:=
 ⟨_,H,hs_row els hcl he hn hc,h⟩
end
theorem KC {ρ:List Nat}{id j:Nat}{els:List (List CV)}(h:ren ρ (.slc id 0 els.length none)=.slc j 0 els.length none):ren ρ (KN id els)=KN j els:=by
 cases els with
 |nil=>rfl
 |cons e l=>simpa [KN]using h
end
section
def Q9:List (Nat×CV)→Nat→CV
 |[],_=>.un
 |p::l,i=>if i=p.1 then p.2 else Q9 l i
def mkTF (al:List (Nat×CV)):Nat→Nat→List CV
 |0,_=>[]
 |n+1,i=>Q9 al i::mkTF al n (i+1)
def mkT (n:Nat) (al:List (Nat×CV)):List CV:=mkTF al n 0
def zipA:Nat→List CV→List (Nat×CV)
 |_,[]=>[]
 |i,c::l=>(i,c)::zipA (i+1) l
theorem mkTF_get {al:List (Nat×CV)}:∀ (n i j:Nat),(mkTF al n i)[j]? = if j < n then some (Q9 al (i+j)) else none
 |0,i,j=>by simp[mkTF]
 |n+1,i,0=>by simp[mkTF]
 |n+1,i,j+1=>by
  simp only[mkTF,Hr,mkTF_get n (i+1) j]
  rw[show i+1+j=i+(j+1) by omega]
  simp
theorem mkT_get? {n j:Nat}{al:List (Nat×CV)}:(mkT n al)[j]? = if j < n then some (Q9 al j) else none:=by
 rw[mkT,mkTF_get]; simp
theorem mkT_get {n i:Nat}{al:List (Nat×CV)}(h:i < n):(mkT n al).getD i .un=Q9 al i:=by
 rw[Gc,mkT_get?,if_pos h]; rfl
theorem mkT_set {n d:Nat}{v:CV}{al:List (Nat×CV)}:(mkT n al).set d v=mkT n ((d,v)::al):=by
 refine GD fun j=>?_
 rw[Gw,mkT_get?,mkT_get?]
 have hl:(mkT n al).length=n:=by
  have:∀ m i,(mkTF al m i).length=m:=by
   intro m
   induction m with
   |zero=>intro i; rfl
   |succ m ih=>intro i; simp[mkTF,ih]
  exact this n 0
 rw[hl]
 by_cases h:d=j
 ·subst h; simp[Q9]
 ·have h':j≠d:=fun e=>h e.symm
  simp[Q9,h,h']
theorem mkT_ext {n:Nat}{T:List CV}{al:List (Nat×CV)}(hl:T.length=n) (h:∀ j,j < n→T.getD j .un=Q9 al j):T=mkT n al:=by
 refine GD fun j=>?_
 rw[mkT_get?]
 by_cases hj:j < n
 ·have:=h j hj
  rw[Gc,Gb (by omega)]at this
  rw[if_pos hj,← this,Gb (by omega)]; rfl
 ·rw[if_neg hj,Gh (by omega)]
theorem alook_zip:∀ (l:List CV) (i j:Nat),i≤j→Q9 (zipA i l) j=l.getD (j-i) .un
 |[],i,j,_=>by simp[zipA,Q9]
 |c::l,i,j,h=>by
  simp only[zipA,Q9]
  by_cases e:j=i
  ·subst e; simp
  ·rw[if_neg e,alook_zip l (i+1) j (by omega),show j-i=(j-(i+1))+1 by omega,HV]
theorem mkT_start {n:Nat}{args:List CV}(h:args.length≤n):args++GH (n-args.length) .un=mkT n (zipA 0 args):=by
 refine mkT_ext (by simp; omega) fun j hj=>?_
 rw[alook_zip args 0 j (GA _),Nat.sub_zero]
 simp only[Gc]
 by_cases hl:j < args.length
 ·rw[Gv hl]
 ·rw[Gq (by omega),List.getElem?_replicate,Gh (l:=args) (by omega)]
  split <;> rfl
def Jay (al:List (Nat×CV)):List (Nat×CV)→Prop
 |[]=>True
 |p::l=>Q9 al p.1=p.2∧Jay al l
theorem Je9 {al:List (Nat×CV)}:∀ {l:List (Nat×CV)}(j:Nat),Jay al l→Q9 l j=.un∨Q9 al j=Q9 l j
 |[],j,_=>.inl rfl
 |p::l,j,h=>by
  simp only[Q9]
  split
  ·rename_i e; subst e; exact .inr h.1
  ·exact Je9 j h.2
theorem Xv {n:Nat}{al l:List (Nat×CV)}(h:Jay al l):forget (mkT n al) (mkT n l):=by
 have:∀ m i,forget (mkTF al m i) (mkTF l m i):=by
  intro m
  induction m with
  |zero=>intro i; trivial
  |succ m ih=>intro i; exact ⟨Je9 i h,ih (i+1)⟩
 exact this n 0
theorem Ja3 {id z n:Nat}{els:List (List CV)}{al:List (Nat×CV)}:JS id z els (mkT n al)=mkT n (al.map fun p=>(p.1,frz id z els p.2)):=by
 have hlk:∀ (al:List (Nat×CV)) i,frz id z els (Q9 al i)=Q9 (al.map fun p=>(p.1,frz id z els p.2)) i:=by
  intro al i
  induction al with
  |nil=>rfl
  |cons p l ih=>
   simp only[Q9,GK]
   split
   ·rfl
   ·exact ih
 have:∀ m i,JS id z els (mkTF al m i)=mkTF (al.map fun p=>(p.1,frz id z els p.2)) m i:=by
  intro m
  induction m with
  |zero=>intro i; rfl
  |succ m ih=>intro i; simp only[mkTF,JS,ih,hlk]
 exact this n 0
theorem JaW {ρ:List Nat}{n:Nat}{al:List (Nat×CV)}:JA ρ (mkT n al)=mkT n (al.map fun p=>(p.1,ren ρ p.2)):=by
 have hlk:∀ (al:List (Nat×CV)) i,ren ρ (Q9 al i)=Q9 (al.map fun p=>(p.1,ren ρ p.2)) i:=by
  intro al i
  induction al with
  |nil=>rfl
  |cons p l ih=>
   simp only[Q9,GK]
   split
   ·rfl
   ·exact ih
 have:∀ m i,JA ρ (mkTF al m i)=mkTF (al.map fun p=>(p.1,ren ρ p.2)) m i:=by
  intro m
  induction m with
  |zero=>intro i; rfl
  |succ m ih=>intro i; simp only[mkTF,JA,ih,hlk]
 exact this n 0
section
variable {P:Program}{E:Env}{n0:Nat}{N:Fr}{Q:Exit→List CV→List CObj→Prop}{H:List CObj}{T:List CV}{k:List KItem}
theorem KV {f:Nat}{F:IFunc}{args:List CV}{v:CV}(hF:Jg P f=some F) (ha:Jv args=true) (hv:v.closed=true) (hn:args.length≤F.ntmps) (h:∀ n,vrun0 P Env.none 0 ⟨n,false⟩ (retQ F.results fun v' _=>v'=v) [.code F.body] (mkT F.ntmps (zipA 0 args)) []):Fn P f args v:=
 Jb hF ha hv fun n=>by rw[mkT_start hn]; exact h n
theorem Yp {d:Option Nat}{g:Option (Nat×Bool)}{f:Nat}{as:List IArg}{l:List IOper}{args:List CV}{v:CV}(hcall:Fn P f args v) (ha:as.map (Kc T)=args) (hg:GOk T g) (h:Kn P E n0 N Q (.ops l::k) (put T d v) H):Ok P E n0 N Q (.ops (⟨d,.call f as,g⟩::l)::k) T H:=
 JV hg (by rw[ha]; exact hcall) h
theorem vr_fvS {d:Option Nat}{g:Option (Nat×Bool)}{x:IArg}{f:Nat}{l1 l2:List CV}{xs:List IArg}{l:List IOper}{args:List CV}{v:CV}{F:IFunc}(hF:Jg P f=some F) (hnm:(P.funcs[f]?.map (·.name))≠some "runtime.NumGoroutine")
  (hcall:Fn P f (l1++args++l2) v) (hx:Kc T x=.fn f l1 l2) (ha:xs.map (Kc T)=args) (hg:GOk T g) (h:Kn P E n0 N Q (.ops l::k) (put T d v) H):Ok P E n0 N Q (.ops (⟨d,.callv x xs,g⟩::l)::k) T H:=
 vr_fv hg hx hF hnm (by rw[ha]; exact hcall) h
theorem vr_fgB {d:Option Nat}{g:Option (Nat×Bool)}{f:Nat}{as:List IArg}{l:List IOper}{b:Bool}(hg:GOk T g) (hcall:Fn P f (as.map (Kc T)) (.bool b)) (h:∀ B,b=B→Kn P E n0 N Q (.ops l::k) (put T d (.bool B)) H):Ok P E n0 N Q (.ops (⟨d,.call f as,g⟩::l)::k) T H:=JV hg hcall (h b rfl)
theorem vr_fvSB {d:Option Nat}{g:Option (Nat×Bool)}{x:IArg}{f:Nat}{l1 l2:List CV}{xs:List IArg}{l:List IOper}{args:List CV}{b:Bool}{F:IFunc}(hF:Jg P f=some F) (hnm:(P.funcs[f]?.map (·.name))≠some "runtime.NumGoroutine")
  (hcall:Fn P f (l1++args++l2) (.bool b)) (hx:Kc T x=.fn f l1 l2) (ha:xs.map (Kc T)=args) (hg:GOk T g) (h:∀ B,b=B→Kn P E n0 N Q (.ops l::k) (put T d (.bool B)) H):Ok P E n0 N Q (.ops (⟨d,.callv x xs,g⟩::l)::k) T H:=
 vr_fvS hF hnm hcall hx ha hg (h b rfl)
theorem JdU {T:List CV}:GOk T none:=.inl rfl
theorem gokS {T:List CV}{s:Nat}{want:Bool}(h:Kc T (.s s)=.bool want):GOk T (some (s,want)):=gok h
end
attribute [go_sem] mkT_get mkT_set Q9 zipA Ja3 JaW Jay
end
end Go.Cm
end
end
