/-
  A part of the proof. Conditions: none.
-/
import Derived.Test.YtaiboeciecfgoaaGreatDoorUP43
import Derived.Test.YtaiboeciecfgoaaGreatDoorUP48
set_option linter.unusedSimpArgs false
set_option linter.unusedVariables false
open Bool renaming false_eq_true→Gb,and_eq_false_iff→Gf,or_eq_false_iff→Gg,and_eq_true→Gh,not_false→Gi,false_and→Gj,true_and→Gl,not_true→Gm,and_true→Gn,true_or→Gp
open List renaming map_cons→Gc,map_nil→Gd,take_succ_cons→Gq,length_cons→Gr,all_eq_true→Gs,length_nil→Gt,take_zero→Gu,drop_zero→Gv,all_cons→Gw,all_nil→Gx
open Go.Proofs.Tryz renaming prog→Ga
noncomputable section
section
set_option maxRecDepth 100000
open Go.Proofs Go.RowKit
namespace Go.Cm
def wkEls:List (List CV)→List (List CV)→Prop
 |[],[]=>True
 |e::l,e'::l'=>wks e e'∧wkEls l l'
 |_,_=>False
theorem wkEls_len:∀ {l l':List (List CV)},wkEls l l'→l.length=l'.length
 |[],[],_=>rfl
 |e::l,e'::l',h=>by simp[wkEls_len h.2]
 |[],_::_,h=>h.elim
 |_::_,[],h=>h.elim
theorem wks_len:∀ {l l':List CV},wks l l'→l.length=l'.length
 |[],[],_=>rfl
 |e::l,e'::l',h=>by simp[wks_len h.2]
 |[],_::_,h=>h.elim
 |_::_,[],h=>h.elim
theorem relAt_wk {imm:Nat→Nat→Option Value}{R:Nat→Option Value}:∀ {l l':List CV}{o:Nat},wks l l'→Jb9 imm l R o→Jb9 imm l' R o
 |[],[],_,_,h=>h
 |c::l,c'::l',o,hw,h=>by
  simp only[Jb9]at h ⊢
  obtain ⟨⟨r,h1,h2⟩,h3⟩:=h
  exact ⟨⟨r,h1,hw.1 _ _ _ h2⟩,relAt_wk hw.2 h3⟩
 |[],_::_,_,h,_=>h.elim
 |_::_,[],_,h,_=>h.elim
theorem relEls_wk {imm:Nat→Nat→Option Value}{z:Nat}{R:Nat→Option Value}:∀ {l l':List (List CV)}{o:Nat},wkEls l l'→Qu imm z l R o→Qu imm z l' R o
 |[],[],_,_,h=>h
 |e::l,e'::l',o,hw,h=>by
  simp only[Qu]at h ⊢
  exact ⟨by rw[← wks_len hw.1]; exact h.1,relAt_wk hw.1 h.2.1,relEls_wk hw.2 h.2.2⟩
 |[],_::_,_,h,_=>h.elim
 |_::_,[],_,h,_=>h.elim
theorem wk_els {z:Nat}{els els':List (List CV)}(h:wkEls els els'):wk (.rslc z els none) (.rslc z els' none):=by
 intro own imm v hv
 simp only[rel]at hv ⊢
 have hl:=wkEls_len h
 rcases hv with ⟨_,rfl,b,rfl⟩ | ⟨B,o,c,rfl,h2,h3,h4⟩
 ·left
  refine ⟨.inl trivial,?_,b,rfl⟩
  cases els' with
  |nil=>rfl
  |cons a l=>simp at hl
 ·right
  exact ⟨B,o,c,by rw[hl],by omega,h3,relEls_wk h h4⟩
theorem wks_rels2 {own:List Own}{imm:Nat→Nat→Option Value}:∀ {l l':List CV}{vs:List Value},wks l l'→JE own imm l vs→JE own imm l' vs
 |[],[],_,_,h=>h
 |c::l,c'::l',_,hw,h=>by
  simp only[JE]at h ⊢
  obtain ⟨r,rs,e,h1,h2⟩:=h
  exact ⟨r,rs,e,hw.1 _ _ _ h1,wks_rels2 hw.2 h2⟩
 |[],_::_,_,h,_=>h.elim
 |_::_,[],_,h,_=>h.elim
theorem Fn.wk {P:Program}{f:Nat}{args args':List CV}{v:CV}(h:Fn P f args' v) (hw:wks args args'):Fn P f args v:=
 fun E H m w vs hs hv=>h E H m w vs hs (wks_rels2 hw hv)
def Nd.nv (x:Nd):List CV:=[.int .u8 x.k,S x.text,.int .i64 x.n,(match x.kids with | []=>.nils | _::_=>.rslc 1 (iz x.kids) none),.int .i64 x.pl]
def Tr.nv (t:Tr):CV:=.agg [.rslc 5 (t.nodes.map Nd.nv) none,.rslc 1 (iz t.items) none]
theorem Nd.nv_wk (x:Nd):wks x.nv x.cv:=by
 obtain ⟨k,te,n,ks,p⟩:=x
 refine ⟨wk.refl _,wk.refl _,wk.refl _,?_,wk.refl _,trivial⟩
 cases ks with
 |nil=>exact wk.nils
 |cons a l=>exact wk.refl _
theorem ndv_wk:∀ l:List Nd,wkEls (l.map Nd.nv) (ndz l)
 |[]=>trivial
 |x::l=>⟨x.nv_wk,ndv_wk l⟩
theorem Tr.nv_wk (t:Tr):wk t.nv t.cv:=Jdi ⟨wk_els (ndv_wk t.nodes),wk.refl _,trivial⟩
def inB64 (x:Int):Bool:=decide (-9223372036854775808≤x) && decide (x≤9223372036854775807)
theorem Jc5 {x:Int}(h:inB64 x=true):InR .i64 x:=by
 unfold inB64 at h
 rw[Gh,decide_eq_true_eq,decide_eq_true_eq]at h
 exact inr64 h.1 h.2
def Nd.fitB (x:Nd):Bool:=decide (x.k < 256) && (decide (x.text.length≤60) && (inB64 x.n && (decide (x.kids.length≤30) && (x.kids.all inB64 && inB64 x.pl))))
def Tr.fitB (t:Tr):Bool:=decide (t.nodes.length≤1400) && (decide (t.items.length≤40) && (t.nodes.all Nd.fitB && t.items.all inB64))
theorem Jco {t:Tr}(h:t.fitB=true):t.Fit:=by
 simp only[Tr.fitB,Gh,decide_eq_true_eq,Gs]at h
 refine ⟨h.1,h.2.1,fun x hx=>?_,fun i hi=>Jc5 (h.2.2.2 i hi)⟩
 have h2:=h.2.2.1 x hx
 simp only[Nd.fitB,Gh,decide_eq_true_eq,Gs]at h2
 exact ⟨h2.1,h2.2.1,Jc5 h2.2.2.1,h2.2.2.2.1,fun i hi=>Jc5 (h2.2.2.2.2.1 i hi),Jc5 h2.2.2.2.2.2⟩
theorem Jcm {t:Tr}{o:List Int}(h:chk t=0) (ho:JA (JF t.nodes) []=some o):GoodT t o:=by
 obtain ⟨o',g⟩:=(Jda t).1 h
 have:=g.ord.h
 rw[ho]at this
 cases this
 exact g
def vt1:Tr:=⟨[⟨60,[],0,[],14⟩,⟨42,[120],0,[],20⟩,⟨3,[121],0,[],24⟩,⟨1,[],1,[],28⟩,⟨13,[],0,[2,3],26⟩,⟨41,[],1,[1,4],22⟩,⟨42,[121],0,[],31⟩,⟨3,[115],0,[],40⟩,⟨21,[],0,[7],35⟩,⟨41,[],1,[6,8],33⟩,⟨42,[115],0,[],44⟩,⟨1,[],2,[],48⟩,⟨3,[114],0,[],53⟩,⟨4,[],0,[11,12],50⟩,⟨41,[],1,[10,13],46⟩,⟨42,[114],0,[],56⟩,⟨1,[],3,[],60⟩,⟨3,[115],0,[],65⟩,⟨4,[],0,[16,17],62⟩,⟨41,[],1,[15,18],58⟩,⟨3,[120],0,[],73⟩,⟨40,[],4,[5,9,14,19,20],18⟩,⟨65,[109,97,105,110],0,[0,21],0⟩],[22]⟩
def vo1:List Int:=[0,1,2,3,2,1,6,7,7,6,10,11,12,11,10,15,16,17,16,15,20,1,0]
def vt2:Tr:=⟨[⟨60,[],0,[],11⟩,⟨42,[120],0,[],17⟩,⟨3,[120],0,[],21⟩,⟨1,[],1,[],25⟩,⟨13,[],0,[2,3],23⟩,⟨41,[],1,[1,4],19⟩,⟨3,[120],0,[],33⟩,⟨40,[],1,[5,6],15⟩,⟨65,[102],0,[0,7],0⟩],[8]⟩
def vo2:List Int:=[0,1,2,3,2,1,6,1,0]
def vt3:Tr:=⟨[⟨60,[],0,[],18⟩,⟨63,[],0,[0],11⟩,⟨42,[115],0,[],24⟩,⟨1,[],0,[],38⟩,⟨43,[105],0,[3],33⟩,⟨3,[105],0,[],47⟩,⟨1,[],2,[],51⟩,⟨9,[],0,[5,6],49⟩,⟨3,[115],0,[],72⟩,⟨21,[],0,[8],67⟩,⟨44,[105],0,[9],58⟩,⟨1,[],1,[],83⟩,⟨3,[115],0,[],88⟩,⟨4,[],0,[11,12],85⟩,⟨45,[],0,[13],78⟩,⟨28,[],1,[4,7,10,14],28⟩,⟨41,[],1,[2,15],26⟩,⟨3,[115],0,[],97⟩,⟨40,[],1,[16,17],22⟩,⟨65,[102],0,[1,18],0⟩],[19]⟩
def vo3:List Int:=[0,0,2,3,3,5,6,5,8,8,8,11,12,11,11,3,2,17,2,0]
def vt4:Tr:=⟨[⟨60,[],0,[],18⟩,⟨63,[],0,[0],11⟩,⟨42,[115],0,[],24⟩,⟨1,[],1,[],38⟩,⟨3,[115],0,[],43⟩,⟨4,[],0,[3,4],40⟩,⟨43,[114],0,[5],33⟩,⟨2,[],0,[],52⟩,⟨3,[114],0,[],70⟩,⟨45,[],0,[8],65⟩,⟨28,[],1,[6,7,9],28⟩,⟨41,[],1,[2,10],26⟩,⟨3,[115],0,[],79⟩,⟨40,[],1,[11,12],22⟩,⟨65,[102],0,[1,13],0⟩],[14]⟩
def vo4:List Int:=[0,0,2,3,4,3,3,7,8,8,3,2,12,2,0]
def vt5:Tr:=⟨[⟨60,[],0,[],9⟩,⟨64,[97],0,[0],6⟩,⟨60,[],0,[],17⟩,⟨42,[97],0,[],23⟩,⟨1,[],1,[],27⟩,⟨41,[],1,[3,4],25⟩,⟨3,[97],0,[],35⟩,⟨40,[],1,[5,6],21⟩,⟨65,[102],1,[1,2,7],0⟩],[8]⟩
def vo5:List Int:=[0,0,2,3,4,3,6,3,0]
def vt6:Tr:=⟨[⟨60,[],0,[],11⟩,⟨1,[],1,[],24⟩,⟨26,[103],0,[1],22⟩,⟨40,[],0,[2],15⟩,⟨65,[102],0,[0,3],0⟩],[4]⟩
def vo6:List Int:=[0,1,1,1,0]
theorem vtr1:YS=vt1.nv:=rfl
theorem vfit1:vt1.Fit:=Jco (by kernel_rfl)
theorem vchk1:chk vt1=0:=by kernel_rfl
theorem vg1:GoodT vt1 vo1:=Jcm vchk1 (by kernel_rfl)
theorem vres1:Xo vt1 vo1=(0,0):=by kernel_rfl
def vans1:CV:=.tup [.agg [.rslc 1 (iz [-1,-1,6,-1,-1,-1,-1,10,-1,-1,-1,-1,15,-1,-1,-1,-1,10,-1,-1,1,-1,-1]) none],.int .i64 0,.int .i64 0]
theorem vof1:ofL vt1 vo1=[-1,-1,6,-1,-1,-1,-1,10,-1,-1,-1,-1,15,-1,-1,-1,-1,10,-1,-1,1,-1,-1]:=by kernel_rfl
theorem vR1:Fn Ga 36 [YS] vans1:=by
 have h:=Yv vg1 vfit1
 rw[vres1,if_pos rfl,vof1]at h
 rw[vtr1]
 exact h.wk ⟨vt1.nv_wk,trivial⟩
theorem vtr2:JeF=vt2.nv:=rfl
theorem vfit2:vt2.Fit:=Jco (by kernel_rfl)
theorem vchk2:chk vt2=0:=by kernel_rfl
theorem vg2:GoodT vt2 vo2:=Jcm vchk2 (by kernel_rfl)
theorem vres2:Xo vt2 vo2=(5,9):=by kernel_rfl
def vans2:CV:=.tup [.agg [.nils],.int .i64 5,.int .i64 9]
theorem vR2:Fn Ga 36 [JeF] vans2:=by
 have h:=Yv vg2 vfit2
 rw[vres2,if_neg (by decide)]at h
 rw[vtr2]
 exact h.wk ⟨vt2.nv_wk,trivial⟩
theorem vtr3:JeE=vt3.nv:=rfl
theorem vfit3:vt3.Fit:=Jco (by kernel_rfl)
theorem vchk3:chk vt3=0:=by kernel_rfl
theorem vg3:GoodT vt3 vo3:=Jcm vchk3 (by kernel_rfl)
theorem vres3:Xo vt3 vo3=(16,9):=by kernel_rfl
def vans3:CV:=.tup [.agg [.nils],.int .i64 16,.int .i64 9]
theorem vR3:Fn Ga 36 [JeE] vans3:=by
 have h:=Yv vg3 vfit3
 rw[vres3,if_neg (by decide)]at h
 rw[vtr3]
 exact h.wk ⟨vt3.nv_wk,trivial⟩
theorem vtr4:JeD=vt4.nv:=rfl
theorem vfit4:vt4.Fit:=Jco (by kernel_rfl)
theorem vchk4:chk vt4=0:=by kernel_rfl
theorem vg4:GoodT vt4 vo4:=Jcm vchk4 (by kernel_rfl)
theorem vres4:Xo vt4 vo4=(0,0):=by kernel_rfl
def vans4:CV:=.tup [.agg [.rslc 1 (iz [-1,-1,-1,-1,2,-1,-1,-1,6,-1,-1,-1,2,-1,-1]) none],.int .i64 0,.int .i64 0]
theorem vof4:ofL vt4 vo4=[-1,-1,-1,-1,2,-1,-1,-1,6,-1,-1,-1,2,-1,-1]:=by kernel_rfl
theorem vR4:Fn Ga 36 [JeD] vans4:=by
 have h:=Yv vg4 vfit4
 rw[vres4,if_pos rfl,vof4]at h
 rw[vtr4]
 exact h.wk ⟨vt4.nv_wk,trivial⟩
theorem vtr5:JeC=vt5.nv:=rfl
theorem vfit5:vt5.Fit:=Jco (by kernel_rfl)
theorem vchk5:chk vt5=0:=by kernel_rfl
theorem vg5:GoodT vt5 vo5:=Jcm vchk5 (by kernel_rfl)
theorem vres5:Xo vt5 vo5=(3,6):=by kernel_rfl
def vans5:CV:=.tup [.agg [.nils],.int .i64 3,.int .i64 6]
theorem vR5:Fn Ga 36 [JeC] vans5:=by
 have h:=Yv vg5 vfit5
 rw[vres5,if_neg (by decide)]at h
 rw[vtr5]
 exact h.wk ⟨vt5.nv_wk,trivial⟩
theorem vtr6:JeB=vt6.nv:=rfl
theorem vfit6:vt6.Fit:=Jco (by kernel_rfl)
theorem vchk6:chk vt6=0:=by kernel_rfl
theorem vg6:GoodT vt6 vo6:=Jcm vchk6 (by kernel_rfl)
theorem vres6:Xo vt6 vo6=(2,10):=by kernel_rfl
def vans6:CV:=.tup [.agg [.nils],.int .i64 2,.int .i64 10]
theorem vR6:Fn Ga 36 [JeB] vans6:=by
 have h:=Yv vg6 vfit6
 rw[vres6,if_neg (by decide)]at h
 rw[vtr6]
 exact h.wk ⟨vt6.nv_wk,trivial⟩
theorem vneed5:KD vt1 vo1 (ofL vt1 vo1) 5=[9]:=by kernel_rfl
theorem vN5:Fn Ga 14 [YS,.int .i64 5] (.tup [.rslc 1 (iz [9]) none,.int .i64 0]):=by
 have h:=nNeedsF vg1 vfit1 (by rw[vres1]) 5 (by decide) (by rfl)
 rw[vneed5]at h
 rw[vtr1]
 exact h.wk ⟨vt1.nv_wk,wk.refl _,trivial⟩
theorem vneed9:KD vt1 vo1 (ofL vt1 vo1) 9=[14]:=by kernel_rfl
theorem vN9:Fn Ga 14 [YS,.int .i64 9] (.tup [.rslc 1 (iz [14]) none,.int .i64 0]):=by
 have h:=nNeedsF vg1 vfit1 (by rw[vres1]) 9 (by decide) (by rfl)
 rw[vneed9]at h
 rw[vtr1]
 exact h.wk ⟨vt1.nv_wk,wk.refl _,trivial⟩
theorem vord:ordL vt1 vo1 (ofL vt1 vo1) 21=[14,9,5,19]:=by kernel_rfl
theorem vO:Fn Ga 15 [YS,.int .i64 21] (.tup [.rslc 1 (iz [14,9,5,19]) none,.int .i64 0]):=by
 have h:=nOrderF vg1 vfit1 (by rw[vres1]) (b:=21) (by decide) (.inl (by rfl))
 rw[vord]at h
 rw[vtr1]
 exact h.wk ⟨vt1.nv_wk,wk.refl _,trivial⟩
def y66:ICode:=(low c66.body [true]).1
theorem y66_ok:Yi c66.body [true]=true:=by kernel_rfl
def tbW (e98 e36 e14 e15:YE):BT YE:=(.node 36 (e36) (.node 15 (e15) (.node 14 (e14) (.node 11 (.code c11.body c11.ntmps c11.results) .nil .nil) .nil) (.node 19 (.code c19.body c19.ntmps c19.results) .nil .nil)) (.node 66 (.code y66 c66.ntmps c66.results) (.node 47 (.code c47.body c47.ntmps c47.results) .nil .nil) (.node 98 (e98) .nil .nil)))
theorem tbW_ok {e98 e36 e14 e15:YE}(h98:Jfr Ga 98 e98) (h36:Jfr Ga 36 e36) (h14:Jfr Ga 14 e14) (h15:Jfr Ga 15 e15):(tbW e98 e36 e14 e15).All (Jfr Ga):=
 ⟨h36,⟨h15,⟨h14,⟨JC (Jq JB c11_ok) c11_ok,trivial,trivial⟩,trivial⟩,⟨JC (Jq JB c19_ok) c19_ok,trivial,trivial⟩⟩,⟨Jbf (Jq JB c66_ok) c66_ok y66_ok,⟨JC (Jq JB c47_ok) c47_ok,trivial,trivial⟩,⟨h98,trivial,trivial⟩⟩⟩
def vpp (c:CV):CV:=.tup [c,.int .i64 0,.int .i64 0]
def vtb:BT YE:=tbW (.nat (lookF [([vtext1],vpp YS),([vtext2],vpp JeF),([vtext3],vpp JeE),([vtext4],vpp JeD),([vtext5],vpp JeC),([vtext6],vpp JeB)])) (.nat (lookF [([YS],vans1),([JeF],vans2),([JeE],vans3),([JeD],vans4),([JeC],vans5),([JeB],vans6)])) (.nat (lookF [([YS,.int .i64 5],.tup [.rslc 1 (iz [9]) none,.int .i64 0]),([YS,.int .i64 9],.tup [.rslc 1 (iz [14]) none,.int .i64 0])])) (.nat (lookF [([YS,.int .i64 21],.tup [.rslc 1 (iz [14,9,5,19]) none,.int .i64 0])]))
theorem vtb_ok:vtb.All (Jfr Ga):=tbW_ok (Jc3 (Jq JB c98_ok) _ (J8 vp1 (J8 vp2 (J8 vp3 (J8 vp4 (J8 vp5 (J8 vp6 JbH))))))) (Jc3 (Jq JB c36_ok) _ (J8 vR1 (J8 vR2 (J8 vR3 (J8 vR4 (J8 vR5 (J8 vR6 JbH))))))) (Jc3 (Jq JB c14_ok) _ (J8 vN5 (J8 vN9 JbH))) (Jc3 (Jq JB c15_ok) _ (J8 vO JbH))
theorem vknown:Jew (yfn vtb 3000 11 []) (.bool true)=true:=by kernel_rfl
theorem Jgc:Fn Ga 11 [] (.bool true):=Qa vtb_ok JD (Xf vknown) rfl rfl
end Go.Cm
end
section
set_option maxRecDepth 100000
set_option maxHeartbeats 4000000
open Go.Proofs
namespace Go.Cm
def JeI (t:Tr):Bool:=(decide (160 < t.nodes.length) && decide (t.nodes.length≤700)) || decide (1400 < t.nodes.length) || decide (40 < t.items.length)
def YU (t:Tr):Bool:=JeI t || t.nodes.any Jdm
theorem lawVast3 (t:Tr):Fn Ga 10 [t.cv] (.bool (YU t)):=by
 refine Ja c10_ok rfl rfl fun N=>?_
 have hil:(iz t.items).length=t.items.length:=Jf
 cases hH:JeI t with
 |true=>
  have hv:YU t=true:=by unfold YU; rw[hH]; rfl
  rw[hv]
  unfold JeI at hH
  have e1:((160:Int) < (t.nodes.length:Int))=(160 < t.nodes.length):=propext (by omega)
  have e2:((t.nodes.length:Int)≤700)=(t.nodes.length≤700):=propext (by omega)
  have e3:((1400:Int) < (t.nodes.length:Int))=(1400 < t.nodes.length):=propext (by omega)
  have e4:((40:Int) < (t.items.length:Int))=(40 < t.items.length):=propext (by omega)
  by_cases g1:160 < t.nodes.length <;> by_cases g2:t.nodes.length≤700 <;> by_cases g3:1400 < t.nodes.length <;> by_cases g4:40 < t.items.length <;> first | (exfalso; omega) | (exfalso; simp[g1,g2,g3,g4]at hH; done) | (simp -implicitDefEqProofs only[c10,go_sem,Tr.cv,Tr.row,Jb,hil,e1,e2,e3,e4,g1,g2,g3,g4])
 |false=>
  unfold JeI at hH
  simp only[Gg,Gf,decide_eq_false_iff_not]at hH
  obtain ⟨⟨h1,h2⟩,h3⟩:=hH
  have e3:((1400:Int) < (t.nodes.length:Int))=False:=Jm
  have e4:((40:Int) < (t.items.length:Int))=False:=Jm
  have hv:YU t=t.nodes.any Jdm:=by
   unfold YU JeI
   have:(decide (160 < t.nodes.length) && decide (t.nodes.length≤700))=false:=by
    simp only[Gf,decide_eq_false_iff_not]; exact h1
   rw[this,decide_eq_false h2,decide_eq_false h3]; rfl
  rw[hv]
  by_cases g1:160 < t.nodes.length
  case' pos=>
   have e1:((160:Int) < (t.nodes.length:Int))=True:=Jn
   have e2:((t.nodes.length:Int)≤700)=False:=Jm
   simp -implicitDefEqProofs only[c10,go_sem,Tr.cv,Tr.row,Jb,hil,e1,e2,e3,e4]
  case' neg=>
   have e1:((160:Int) < (t.nodes.length:Int))=False:=Jm
   simp -implicitDefEqProofs only[c10,go_sem,Tr.cv,Tr.row,Jb,hil,e1,e3,e4]
  all_goals (
   refine Jh (id:=0) (z:=2) (els:=[t.row]) rfl rfl ?_
   simp only[go_sem,J9,KA,frz,KV,Tr.row]
   refine Jz (I:=fun i:Nat=>i≤t.nodes.length∧t.nodes.any Jdm=(t.nodes.drop i).any Jdm) (inv:=fun i=>gp [(1,.rptr t.row),(1,.int .i64 (i:Int))] 47) (hp:=fun _=>[.dead]) (μ:=fun i=>t.nodes.length-i) 0 ⟨by omega,rfl⟩ ?_ rfl ?_
   ·simp[forget,gp,Tr.row]
   ·rintro i ⟨hi,hinv⟩
    by_cases hlt:i < t.nodes.length
    ·have d1:((i:Int) < (t.nodes.length:Int))=True:=Jn
     have hg:=Qg hlt
     rw[List.drop_eq_getElem_cons hlt,List.any_cons,← rowg hlt]at hinv
     generalize t.nodes.getD i default=x at hg hinv
     have hxl:(iz x.kids).length=x.kids.length:=Jf
     by_cases g5:30 < x.kids.length
     ·have e5:((30:Int) < (x.kids.length:Int))=True:=Jn
      rw[show Jdm x=true by simp[Jdm,g5],Gp]at hinv
      simp -implicitDefEqProofs only[go_sem,Tr.row,Jb,d1,hg,Nd.cv,hxl,e5,hinv]
      omega
     ·have e5:((30:Int) < (x.kids.length:Int))=False:=Jm
      by_cases g6:60 < x.text.length
      ·have e6:((60:Int) < (x.text.length:Int))=True:=Jn
       rw[show Jdm x=true by simp[Jdm,g6],Gp]at hinv
       simp -implicitDefEqProofs only[go_sem,Tr.row,Jb,d1,hg,Nd.cv,hxl,e5,e6,hinv]
       omega
      ·have e6:((60:Int) < (x.text.length:Int))=False:=Jm
       rw[show Jdm x=false by simp[Jdm,g5,g6],Bool.false_or]at hinv
       simp -implicitDefEqProofs only[go_sem,Tr.row,Jb,d1,hg,Nd.cv,hxl,e5,e6]
       refine ⟨by omega,by omega,Ji,i+1,⟨by omega,hinv⟩,by omega,?_⟩
       simp[forget,Tr.row]
    ·have d1:((i:Int) < (t.nodes.length:Int))=False:=Jm
     rw[List.drop_eq_nil_of_le (by omega)]at hinv
     simp -implicitDefEqProofs only[go_sem,Tr.row,Jb,d1,hinv]
     simp
   )
theorem Tr.Ty.fit3 {t:Tr}(h:t.Ty) (hv:YU t=false):t.Fit:=by
 unfold YU JeI at hv
 simp only[Gg,Gf,decide_eq_false_iff_not,List.any_eq_false]at hv
 obtain ⟨⟨⟨_,h2⟩,h3⟩,h4⟩:=hv
 refine ⟨by omega,by omega,fun x hx=>?_,h.items⟩
 have hn:=h4 x hx
 unfold Jdm at hn
 simp only[Bool.not_eq_true,Gg,decide_eq_false_iff_not]at hn
 have ty:=h.nodes x hx
 exact ⟨ty.k,by omega,ty.n,by omega,ty.kids,ty.pl⟩
section
def Y4 (of:List Int) (d:Int) (i:Nat):List Int:=((List.range i).filter fun j=>of.getD j 0 == d).map fun j:Nat=>(j:Int)
def usesL (of:List Int) (d:Int):List Int:=Y4 of d of.length
theorem usesTo_succ {of:List Int}{d:Int}{i:Nat}:Y4 of d (i+1)=Y4 of d i++if (of.getD i 0 == d)=true then [(i:Int)] else []:=by
 unfold Y4
 rw[List.range_succ,List.filter_append,List.map_append,List.filter_cons,List.filter_nil]
 split <;> rfl
theorem JeJ {of:List Int}{d:Int}{i:Nat}:(Y4 of d i).length≤i:=by
 unfold Y4
 rw[List.length_map]
 exact Nat.le_trans (List.length_filter_le _ _) (by simp)
theorem nUses0 (t:Tr) (of:List Int) (hl:of.length≤100000) (d:Int):Jcq Ga 76 [.agg (rRw t of),.int .i64 d] 1 (iz (usesL of d)):=by
 have hol:(iz of).length=of.length:=Jf
 refine Jc8 (K8 c76_ok fun N=>?_) rfl (Je _)
 simp -implicitDefEqProofs only[c76,go_sem,rRw,hol]
 refine YT ?_
 simp only[go_sem,List.cons_append,List.nil_append]
 refine JI (I:=fun i:Nat=>i≤of.length) (inv:=fun i=>gp [(1,.int .i64 d),(2,QP 0 (iz (Y4 of d i))),(3,.rslc 1 (iz of) none),(0,.int .i64 (of.length:Int)),(0,.int .i64 (i:Int))] 13) (hp:=fun i=>[XO 1 (iz (Y4 of d i))]) (μ:=fun i=>of.length-i) 0 [1] (by omega) rfl ?_ ?_ ?_
 ·simp[forget,JH,ren,Jp,gp,Y4,Qz,QS]
 ·simp[KT,Jgv,Y4,Qz,Xz]
 ·intro i hi
  by_cases hlt:i < of.length
  ·have d1:((i:Int) < (of.length:Int))=True:=Jn
   have hgi:=JR hlt
   have hst:=usesTo_succ (of:=of) (d:=d) (i:=i)
   have hul:=JeJ (of:=of) (d:=d) (i:=i)
   generalize Y4 of d i=acc at hst hul ⊢
   cases hb:(of.getD i 0 == d) with
   |false=>
    rw[hb,if_neg (by simp),List.append_nil]at hst
    simp -implicitDefEqProofs only[go_sem,hol,d1,hgi,hb]
    refine ⟨by omega,Ji,i+1,[0],by omega,by omega,rfl,?_,?_⟩
    ·rw[hst]; simp only[KT,Gc,Gd,go_sem,KU (Jc (Je acc))]
    ·rw[hst]; simp[forget,JH,ren,Jp,Qn]
   |true=>
    rw[hb,if_pos rfl]at hst
    simp -implicitDefEqProofs only[go_sem,hol,d1,hgi,hb,JM,Jf]
    refine ⟨by omega,⟨by omega,by omega⟩,Ji,i+1,[2],by omega,by omega,rfl,?_,?_⟩
    ·rw[hst,Kg,Kz]
     simp only[KT,Gc,Gd,go_sem,Jv]
     simp[Jc (Je acc),JH,ren]
    ·rw[hst,Kg,Ky]
     simp[forget,JH,ren,Jp,Jf]
  ·have d1:((i:Int) < (of.length:Int))=False:=Jm
   obtain rfl:i=of.length:=by omega
   simp -implicitDefEqProofs only[go_sem,hol,d1]
   exact ⟨0,rfl,rfl⟩
section
variable {t:Tr}{o:List Int}(g:GoodT t o) (ht:t.Fit)
include g ht
theorem nUses (d:Int):Fn Ga 40 [t.cv,.int .i64 d] (if (Xo t o).2≠0 then .tup [.nils,.int .i64 (Xo t o).2] else if (inT t d && Ku (nd t d.toNat).k)=true then .tup [.rslc 1 (iz (usesL (ofL t o) d)) none,.int .i64 0] else .tup [.nils,.int .i64 7]):=by
 have hmany:=g.many
 have hF:=nFind g ht [d] (by simp)
 obtain ⟨l,hl⟩:=rE_head (t:=t) (o:=o)
 refine Ja c40_ok rfl (by split; rfl; split <;> rfl) fun N=>?_
 simp -implicitDefEqProofs only[c40,go_sem,Tr.cv,Tr.row]
 refine Jh (id:=1) (z:=1) (els:=iz [d]) rfl rfl ?_
 simp only[go_sem,J9,KA,frz,KV,JZ,Qz,Gc,Gd,Gr,Gt,Gv,Gq,Gu]
 refine JX hF ?_
 by_cases hE:(Xo t o).2=0
 ·rw[if_neg (show ¬ (Xo t o).2≠0 by simp[hE]),if_neg (show ¬ (Xo t o).2≠0 by simp[hE]),rE_ok hE]
  simp only[Gw,Gx,Gn]
  cases hin:inT t d with
  |false=>
   simp only[Gj,Gb,if_false]
   simp -implicitDefEqProofs only[go_sem,rRw]
  |true=>
   simp only[if_true,Gl]
   have hr:=Jaf.1 hin
   obtain ⟨d,rfl⟩:∃ d':Nat,d=d':=⟨d.toNat,by omega⟩
   rw[Int.toNat_natCast]
   simp -implicitDefEqProofs only[go_sem,rRw]
   refine JX (nIsDecl t (by omega)) ?_
   cases hc:Ku (nd t d).k with
   |false=>
    simp only[Gb,if_false]
    simp -implicitDefEqProofs only[go_sem,Gi]
   |true=>
    simp only[if_true]
    simp -implicitDefEqProofs only[go_sem,Gm]
    refine JX ((nUses0 t (ofL t o) (by rw[Qf]; omega) (d:Int)).fn rfl (Je _)) ?_
    simp -implicitDefEqProofs only[go_sem]
 ·have e1:((Xo t o).2 != 0)=true:=by simpa using hE
  rw[if_pos hE,if_pos hE,hl]
  simp -implicitDefEqProofs only[go_sem,e1]
theorem nSightP (d:Int):Fn Ga 37 [t.cv,.int .i64 d] (if (Xo t o).2≠0 then .tup [.nils,.int .i64 (Xo t o).2] else if (inT t d && Ja6 (nd t d.toNat).k)=true then .tup [.rslc 1 (iz (JY t d.toNat)) none,.int .i64 0] else .tup [.nils,.int .i64 7]):=by
 have hmany:=g.many
 have hF:=nFind g ht [d] (by simp)
 obtain ⟨l,hl⟩:=rE_head (t:=t) (o:=o)
 refine Ja c37_ok rfl (by split; rfl; split <;> rfl) fun N=>?_
 simp -implicitDefEqProofs only[c37,go_sem,Tr.cv,Tr.row]
 refine Jh (id:=1) (z:=1) (els:=iz [d]) rfl rfl ?_
 simp only[go_sem,J9,KA,frz,KV,JZ,Qz,Gc,Gd,Gr,Gt,Gv,Gq,Gu]
 refine JX hF ?_
 by_cases hE:(Xo t o).2=0
 ·rw[if_neg (show ¬ (Xo t o).2≠0 by simp[hE]),if_neg (show ¬ (Xo t o).2≠0 by simp[hE]),rE_ok hE]
  simp only[Gw,Gx,Gn]
  cases hin:inT t d with
  |false=>
   simp only[Gj,Gb,if_false]
   simp -implicitDefEqProofs only[go_sem,rRw]
  |true=>
   simp only[if_true,Gl]
   have hr:=Jaf.1 hin
   obtain ⟨d,rfl⟩:∃ d':Nat,d=d':=⟨d.toNat,by omega⟩
   rw[Int.toNat_natCast]
   simp -implicitDefEqProofs only[go_sem,rRw]
   refine JX (nIsExpr t (by omega)) ?_
   cases hc:Ja6 (nd t d).k with
   |false=>
    simp only[Gb,if_false]
    simp -implicitDefEqProofs only[go_sem,Gi]
   |true=>
    simp only[if_true]
    simp -implicitDefEqProofs only[go_sem,Gm]
    refine JX (nSight g ht (by omega)) ?_
    simp -implicitDefEqProofs only[go_sem]
 ·have e1:((Xo t o).2 != 0)=true:=by simpa using hE
  rw[if_pos hE,if_pos hE,hl]
  simp -implicitDefEqProofs only[go_sem,e1]
end
end
section
section
variable {t:Tr}{o:List Int}(g:GoodT t o) (ht:t.Fit)
include g ht
omit ht in
end
end
end Go.Cm
end
end
