/-
  A part of the proof. Conditions: none.
-/
import Derived.Test.YtaiboeciecfgoaaGreatDoorRP45
import Derived.Test.YtaiboeciecfgoaaGreatDoorRP49
set_option linter.unusedSimpArgs false
set_option linter.unusedVariables false
open Go.Proofs.Tryz renaming prog→Ga
noncomputable section
section
set_option maxRecDepth 100000
open Go.Proofs Go.RowKit
namespace Go.Cm
def wkEls:List (List CV)→List (List CV)→Prop
 |[],[]=>True
 |e::l,e'::l'=>wks e e'∧wkEls l l'
 |_,_=>False
theorem wkEls_len:∀ {l l':List (List CV)},wkEls l l'→l.length=l'.length
 |[],[],_=>rfl
 |e::l,e'::l',h=>by simp[wkEls_len h.2]
 |[],_::_,h=>h.elim
 |_::_,[],h=>h.elim
theorem wks_len:∀ {l l':List CV},wks l l'→l.length=l'.length
 |[],[],_=>rfl
 |e::l,e'::l',h=>by simp[wks_len h.2]
 |[],_::_,h=>h.elim
 |_::_,[],h=>h.elim
theorem relAt_wk {imm:Nat→Nat→Option Value}{R:Nat→Option Value}:∀ {l l':List CV}{o:Nat},wks l l'→Jcm imm l R o→Jcm imm l' R o
 |[],[],_,_,h=>h
 |c::l,c'::l',o,hw,h=>by
  simp only[Jcm]at h ⊢
  obtain ⟨⟨r,h1,h2⟩,h3⟩:=h
  exact ⟨⟨r,h1,hw.1 _ _ _ h2⟩,relAt_wk hw.2 h3⟩
 |[],_::_,_,h,_=>h.elim
 |_::_,[],_,h,_=>h.elim
theorem relEls_wk {imm:Nat→Nat→Option Value}{z:Nat}{R:Nat→Option Value}:∀ {l l':List (List CV)}{o:Nat},wkEls l l'→Qv imm z l R o→Qv imm z l' R o
 |[],[],_,_,h=>h
 |e::l,e'::l',o,hw,h=>by
  simp only[Qv]at h ⊢
  exact ⟨by rw[← wks_len hw.1]; exact h.1,relAt_wk hw.1 h.2.1,relEls_wk hw.2 h.2.2⟩
 |[],_::_,_,h,_=>h.elim
 |_::_,[],_,h,_=>h.elim
theorem wk_els {z:Nat}{els els':List (List CV)}(h:wkEls els els'):wk (.rslc z els none) (.rslc z els' none):=by
 intro own imm v hv
 simp only[rel]at hv ⊢
 have hl:=wkEls_len h
 rcases hv with ⟨_,rfl,b,rfl⟩ | ⟨B,o,c,rfl,h2,h3,h4⟩
 ·left
  refine ⟨.inl trivial,?_,b,rfl⟩
  cases els' with
  |nil=>rfl
  |cons a l=>simp at hl
 ·right
  exact ⟨B,o,c,by rw[hl],by omega,h3,relEls_wk h h4⟩
theorem wks_rels2 {own:List Own}{imm:Nat→Nat→Option Value}:∀ {l l':List CV}{vs:List Value},wks l l'→JE own imm l vs→JE own imm l' vs
 |[],[],_,_,h=>h
 |c::l,c'::l',_,hw,h=>by
  simp only[JE]at h ⊢
  obtain ⟨r,rs,e,h1,h2⟩:=h
  exact ⟨r,rs,e,hw.1 _ _ _ h1,wks_rels2 hw.2 h2⟩
 |[],_::_,_,h,_=>h.elim
 |_::_,[],_,h,_=>h.elim
theorem Fn.wk {P:Program}{f:Nat}{args args':List CV}{v:CV}(h:Fn P f args' v) (hw:wks args args'):Fn P f args v:=
 fun E H m w vs hs hv=>h E H m w vs hs (wks_rels2 hw hv)
def Nd.nv (x:Nd):List CV:=[.int .u8 x.k,S x.text,.int .i64 x.n,(match x.kids with | []=>.nils | _::_=>.rslc 1 (iz x.kids) none),.int .i64 x.pl]
def Tr.nv (t:Tr):CV:=.agg [.rslc 5 (t.nodes.map Nd.nv) none,.rslc 1 (iz t.items) none]
theorem Nd.nv_wk (x:Nd):wks x.nv x.cv:=by
 obtain ⟨k,te,n,ks,p⟩:=x
 refine ⟨wk.refl _,wk.refl _,wk.refl _,?_,wk.refl _,trivial⟩
 cases ks with
 |nil=>exact wk.nils
 |cons a l=>exact wk.refl _
theorem ndv_wk:∀ l:List Nd,wkEls (l.map Nd.nv) (ndz l)
 |[]=>trivial
 |x::l=>⟨x.nv_wk,ndv_wk l⟩
theorem Tr.nv_wk (t:Tr):wk t.nv t.cv:=Jbz ⟨wk_els (ndv_wk t.nodes),wk.refl _,trivial⟩
def inB64 (x:Int):Bool:=decide (-9223372036854775808≤x) && decide (x≤9223372036854775807)
theorem Jdf {x:Int}(h:inB64 x=true):InR .i64 x:=by
 unfold inB64 at h
 rw[Bool.and_eq_true,decide_eq_true_eq,decide_eq_true_eq]at h
 exact inr64 h.1 h.2
def Nd.fitB (x:Nd):Bool:=decide (x.k < 256) && (decide (x.text.length≤60) && (inB64 x.n && (decide (x.kids.length≤30) && (x.kids.all inB64 && inB64 x.pl))))
def Tr.fitB (t:Tr):Bool:=decide (t.nodes.length≤1400) && (decide (t.items.length≤40) && (t.nodes.all Nd.fitB && t.items.all inB64))
theorem JcA {t:Tr}(h:t.fitB=true):t.Fit:=by
 simp only[Tr.fitB,Bool.and_eq_true,decide_eq_true_eq,List.all_eq_true]at h
 refine ⟨h.1,h.2.1,fun x hx=>?_,fun i hi=>Jdf (h.2.2.2 i hi)⟩
 have h2:=h.2.2.1 x hx
 simp only[Nd.fitB,Bool.and_eq_true,decide_eq_true_eq,List.all_eq_true]at h2
 exact ⟨h2.1,h2.2.1,Jdf h2.2.2.1,h2.2.2.2.1,fun i hi=>Jdf (h2.2.2.2.2.1 i hi),Jdf h2.2.2.2.2.2⟩
theorem Jcy {t:Tr}{o:List Int}(h:chk t=0) (ho:JB (JH t.nodes) []=some o):GoodT t o:=by
 obtain ⟨o',g⟩:=(Jb3 t).1 h
 have:=g.ord.h
 rw[ho]at this
 cases this
 exact g
def vt1:Tr:=⟨[⟨60,[],0,[],14⟩,⟨42,[120],0,[],20⟩,⟨3,[121],0,[],24⟩,⟨1,[],1,[],28⟩,⟨13,[],0,[2,3],26⟩,⟨41,[],1,[1,4],22⟩,⟨42,[121],0,[],31⟩,⟨3,[115],0,[],40⟩,⟨21,[],0,[7],35⟩,⟨41,[],1,[6,8],33⟩,⟨42,[115],0,[],44⟩,⟨1,[],2,[],48⟩,⟨3,[114],0,[],53⟩,⟨4,[],0,[11,12],50⟩,⟨41,[],1,[10,13],46⟩,⟨42,[114],0,[],56⟩,⟨1,[],3,[],60⟩,⟨3,[115],0,[],65⟩,⟨4,[],0,[16,17],62⟩,⟨41,[],1,[15,18],58⟩,⟨3,[120],0,[],73⟩,⟨40,[],4,[5,9,14,19,20],18⟩,⟨65,[109,97,105,110],0,[0,21],0⟩],[22]⟩
def vo1:List Int:=[0,1,2,3,2,1,6,7,7,6,10,11,12,11,10,15,16,17,16,15,20,1,0]
def vt2:Tr:=⟨[⟨60,[],0,[],11⟩,⟨42,[120],0,[],17⟩,⟨3,[120],0,[],21⟩,⟨1,[],1,[],25⟩,⟨13,[],0,[2,3],23⟩,⟨41,[],1,[1,4],19⟩,⟨3,[120],0,[],33⟩,⟨40,[],1,[5,6],15⟩,⟨65,[102],0,[0,7],0⟩],[8]⟩
def vo2:List Int:=[0,1,2,3,2,1,6,1,0]
def vt3:Tr:=⟨[⟨60,[],0,[],18⟩,⟨63,[],0,[0],11⟩,⟨42,[115],0,[],24⟩,⟨1,[],0,[],38⟩,⟨43,[105],0,[3],33⟩,⟨3,[105],0,[],47⟩,⟨1,[],2,[],51⟩,⟨9,[],0,[5,6],49⟩,⟨3,[115],0,[],72⟩,⟨21,[],0,[8],67⟩,⟨44,[105],0,[9],58⟩,⟨1,[],1,[],83⟩,⟨3,[115],0,[],88⟩,⟨4,[],0,[11,12],85⟩,⟨45,[],0,[13],78⟩,⟨28,[],1,[4,7,10,14],28⟩,⟨41,[],1,[2,15],26⟩,⟨3,[115],0,[],97⟩,⟨40,[],1,[16,17],22⟩,⟨65,[102],0,[1,18],0⟩],[19]⟩
def vo3:List Int:=[0,0,2,3,3,5,6,5,8,8,8,11,12,11,11,3,2,17,2,0]
def vt4:Tr:=⟨[⟨60,[],0,[],18⟩,⟨63,[],0,[0],11⟩,⟨42,[115],0,[],24⟩,⟨1,[],1,[],38⟩,⟨3,[115],0,[],43⟩,⟨4,[],0,[3,4],40⟩,⟨43,[114],0,[5],33⟩,⟨2,[],0,[],52⟩,⟨3,[114],0,[],70⟩,⟨45,[],0,[8],65⟩,⟨28,[],1,[6,7,9],28⟩,⟨41,[],1,[2,10],26⟩,⟨3,[115],0,[],79⟩,⟨40,[],1,[11,12],22⟩,⟨65,[102],0,[1,13],0⟩],[14]⟩
def vo4:List Int:=[0,0,2,3,4,3,3,7,8,8,3,2,12,2,0]
def vt5:Tr:=⟨[⟨60,[],0,[],9⟩,⟨64,[97],0,[0],6⟩,⟨60,[],0,[],17⟩,⟨42,[97],0,[],23⟩,⟨1,[],1,[],27⟩,⟨41,[],1,[3,4],25⟩,⟨3,[97],0,[],35⟩,⟨40,[],1,[5,6],21⟩,⟨65,[102],1,[1,2,7],0⟩],[8]⟩
def vo5:List Int:=[0,0,2,3,4,3,6,3,0]
def vt6:Tr:=⟨[⟨60,[],0,[],11⟩,⟨1,[],1,[],24⟩,⟨26,[103],0,[1],22⟩,⟨40,[],0,[2],15⟩,⟨65,[102],0,[0,3],0⟩],[4]⟩
def vo6:List Int:=[0,1,1,1,0]
theorem vtr1:YV=vt1.nv:=rfl
theorem vfit1:vt1.Fit:=JcA (by kernel_rfl)
theorem vchk1:chk vt1=0:=by kernel_rfl
theorem vg1:GoodT vt1 vo1:=Jcy vchk1 (by kernel_rfl)
theorem vres1:Yr vt1 vo1=(0,0):=by kernel_rfl
def vans1:CV:=.tup [.agg [.rslc 1 (iz [-1,-1,6,-1,-1,-1,-1,10,-1,-1,-1,-1,15,-1,-1,-1,-1,10,-1,-1,1,-1,-1]) none],.int .i64 0,.int .i64 0]
theorem vof1:ofL vt1 vo1=[-1,-1,6,-1,-1,-1,-1,10,-1,-1,-1,-1,15,-1,-1,-1,-1,10,-1,-1,1,-1,-1]:=by kernel_rfl
theorem vR1:Fn Ga 36 [YV] vans1:=by
 have h:=JaF vg1 vfit1
 rw[vres1,if_pos rfl,vof1]at h
 rw[vtr1]
 exact h.wk ⟨vt1.nv_wk,trivial⟩
theorem vtr2:JeU=vt2.nv:=rfl
theorem vfit2:vt2.Fit:=JcA (by kernel_rfl)
theorem vchk2:chk vt2=0:=by kernel_rfl
theorem vg2:GoodT vt2 vo2:=Jcy vchk2 (by kernel_rfl)
theorem vres2:Yr vt2 vo2=(5,9):=by kernel_rfl
def vans2:CV:=.tup [.agg [.nils],.int .i64 5,.int .i64 9]
theorem vR2:Fn Ga 36 [JeU] vans2:=by
 have h:=JaF vg2 vfit2
 rw[vres2,if_neg (by decide)]at h
 rw[vtr2]
 exact h.wk ⟨vt2.nv_wk,trivial⟩
theorem vtr3:JeT=vt3.nv:=rfl
theorem vfit3:vt3.Fit:=JcA (by kernel_rfl)
theorem vchk3:chk vt3=0:=by kernel_rfl
theorem vg3:GoodT vt3 vo3:=Jcy vchk3 (by kernel_rfl)
theorem vres3:Yr vt3 vo3=(16,9):=by kernel_rfl
def vans3:CV:=.tup [.agg [.nils],.int .i64 16,.int .i64 9]
theorem vR3:Fn Ga 36 [JeT] vans3:=by
 have h:=JaF vg3 vfit3
 rw[vres3,if_neg (by decide)]at h
 rw[vtr3]
 exact h.wk ⟨vt3.nv_wk,trivial⟩
theorem vtr4:JeS=vt4.nv:=rfl
theorem vfit4:vt4.Fit:=JcA (by kernel_rfl)
theorem vchk4:chk vt4=0:=by kernel_rfl
theorem vg4:GoodT vt4 vo4:=Jcy vchk4 (by kernel_rfl)
theorem vres4:Yr vt4 vo4=(0,0):=by kernel_rfl
def vans4:CV:=.tup [.agg [.rslc 1 (iz [-1,-1,-1,-1,2,-1,-1,-1,6,-1,-1,-1,2,-1,-1]) none],.int .i64 0,.int .i64 0]
theorem vof4:ofL vt4 vo4=[-1,-1,-1,-1,2,-1,-1,-1,6,-1,-1,-1,2,-1,-1]:=by kernel_rfl
theorem vR4:Fn Ga 36 [JeS] vans4:=by
 have h:=JaF vg4 vfit4
 rw[vres4,if_pos rfl,vof4]at h
 rw[vtr4]
 exact h.wk ⟨vt4.nv_wk,trivial⟩
theorem vtr5:JeR=vt5.nv:=rfl
theorem vfit5:vt5.Fit:=JcA (by kernel_rfl)
theorem vchk5:chk vt5=0:=by kernel_rfl
theorem vg5:GoodT vt5 vo5:=Jcy vchk5 (by kernel_rfl)
theorem vres5:Yr vt5 vo5=(3,6):=by kernel_rfl
def vans5:CV:=.tup [.agg [.nils],.int .i64 3,.int .i64 6]
theorem vR5:Fn Ga 36 [JeR] vans5:=by
 have h:=JaF vg5 vfit5
 rw[vres5,if_neg (by decide)]at h
 rw[vtr5]
 exact h.wk ⟨vt5.nv_wk,trivial⟩
theorem vtr6:JeQ=vt6.nv:=rfl
theorem vfit6:vt6.Fit:=JcA (by kernel_rfl)
theorem vchk6:chk vt6=0:=by kernel_rfl
theorem vg6:GoodT vt6 vo6:=Jcy vchk6 (by kernel_rfl)
theorem vres6:Yr vt6 vo6=(2,10):=by kernel_rfl
def vans6:CV:=.tup [.agg [.nils],.int .i64 2,.int .i64 10]
theorem vR6:Fn Ga 36 [JeQ] vans6:=by
 have h:=JaF vg6 vfit6
 rw[vres6,if_neg (by decide)]at h
 rw[vtr6]
 exact h.wk ⟨vt6.nv_wk,trivial⟩
theorem vneed5:KF vt1 vo1 (ofL vt1 vo1) 5=[9]:=by kernel_rfl
theorem vN5:Fn Ga 14 [YV,.int .i64 5] (.tup [.rslc 1 (iz [9]) none,.int .i64 0]):=by
 have h:=nNeedsF vg1 vfit1 (by rw[vres1]) 5 (by decide) (by rfl)
 rw[vneed5]at h
 rw[vtr1]
 exact h.wk ⟨vt1.nv_wk,wk.refl _,trivial⟩
theorem vneed9:KF vt1 vo1 (ofL vt1 vo1) 9=[14]:=by kernel_rfl
theorem vN9:Fn Ga 14 [YV,.int .i64 9] (.tup [.rslc 1 (iz [14]) none,.int .i64 0]):=by
 have h:=nNeedsF vg1 vfit1 (by rw[vres1]) 9 (by decide) (by rfl)
 rw[vneed9]at h
 rw[vtr1]
 exact h.wk ⟨vt1.nv_wk,wk.refl _,trivial⟩
theorem vord:ordL vt1 vo1 (ofL vt1 vo1) 21=[14,9,5,19]:=by kernel_rfl
theorem vO:Fn Ga 15 [YV,.int .i64 21] (.tup [.rslc 1 (iz [14,9,5,19]) none,.int .i64 0]):=by
 have h:=nOrderF vg1 vfit1 (by rw[vres1]) (b:=21) (by decide) (.inl (by rfl))
 rw[vord]at h
 rw[vtr1]
 exact h.wk ⟨vt1.nv_wk,wk.refl _,trivial⟩
def y66:ICode:=(low c66.body [true]).1
theorem y66_ok:Yn c66.body [true]=true:=by kernel_rfl
def tbW (e98 e36 e14 e15:YE):BT YE:=(.node 36 (e36) (.node 15 (e15) (.node 14 (e14) (.node 11 (.code c11.body c11.ntmps c11.results) .nil .nil) .nil) (.node 19 (.code c19.body c19.ntmps c19.results) .nil .nil)) (.node 66 (.code y66 c66.ntmps c66.results) (.node 47 (.code c47.body c47.ntmps c47.results) .nil .nil) (.node 98 (e98) .nil .nil)))
theorem tbW_ok {e98 e36 e14 e15:YE}(h98:JfL Ga 98 e98) (h36:JfL Ga 36 e36) (h14:JfL Ga 14 e14) (h15:JfL Ga 15 e15):(tbW e98 e36 e14 e15).All (JfL Ga):=
 ⟨h36,⟨h15,⟨h14,⟨JD (Js JC c11_ok) c11_ok,trivial,trivial⟩,trivial⟩,⟨JD (Js JC c19_ok) c19_ok,trivial,trivial⟩⟩,⟨Jbl (Js JC c66_ok) c66_ok y66_ok,⟨JD (Js JC c47_ok) c47_ok,trivial,trivial⟩,⟨h98,trivial,trivial⟩⟩⟩
def vpp (c:CV):CV:=.tup [c,.int .i64 0,.int .i64 0]
def vtb:BT YE:=tbW (.nat (lookF [([vtext1],vpp YV),([vtext2],vpp JeU),([vtext3],vpp JeT),([vtext4],vpp JeS),([vtext5],vpp JeR),([vtext6],vpp JeQ)])) (.nat (lookF [([YV],vans1),([JeU],vans2),([JeT],vans3),([JeS],vans4),([JeR],vans5),([JeQ],vans6)])) (.nat (lookF [([YV,.int .i64 5],.tup [.rslc 1 (iz [9]) none,.int .i64 0]),([YV,.int .i64 9],.tup [.rslc 1 (iz [14]) none,.int .i64 0])])) (.nat (lookF [([YV,.int .i64 21],.tup [.rslc 1 (iz [14,9,5,19]) none,.int .i64 0])]))
theorem vtb_ok:vtb.All (JfL Ga):=tbW_ok (Jdd (Js JC c98_ok) _ (J7 vp1 (J7 vp2 (J7 vp3 (J7 vp4 (J7 vp5 (J7 vp6 JbT))))))) (Jdd (Js JC c36_ok) _ (J7 vR1 (J7 vR2 (J7 vR3 (J7 vR4 (J7 vR5 (J7 vR6 JbT))))))) (Jdd (Js JC c14_ok) _ (J7 vN5 (J7 vN9 JbT))) (Jdd (Js JC c15_ok) _ (J7 vO JbT))
theorem vknown:JeK (yfn vtb 3000 11 []) (.bool true)=true:=by kernel_rfl
theorem Jeb:Fn Ga 11 [] (.bool true):=Qb vtb_ok JA (Xk vknown) rfl rfl
end Go.Cm
end
end
