/-
  A part of the proof. Conditions: none.
-/
import Derived.Test.YtaiboeciecfgoaaGreatDoorTP43
import Derived.Test.YtaiboeciecfgoaaGreatDoorTP48
set_option linter.unusedSimpArgs false
set_option linter.unusedVariables false
open Bool renaming and_eq_false_iff→Gb,or_eq_false_iff→Gc,and_eq_true→Gd,true_or→Gf
open Go.Proofs.Tryz renaming prog→Ga
noncomputable section
section
set_option maxRecDepth 100000
open Go.Proofs Go.RowKit
namespace Go.Cm
def wkEls:List (List CV)→List (List CV)→Prop
 |[],[]=>True
 |e::l,e'::l'=>wks e e'∧wkEls l l'
 |_,_=>False
theorem wkEls_len:∀ {l l':List (List CV)},wkEls l l'→l.length=l'.length
 |[],[],_=>rfl
 |e::l,e'::l',h=>by simp[wkEls_len h.2]
 |[],_::_,h=>h.elim
 |_::_,[],h=>h.elim
theorem wks_len:∀ {l l':List CV},wks l l'→l.length=l'.length
 |[],[],_=>rfl
 |e::l,e'::l',h=>by simp[wks_len h.2]
 |[],_::_,h=>h.elim
 |_::_,[],h=>h.elim
theorem relAt_wk {imm:Nat→Nat→Option Value}{R:Nat→Option Value}:∀ {l l':List CV}{o:Nat},wks l l'→Jb7 imm l R o→Jb7 imm l' R o
 |[],[],_,_,h=>h
 |c::l,c'::l',o,hw,h=>by
  simp only[Jb7]at h ⊢
  obtain ⟨⟨r,h1,h2⟩,h3⟩:=h
  exact ⟨⟨r,h1,hw.1 _ _ _ h2⟩,relAt_wk hw.2 h3⟩
 |[],_::_,_,h,_=>h.elim
 |_::_,[],_,h,_=>h.elim
theorem relEls_wk {imm:Nat→Nat→Option Value}{z:Nat}{R:Nat→Option Value}:∀ {l l':List (List CV)}{o:Nat},wkEls l l'→Qp imm z l R o→Qp imm z l' R o
 |[],[],_,_,h=>h
 |e::l,e'::l',o,hw,h=>by
  simp only[Qp]at h ⊢
  exact ⟨by rw[← wks_len hw.1]; exact h.1,relAt_wk hw.1 h.2.1,relEls_wk hw.2 h.2.2⟩
 |[],_::_,_,h,_=>h.elim
 |_::_,[],_,h,_=>h.elim
theorem wk_els {z:Nat}{els els':List (List CV)}(h:wkEls els els'):wk (.rslc z els none) (.rslc z els' none):=by
 intro own imm v hv
 simp only[rel]at hv ⊢
 have hl:=wkEls_len h
 rcases hv with ⟨_,rfl,b,rfl⟩ | ⟨B,o,c,rfl,h2,h3,h4⟩
 ·left
  refine ⟨.inl trivial,?_,b,rfl⟩
  cases els' with
  |nil=>rfl
  |cons a l=>simp at hl
 ·right
  exact ⟨B,o,c,by rw[hl],by omega,h3,relEls_wk h h4⟩
theorem wks_rels2 {own:List Own}{imm:Nat→Nat→Option Value}:∀ {l l':List CV}{vs:List Value},wks l l'→JE own imm l vs→JE own imm l' vs
 |[],[],_,_,h=>h
 |c::l,c'::l',_,hw,h=>by
  simp only[JE]at h ⊢
  obtain ⟨r,rs,e,h1,h2⟩:=h
  exact ⟨r,rs,e,hw.1 _ _ _ h1,wks_rels2 hw.2 h2⟩
 |[],_::_,_,h,_=>h.elim
 |_::_,[],_,h,_=>h.elim
theorem Fn.wk {P:Program}{f:Nat}{args args':List CV}{v:CV}(h:Fn P f args' v) (hw:wks args args'):Fn P f args v:=
 fun E H m w vs hs hv=>h E H m w vs hs (wks_rels2 hw hv)
def Nd.nv (x:Nd):List CV:=[.int .u8 x.k,S x.text,.int .i64 x.n,(match x.kids with | []=>.nils | _::_=>.rslc 1 (iz x.kids) none),.int .i64 x.pl]
def Tr.nv (t:Tr):CV:=.agg [.rslc 5 (t.nodes.map Nd.nv) none,.rslc 1 (iz t.items) none]
theorem Nd.nv_wk (x:Nd):wks x.nv x.cv:=by
 obtain ⟨k,te,n,ks,p⟩:=x
 refine ⟨wk.refl _,wk.refl _,wk.refl _,?_,wk.refl _,trivial⟩
 cases ks with
 |nil=>exact wk.nils
 |cons a l=>exact wk.refl _
theorem ndv_wk:∀ l:List Nd,wkEls (l.map Nd.nv) (ndz l)
 |[]=>trivial
 |x::l=>⟨x.nv_wk,ndv_wk l⟩
theorem Tr.nv_wk (t:Tr):wk t.nv t.cv:=Jdf ⟨wk_els (ndv_wk t.nodes),wk.refl _,trivial⟩
def inB64 (x:Int):Bool:=decide (-9223372036854775808≤x) && decide (x≤9223372036854775807)
theorem Jc4 {x:Int}(h:inB64 x=true):InR .i64 x:=by
 unfold inB64 at h
 rw[Gd,decide_eq_true_eq,decide_eq_true_eq]at h
 exact inr64 h.1 h.2
def Nd.fitB (x:Nd):Bool:=decide (x.k < 256) && (decide (x.text.length≤60) && (inB64 x.n && (decide (x.kids.length≤30) && (x.kids.all inB64 && inB64 x.pl))))
def Tr.fitB (t:Tr):Bool:=decide (t.nodes.length≤1400) && (decide (t.items.length≤40) && (t.nodes.all Nd.fitB && t.items.all inB64))
theorem Jcl {t:Tr}(h:t.fitB=true):t.Fit:=by
 simp only[Tr.fitB,Gd,decide_eq_true_eq,List.all_eq_true]at h
 refine ⟨h.1,h.2.1,fun x hx=>?_,fun i hi=>Jc4 (h.2.2.2 i hi)⟩
 have h2:=h.2.2.1 x hx
 simp only[Nd.fitB,Gd,decide_eq_true_eq,List.all_eq_true]at h2
 exact ⟨h2.1,h2.2.1,Jc4 h2.2.2.1,h2.2.2.2.1,fun i hi=>Jc4 (h2.2.2.2.2.1 i hi),Jc4 h2.2.2.2.2.2⟩
theorem Jcj {t:Tr}{o:List Int}(h:chk t=0) (ho:Jz (JF t.nodes) []=some o):GoodT t o:=by
 obtain ⟨o',g⟩:=(Jc8 t).1 h
 have:=g.ord.h
 rw[ho]at this
 cases this
 exact g
def vt1:Tr:=⟨[⟨60,[],0,[],14⟩,⟨42,[120],0,[],20⟩,⟨3,[121],0,[],24⟩,⟨1,[],1,[],28⟩,⟨13,[],0,[2,3],26⟩,⟨41,[],1,[1,4],22⟩,⟨42,[121],0,[],31⟩,⟨3,[115],0,[],40⟩,⟨21,[],0,[7],35⟩,⟨41,[],1,[6,8],33⟩,⟨42,[115],0,[],44⟩,⟨1,[],2,[],48⟩,⟨3,[114],0,[],53⟩,⟨4,[],0,[11,12],50⟩,⟨41,[],1,[10,13],46⟩,⟨42,[114],0,[],56⟩,⟨1,[],3,[],60⟩,⟨3,[115],0,[],65⟩,⟨4,[],0,[16,17],62⟩,⟨41,[],1,[15,18],58⟩,⟨3,[120],0,[],73⟩,⟨40,[],4,[5,9,14,19,20],18⟩,⟨65,[109,97,105,110],0,[0,21],0⟩],[22]⟩
def vo1:List Int:=[0,1,2,3,2,1,6,7,7,6,10,11,12,11,10,15,16,17,16,15,20,1,0]
def vt2:Tr:=⟨[⟨60,[],0,[],11⟩,⟨42,[120],0,[],17⟩,⟨3,[120],0,[],21⟩,⟨1,[],1,[],25⟩,⟨13,[],0,[2,3],23⟩,⟨41,[],1,[1,4],19⟩,⟨3,[120],0,[],33⟩,⟨40,[],1,[5,6],15⟩,⟨65,[102],0,[0,7],0⟩],[8]⟩
def vo2:List Int:=[0,1,2,3,2,1,6,1,0]
def vt3:Tr:=⟨[⟨60,[],0,[],18⟩,⟨63,[],0,[0],11⟩,⟨42,[115],0,[],24⟩,⟨1,[],0,[],38⟩,⟨43,[105],0,[3],33⟩,⟨3,[105],0,[],47⟩,⟨1,[],2,[],51⟩,⟨9,[],0,[5,6],49⟩,⟨3,[115],0,[],72⟩,⟨21,[],0,[8],67⟩,⟨44,[105],0,[9],58⟩,⟨1,[],1,[],83⟩,⟨3,[115],0,[],88⟩,⟨4,[],0,[11,12],85⟩,⟨45,[],0,[13],78⟩,⟨28,[],1,[4,7,10,14],28⟩,⟨41,[],1,[2,15],26⟩,⟨3,[115],0,[],97⟩,⟨40,[],1,[16,17],22⟩,⟨65,[102],0,[1,18],0⟩],[19]⟩
def vo3:List Int:=[0,0,2,3,3,5,6,5,8,8,8,11,12,11,11,3,2,17,2,0]
def vt4:Tr:=⟨[⟨60,[],0,[],18⟩,⟨63,[],0,[0],11⟩,⟨42,[115],0,[],24⟩,⟨1,[],1,[],38⟩,⟨3,[115],0,[],43⟩,⟨4,[],0,[3,4],40⟩,⟨43,[114],0,[5],33⟩,⟨2,[],0,[],52⟩,⟨3,[114],0,[],70⟩,⟨45,[],0,[8],65⟩,⟨28,[],1,[6,7,9],28⟩,⟨41,[],1,[2,10],26⟩,⟨3,[115],0,[],79⟩,⟨40,[],1,[11,12],22⟩,⟨65,[102],0,[1,13],0⟩],[14]⟩
def vo4:List Int:=[0,0,2,3,4,3,3,7,8,8,3,2,12,2,0]
def vt5:Tr:=⟨[⟨60,[],0,[],9⟩,⟨64,[97],0,[0],6⟩,⟨60,[],0,[],17⟩,⟨42,[97],0,[],23⟩,⟨1,[],1,[],27⟩,⟨41,[],1,[3,4],25⟩,⟨3,[97],0,[],35⟩,⟨40,[],1,[5,6],21⟩,⟨65,[102],1,[1,2,7],0⟩],[8]⟩
def vo5:List Int:=[0,0,2,3,4,3,6,3,0]
def vt6:Tr:=⟨[⟨60,[],0,[],11⟩,⟨1,[],1,[],24⟩,⟨26,[103],0,[1],22⟩,⟨40,[],0,[2],15⟩,⟨65,[102],0,[0,3],0⟩],[4]⟩
def vo6:List Int:=[0,1,1,1,0]
theorem vtr1:YN=vt1.nv:=rfl
theorem vfit1:vt1.Fit:=Jcl (by kernel_rfl)
theorem vchk1:chk vt1=0:=by kernel_rfl
theorem vg1:GoodT vt1 vo1:=Jcj vchk1 (by kernel_rfl)
theorem vres1:Jas vt1 vo1=(0,0):=by kernel_rfl
def vans1:CV:=.tup [.agg [.rslc 1 (iz [-1,-1,6,-1,-1,-1,-1,10,-1,-1,-1,-1,15,-1,-1,-1,-1,10,-1,-1,1,-1,-1]) none],.int .i64 0,.int .i64 0]
theorem vof1:ofL vt1 vo1=[-1,-1,6,-1,-1,-1,-1,10,-1,-1,-1,-1,15,-1,-1,-1,-1,10,-1,-1,1,-1,-1]:=by kernel_rfl
theorem vR1:Fn Ga 36 [YN] vans1:=by
 have h:=Jaz vg1 vfit1
 rw[vres1,if_pos rfl,vof1]at h
 rw[vtr1]
 exact h.wk ⟨vt1.nv_wk,trivial⟩
theorem vtr2:JeC=vt2.nv:=rfl
theorem vfit2:vt2.Fit:=Jcl (by kernel_rfl)
theorem vchk2:chk vt2=0:=by kernel_rfl
theorem vg2:GoodT vt2 vo2:=Jcj vchk2 (by kernel_rfl)
theorem vres2:Jas vt2 vo2=(5,9):=by kernel_rfl
def vans2:CV:=.tup [.agg [.nils],.int .i64 5,.int .i64 9]
theorem vR2:Fn Ga 36 [JeC] vans2:=by
 have h:=Jaz vg2 vfit2
 rw[vres2,if_neg (by decide)]at h
 rw[vtr2]
 exact h.wk ⟨vt2.nv_wk,trivial⟩
theorem vtr3:JeB=vt3.nv:=rfl
theorem vfit3:vt3.Fit:=Jcl (by kernel_rfl)
theorem vchk3:chk vt3=0:=by kernel_rfl
theorem vg3:GoodT vt3 vo3:=Jcj vchk3 (by kernel_rfl)
theorem vres3:Jas vt3 vo3=(16,9):=by kernel_rfl
def vans3:CV:=.tup [.agg [.nils],.int .i64 16,.int .i64 9]
theorem vR3:Fn Ga 36 [JeB] vans3:=by
 have h:=Jaz vg3 vfit3
 rw[vres3,if_neg (by decide)]at h
 rw[vtr3]
 exact h.wk ⟨vt3.nv_wk,trivial⟩
theorem vtr4:JeA=vt4.nv:=rfl
theorem vfit4:vt4.Fit:=Jcl (by kernel_rfl)
theorem vchk4:chk vt4=0:=by kernel_rfl
theorem vg4:GoodT vt4 vo4:=Jcj vchk4 (by kernel_rfl)
theorem vres4:Jas vt4 vo4=(0,0):=by kernel_rfl
def vans4:CV:=.tup [.agg [.rslc 1 (iz [-1,-1,-1,-1,2,-1,-1,-1,6,-1,-1,-1,2,-1,-1]) none],.int .i64 0,.int .i64 0]
theorem vof4:ofL vt4 vo4=[-1,-1,-1,-1,2,-1,-1,-1,6,-1,-1,-1,2,-1,-1]:=by kernel_rfl
theorem vR4:Fn Ga 36 [JeA] vans4:=by
 have h:=Jaz vg4 vfit4
 rw[vres4,if_pos rfl,vof4]at h
 rw[vtr4]
 exact h.wk ⟨vt4.nv_wk,trivial⟩
theorem vtr5:Jez=vt5.nv:=rfl
theorem vfit5:vt5.Fit:=Jcl (by kernel_rfl)
theorem vchk5:chk vt5=0:=by kernel_rfl
theorem vg5:GoodT vt5 vo5:=Jcj vchk5 (by kernel_rfl)
theorem vres5:Jas vt5 vo5=(3,6):=by kernel_rfl
def vans5:CV:=.tup [.agg [.nils],.int .i64 3,.int .i64 6]
theorem vR5:Fn Ga 36 [Jez] vans5:=by
 have h:=Jaz vg5 vfit5
 rw[vres5,if_neg (by decide)]at h
 rw[vtr5]
 exact h.wk ⟨vt5.nv_wk,trivial⟩
theorem vtr6:Jey=vt6.nv:=rfl
theorem vfit6:vt6.Fit:=Jcl (by kernel_rfl)
theorem vchk6:chk vt6=0:=by kernel_rfl
theorem vg6:GoodT vt6 vo6:=Jcj vchk6 (by kernel_rfl)
theorem vres6:Jas vt6 vo6=(2,10):=by kernel_rfl
def vans6:CV:=.tup [.agg [.nils],.int .i64 2,.int .i64 10]
theorem vR6:Fn Ga 36 [Jey] vans6:=by
 have h:=Jaz vg6 vfit6
 rw[vres6,if_neg (by decide)]at h
 rw[vtr6]
 exact h.wk ⟨vt6.nv_wk,trivial⟩
theorem vneed5:Kl vt1 vo1 (ofL vt1 vo1) 5=[9]:=by kernel_rfl
theorem vN5:Fn Ga 14 [YN,.int .i64 5] (.tup [.rslc 1 (iz [9]) none,.int .i64 0]):=by
 have h:=nNeedsF vg1 vfit1 (by rw[vres1]) 5 (by decide) (by rfl)
 rw[vneed5]at h
 rw[vtr1]
 exact h.wk ⟨vt1.nv_wk,wk.refl _,trivial⟩
theorem vneed9:Kl vt1 vo1 (ofL vt1 vo1) 9=[14]:=by kernel_rfl
theorem vN9:Fn Ga 14 [YN,.int .i64 9] (.tup [.rslc 1 (iz [14]) none,.int .i64 0]):=by
 have h:=nNeedsF vg1 vfit1 (by rw[vres1]) 9 (by decide) (by rfl)
 rw[vneed9]at h
 rw[vtr1]
 exact h.wk ⟨vt1.nv_wk,wk.refl _,trivial⟩
theorem vord:ordL vt1 vo1 (ofL vt1 vo1) 21=[14,9,5,19]:=by kernel_rfl
theorem vO:Fn Ga 15 [YN,.int .i64 21] (.tup [.rslc 1 (iz [14,9,5,19]) none,.int .i64 0]):=by
 have h:=nOrderF vg1 vfit1 (by rw[vres1]) (b:=21) (by decide) (.inl (by rfl))
 rw[vord]at h
 rw[vtr1]
 exact h.wk ⟨vt1.nv_wk,wk.refl _,trivial⟩
def y66:ICode:=(low c66.body [true]).1
theorem y66_ok:Yh c66.body [true]=true:=by kernel_rfl
def tbW (e98 e36 e14 e15:YE):BT YE:=(.node 36 (e36) (.node 15 (e15) (.node 14 (e14) (.node 11 (.code c11.body c11.ntmps c11.results) .nil .nil) .nil) (.node 19 (.code c19.body c19.ntmps c19.results) .nil .nil)) (.node 66 (.code y66 c66.ntmps c66.results) (.node 47 (.code c47.body c47.ntmps c47.results) .nil .nil) (.node 98 (e98) .nil .nil)))
theorem tbW_ok {e98 e36 e14 e15:YE}(h98:Jfp Ga 98 e98) (h36:Jfp Ga 36 e36) (h14:Jfp Ga 14 e14) (h15:Jfp Ga 15 e15):(tbW e98 e36 e14 e15).All (Jfp Ga):=
 ⟨h36,⟨h15,⟨h14,⟨JB (Jr JA c11_ok) c11_ok,trivial,trivial⟩,trivial⟩,⟨JB (Jr JA c19_ok) c19_ok,trivial,trivial⟩⟩,⟨Jbb (Jr JA c66_ok) c66_ok y66_ok,⟨JB (Jr JA c47_ok) c47_ok,trivial,trivial⟩,⟨h98,trivial,trivial⟩⟩⟩
def vpp (c:CV):CV:=.tup [c,.int .i64 0,.int .i64 0]
def vtb:BT YE:=tbW (.nat (lookF [([vtext1],vpp YN),([vtext2],vpp JeC),([vtext3],vpp JeB),([vtext4],vpp JeA),([vtext5],vpp Jez),([vtext6],vpp Jey)])) (.nat (lookF [([YN],vans1),([JeC],vans2),([JeB],vans3),([JeA],vans4),([Jez],vans5),([Jey],vans6)])) (.nat (lookF [([YN,.int .i64 5],.tup [.rslc 1 (iz [9]) none,.int .i64 0]),([YN,.int .i64 9],.tup [.rslc 1 (iz [14]) none,.int .i64 0])])) (.nat (lookF [([YN,.int .i64 21],.tup [.rslc 1 (iz [14,9,5,19]) none,.int .i64 0])]))
theorem vtb_ok:vtb.All (Jfp Ga):=tbW_ok (Jc2 (Jr JA c98_ok) _ (J4 vp1 (J4 vp2 (J4 vp3 (J4 vp4 (J4 vp5 (J4 vp6 JbE))))))) (Jc2 (Jr JA c36_ok) _ (J4 vR1 (J4 vR2 (J4 vR3 (J4 vR4 (J4 vR5 (J4 vR6 JbE))))))) (Jc2 (Jr JA c14_ok) _ (J4 vN5 (J4 vN9 JbE))) (Jc2 (Jr JA c15_ok) _ (J4 vO JbE))
theorem vknown:Jet (yfn vtb 3000 11 []) (.bool true)=true:=by kernel_rfl
theorem fknown3:Fn Ga 11 [] (.bool true):=K6 vtb_ok JD (Xc vknown) rfl rfl
end Go.Cm
end
section
set_option maxRecDepth 100000
set_option maxHeartbeats 4000000
open Go.Proofs
namespace Go.Cm
def JeF (t:Tr):Bool:=(decide (160 < t.nodes.length) && decide (t.nodes.length≤700)) || decide (1400 < t.nodes.length) || decide (40 < t.items.length)
def YP (t:Tr):Bool:=JeF t || t.nodes.any Jdj
theorem lawVast3 (t:Tr):Fn Ga 10 [t.cv] (.bool (YP t)):=by
 refine Ja c10_ok rfl rfl fun N=>?_
 have hil:(iz t.items).length=t.items.length:=Jf
 cases hH:JeF t with
 |true=>
  have hv:YP t=true:=by unfold YP; rw[hH]; rfl
  rw[hv]
  unfold JeF at hH
  have e1:((160:Int) < (t.nodes.length:Int))=(160 < t.nodes.length):=propext (by omega)
  have e2:((t.nodes.length:Int)≤700)=(t.nodes.length≤700):=propext (by omega)
  have e3:((1400:Int) < (t.nodes.length:Int))=(1400 < t.nodes.length):=propext (by omega)
  have e4:((40:Int) < (t.items.length:Int))=(40 < t.items.length):=propext (by omega)
  by_cases g1:160 < t.nodes.length <;> by_cases g2:t.nodes.length≤700 <;> by_cases g3:1400 < t.nodes.length <;> by_cases g4:40 < t.items.length <;> first | (exfalso; omega) | (exfalso; simp[g1,g2,g3,g4]at hH; done) | (simp -implicitDefEqProofs only[c10,go_sem,Tr.cv,Tr.row,Jc,hil,e1,e2,e3,e4,g1,g2,g3,g4])
 |false=>
  unfold JeF at hH
  simp only[Gc,Gb,decide_eq_false_iff_not]at hH
  obtain ⟨⟨h1,h2⟩,h3⟩:=hH
  have e3:((1400:Int) < (t.nodes.length:Int))=False:=Jm
  have e4:((40:Int) < (t.items.length:Int))=False:=Jm
  have hv:YP t=t.nodes.any Jdj:=by
   unfold YP JeF
   have:(decide (160 < t.nodes.length) && decide (t.nodes.length≤700))=false:=by
    simp only[Gb,decide_eq_false_iff_not]; exact h1
   rw[this,decide_eq_false h2,decide_eq_false h3]; rfl
  rw[hv]
  by_cases g1:160 < t.nodes.length
  case' pos=>
   have e1:((160:Int) < (t.nodes.length:Int))=True:=Jn
   have e2:((t.nodes.length:Int)≤700)=False:=Jm
   simp -implicitDefEqProofs only[c10,go_sem,Tr.cv,Tr.row,Jc,hil,e1,e2,e3,e4]
  case' neg=>
   have e1:((160:Int) < (t.nodes.length:Int))=False:=Jm
   simp -implicitDefEqProofs only[c10,go_sem,Tr.cv,Tr.row,Jc,hil,e1,e3,e4]
  all_goals (
   refine Jh (id:=0) (z:=2) (els:=[t.row]) rfl rfl ?_
   simp only[go_sem,J3,Kw,frz,KZ,Tr.row]
   refine JC (I:=fun i:Nat=>i≤t.nodes.length∧t.nodes.any Jdj=(t.nodes.drop i).any Jdj) (inv:=fun i=>gp [(1,.rptr t.row),(1,.int .i64 (i:Int))] 47) (hp:=fun _=>[.dead]) (μ:=fun i=>t.nodes.length-i) 0 ⟨by omega,rfl⟩ ?_ rfl ?_
   ·simp[forget,gp,Tr.row]
   ·rintro i ⟨hi,hinv⟩
    by_cases hlt:i < t.nodes.length
    ·have d1:((i:Int) < (t.nodes.length:Int))=True:=Jn
     have hg:=Qc hlt
     rw[List.drop_eq_getElem_cons hlt,List.any_cons,← rowg hlt]at hinv
     generalize t.nodes.getD i default=x at hg hinv
     have hxl:(iz x.kids).length=x.kids.length:=Jf
     by_cases g5:30 < x.kids.length
     ·have e5:((30:Int) < (x.kids.length:Int))=True:=Jn
      rw[show Jdj x=true by simp[Jdj,g5],Gf]at hinv
      simp -implicitDefEqProofs only[go_sem,Tr.row,Jc,d1,hg,Nd.cv,hxl,e5,hinv]
      omega
     ·have e5:((30:Int) < (x.kids.length:Int))=False:=Jm
      by_cases g6:60 < x.text.length
      ·have e6:((60:Int) < (x.text.length:Int))=True:=Jn
       rw[show Jdj x=true by simp[Jdj,g6],Gf]at hinv
       simp -implicitDefEqProofs only[go_sem,Tr.row,Jc,d1,hg,Nd.cv,hxl,e5,e6,hinv]
       omega
      ·have e6:((60:Int) < (x.text.length:Int))=False:=Jm
       rw[show Jdj x=false by simp[Jdj,g5,g6],Bool.false_or]at hinv
       simp -implicitDefEqProofs only[go_sem,Tr.row,Jc,d1,hg,Nd.cv,hxl,e5,e6]
       refine ⟨by omega,by omega,Ji,i+1,⟨by omega,hinv⟩,by omega,?_⟩
       simp[forget,Tr.row]
    ·have d1:((i:Int) < (t.nodes.length:Int))=False:=Jm
     rw[List.drop_eq_nil_of_le (by omega)]at hinv
     simp -implicitDefEqProofs only[go_sem,Tr.row,Jc,d1,hinv]
     simp
   )
theorem Tr.Ty.fit3 {t:Tr}(h:t.Ty) (hv:YP t=false):t.Fit:=by
 unfold YP JeF at hv
 simp only[Gc,Gb,decide_eq_false_iff_not,List.any_eq_false]at hv
 obtain ⟨⟨⟨_,h2⟩,h3⟩,h4⟩:=hv
 refine ⟨by omega,by omega,fun x hx=>?_,h.items⟩
 have hn:=h4 x hx
 unfold Jdj at hn
 simp only[Bool.not_eq_true,Gc,decide_eq_false_iff_not]at hn
 have ty:=h.nodes x hx
 exact ⟨ty.k,by omega,ty.n,by omega,ty.kids,ty.pl⟩
end Go.Cm
end
end
