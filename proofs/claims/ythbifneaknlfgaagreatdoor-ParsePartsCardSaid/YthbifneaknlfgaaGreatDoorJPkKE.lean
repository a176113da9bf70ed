/-
  A part of the proof. Conditions: none.
-/
import Derived.Test.YthbifneaknlfgaaGreatDoorJPkKD
import Derived.Test.YthbifneaknlfgaaGreatDoorJPkK1
import Derived.Test.YthbifneaknlfgaaGreatDoorJP16
import Derived.Test.YthbifneaknlfgaaGreatDoorJPkK4
import Derived.Test.YthbifneaknlfgaaGreatDoorJP3
import Derived.Test.YthbifneaknlfgaaGreatDoorJP21
set_option linter.unusedSimpArgs false
set_option linter.unusedVariables false
open List renaming not_mem_nil→Ga,mem_cons→Gb
noncomputable section
section
set_option maxRecDepth 100000
open Go.Proofs Go.RowKit
namespace Go.Cm
def wkEls:List (List CV)→List (List CV)→Prop
 |[],[]=>True
 |e::l,e'::l'=>wks e e'∧wkEls l l'
 |_,_=>False
theorem wkEls_len:∀ {l l':List (List CV)},wkEls l l'→l.length=l'.length
 |[],[],_=>rfl
 |e::l,e'::l',h=>by simp[wkEls_len h.2]
 |[],_::_,h=>h.elim
 |_::_,[],h=>h.elim
theorem wks_len:∀ {l l':List CV},wks l l'→l.length=l'.length
 |[],[],_=>rfl
 |e::l,e'::l',h=>by simp[wks_len h.2]
 |[],_::_,h=>h.elim
 |_::_,[],h=>h.elim
theorem relAt_wk {imm:Nat→Nat→Option Value}{R:Nat→Option Value}:∀ {l l':List CV}{o:Nat},wks l l'→JbJ imm l R o→JbJ imm l' R o
 |[],[],_,_,h=>h
 |c::l,c'::l',o,hw,h=>by
  simp only[JbJ]at h ⊢
  obtain ⟨⟨r,h1,h2⟩,h3⟩:=h
  exact ⟨⟨r,h1,hw.1 _ _ _ h2⟩,relAt_wk hw.2 h3⟩
 |[],_::_,_,h,_=>h.elim
 |_::_,[],_,h,_=>h.elim
theorem relEls_wk {imm:Nat→Nat→Option Value}{z:Nat}{R:Nat→Option Value}:∀ {l l':List (List CV)}{o:Nat},wkEls l l'→Qm imm z l R o→Qm imm z l' R o
 |[],[],_,_,h=>h
 |e::l,e'::l',o,hw,h=>by
  simp only[Qm]at h ⊢
  exact ⟨by rw[← wks_len hw.1]; exact h.1,relAt_wk hw.1 h.2.1,relEls_wk hw.2 h.2.2⟩
 |[],_::_,_,h,_=>h.elim
 |_::_,[],_,h,_=>h.elim
theorem wk_els {z:Nat}{els els':List (List CV)}(h:wkEls els els'):wk (.rslc z els none) (.rslc z els' none):=by
 intro own imm v hv
 simp only[rel]at hv ⊢
 have hl:=wkEls_len h
 rcases hv with ⟨_,rfl,b,rfl⟩ | ⟨B,o,c,rfl,h2,h3,h4⟩
 ·left
  refine ⟨.inl trivial,?_,b,rfl⟩
  cases els' with
  |nil=>rfl
  |cons a l=>simp at hl
 ·right
  exact ⟨B,o,c,by rw[hl],by omega,h3,relEls_wk h h4⟩
theorem wks_rels2 {own:List Own}{imm:Nat→Nat→Option Value}:∀ {l l':List CV}{vs:List Value},wks l l'→JC own imm l vs→JC own imm l' vs
 |[],[],_,_,h=>h
 |c::l,c'::l',_,hw,h=>by
  simp only[JC]at h ⊢
  obtain ⟨r,rs,e,h1,h2⟩:=h
  exact ⟨r,rs,e,hw.1 _ _ _ h1,wks_rels2 hw.2 h2⟩
 |[],_::_,_,h,_=>h.elim
 |_::_,[],_,h,_=>h.elim
theorem Fn.wk {P:Program}{f:Nat}{args args':List CV}{v:CV}(h:Fn P f args' v) (hw:wks args args'):Fn P f args v:=
 fun E H m w vs hs hv=>h E H m w vs hs (wks_rels2 hw hv)
def Nd.nv (x:Nd):List CV:=[.int .u8 x.k,S x.text,.int .i64 x.n,(match x.kids with | []=>.nils | _::_=>.rslc 1 (iz x.kids) none),.int .i64 x.pl]
def Tr.nv (t:Tr):CV:=.agg [.rslc 5 (t.nodes.map Nd.nv) none,.rslc 1 (iz t.items) none]
theorem Nd.nv_wk (x:Nd):wks x.nv x.cv:=by
 obtain ⟨k,te,n,ks,p⟩:=x
 refine ⟨wk.refl _,wk.refl _,wk.refl _,?_,wk.refl _,trivial⟩
 cases ks with
 |nil=>exact wk.nils
 |cons a l=>exact wk.refl _
theorem ndv_wk:∀ l:List Nd,wkEls (l.map Nd.nv) (ndz l)
 |[]=>trivial
 |x::l=>⟨x.nv_wk,ndv_wk l⟩
theorem Tr.nv_wk (t:Tr):wk t.nv t.cv:=XE ⟨wk_els (ndv_wk t.nodes),wk.refl _,trivial⟩
def ktr:Tr:=⟨[⟨60,[],0,[],9⟩,⟨64,[97],0,[0],6⟩,⟨60,[],0,[],17⟩,⟨42,[98],0,[],23⟩,⟨3,[97],0,[],27⟩,⟨41,[],1,[3,4],25⟩,⟨3,[98],0,[],35⟩,⟨1,[],1,[],39⟩,⟨13,[],0,[6,7],37⟩,⟨40,[],1,[5,8],21⟩,⟨65,[102],1,[1,2,9],0⟩],[10]⟩
theorem ktr_ans:kans1=.tup [ktr.nv,.int .i64 0,.int .i64 0]:=rfl
theorem Jdd:ktr.Fit:=by
 refine ⟨by decide,by decide,fun x hx=>?_,fun i hi=>?_⟩
 ·simp only[ktr,Gb,Ga,or_false]at hx
  rcases hx with rfl | rfl | rfl | rfl | rfl | rfl | rfl | rfl | rfl | rfl | rfl
  all_goals refine ⟨by decide,by decide,Jm (by decide) (by decide),by decide,fun i hi=>?_,Jm (by decide) (by decide)⟩
  all_goals simp only[Gb,Ga,or_false]at hi
  all_goals (first | exact hi.elim | (rcases hi with rfl | rfl | rfl <;> exact Jm (by decide) (by decide)) | (rcases hi with rfl | rfl <;> exact Jm (by decide) (by decide)) | (subst hi; exact Jm (by decide) (by decide)))
 ·simp only[ktr,Gb,Ga,or_false]at hi
  subst hi
  exact Jm (by decide) (by decide)
theorem Jde:chk ktr=0:=by kernel_rfl
theorem ktr_txt:KF [10] (ktr.items.map (Jh ktr.nodes))=[100,101,102,32,102,40,97,58,32,105,110,116,41,32,45,62,32,105,110,116,32,123,32,98,32,61,32,97,59,32,103,105,118,101,32,98,32,43,32,49,32,125,10]:=by kernel_rfl
theorem ktr_txt5:Jh ktr.nodes 5=[98,32,61,32,97]:=by kernel_rfl
def kprint:List UInt8:=[100,101,102,32,102,40,97,58,32,105,110,116,41,32,45,62,32,105,110,116,32,123,32,98,32,61,32,97,59,32,103,105,118,101,32,98,32,43,32,49,32,125,10]
theorem Jdc {l:List CV}:wks (ktr.nv::l) (ktr.cv::l):=⟨ktr.nv_wk,wks.refl l⟩
theorem fkprint:Fn Tryz.prog 10 [ktr.nv] (.tup [S kprint,.int .i64 0]):=by
 have h:=parsePrint ktr Jdd
 rw[ktr_txt,if_neg (by rw[Jde]; decide)]at h
 unfold limV at h
 rw[if_neg (by decide)]at h
 exact h.wk Jdc
theorem fkcheck:Fn Tryz.prog 14 [ktr.nv] (.int .i64 0):=by
 have h:=Qg ktr Jdd
 rw[Jde]at h
 exact h.wk Jdc
theorem fkshow:Fn Tryz.prog 11 [ktr.nv,.int .i64 5] (.tup [S [98,32,61,32,97],.int .i64 0]):=by
 have h:=parseShow ktr Jdd 5 (Jm (by decide) (by decide))
 rw[ktr_txt5,if_neg (by rw[Jde]; decide),if_pos (by decide)]at h
 unfold limV at h
 rw[if_neg (by decide)]at h
 exact h.wk Jdc
theorem fkkin:Fn Tryz.prog 19 [ktr.nv,.int .i64 4,.int .i64 7] (.tup [.int .i64 9,.int .i64 0]):=by
 have h:=parseKin ktr Jdd 4 7 (Jm (by decide) (by decide)) (Jm (by decide) (by decide))
 rw[if_neg (by rw[Jde]; decide),if_pos (by decide)]at h
 have e:Ju (JE ktr.nodes) []=some [0,0,2,3,4,3,6,7,6,3,0]:=by kernel_rfl
 have e2:kinF [0,0,2,3,4,3,6,7,6,3,0] 4 7=9:=by kernel_rfl
 rw[e]at h
 simp only[e2]at h
 exact h.wk Jdc
theorem fkfind:Fn Tryz.prog 20 [ktr.nv,.int .i64 37] (.tup [.int .i64 8,.int .i64 0]):=by
 have h:=parseFind ktr Jdd 37 (Jm (by decide) (by decide))
 have e:YW (fun x:Nd=>x.pl == 37) ktr.nodes 0=8:=by kernel_rfl
 rw[if_neg (by rw[Jde]; decide),e,if_neg (by decide)]at h
 exact h.wk Jdc
theorem fkp1:Fn Tryz.prog 33 [ktext1] (.tup [ktr.nv,.int .i64 0,.int .i64 0]):=ktr_ans▸fp1
def kt2:BT YE:=tbQ (.nat (JdJ [([ktext1],.tup [ktr.nv,.int .i64 0,.int .i64 0]),([ktext2],kans2),([ktext3],kans3)])) (.nat (JdJ [([ktext4],kans4)])) (.nat (JdJ [([ktr.nv],.tup [S kprint,.int .i64 0])])) (.nat (JdJ [([ktr.nv,.int .i64 37],.tup [.int .i64 8,.int .i64 0])])) (.nat (JdJ [([ktr.nv,.int .i64 4,.int .i64 7],.tup [.int .i64 9,.int .i64 0])])) (.nat (JdJ [([ktr.nv,.int .i64 5],.tup [S [98,32,61,32,97],.int .i64 0])])) (.nat (JdJ [([ktr.nv],.int .i64 0)]))
theorem kt2_ok:kt2.All (JaZ Tryz.prog):=tbQ_ok (Yi (Jg Jl c33_ok) _ (Qh fkp1 (Qh fp2 (Qh fp3 Xu)))) (Yi (Jg Jl c34_ok) _ (Qh fp4 Xu)) (Yi (Jg Jl c10_ok) _ (Qh fkprint Xu)) (Yi (Jg Jl c20_ok) _ (Qh fkfind Xu)) (Yi (Jg Jl c19_ok) _ (Qh fkkin Xu)) (Yi (Jg Jl c11_ok) _ (Qh fkshow Xu)) (Yi (Jg Jl c14_ok) _ (Qh fkcheck Xu))
theorem kknown:isAns (yfn kt2 3000 8 []) (.bool true)=true:=by kernel_rfl
theorem fknown:Fn Tryz.prog 8 [] (.bool true):=QI kt2_ok JF (XL kknown) rfl rfl
end Go.Cm
end
end
