/-
  A part of the proof. Conditions: none.
-/
import Derived.Test.YtaiboeciecfgoaaGreatDoorRA3
import Derived.Test.YtaiboeciecfgoaaGreatDoorRP1
import Derived.Test.YtaiboeciecfgoaaGreatDoorProg
set_option linter.unusedSimpArgs false
set_option linter.unusedVariables false
open List renaming getD_eq_getElem?_getD→Ga,getElem?_eq_getElem→Gb
noncomputable section
section
open Go.RowKit
namespace Go.Cm
section
def noNG (P:Program):Bool:=P.funcs.toList.all fun fn=>fn.name != "runtime.NumGoroutine"
section
variable {P:Program}{E:Env}{H:List CObj}{m:Bk}{w w':World}
theorem Sim.grown (hs:Sim E m H w) (hsz:w.heap.size≤w'.heap.size) (hfr:∀ B,B < w.heap.size→w'.heap[B]? = w.heap[B]?):Sim E m H w':=by
 refine ⟨hs.len,fun k o x hk hx=>?_,fun B i v hv=>(cell?_congr (hfr _ (JbV hs hv))).trans (hs.imm B i v hv),hs.one,hs.sep,hs.ro,fun k s b hk=>?_,hs.extsep,fun B hB=>Nat.lt_of_lt_of_le (hs.extlt B hB) hsz,hs.gl.1.mono fun B hB=>hfr B (hs.gl.1.lt hB),hs.gl.2⟩
 ·by_cases hal:o.alive=true
  ·exact Kh (Kg.refl _) (J5.refl _) (fun _=>hfr _ (Xy hs hk hal hx)) (hs.obj k o x hk hx)
  ·cases o <;> simp[CObj.alive]at hal <;> trivial
 ·exact E.stable _ _ _ _ _ _ _ (hs.ext k s b hk) (fun B hB=>hfr B (hs.extlt B hB)) hsz (J5.refl _) (fun B i v h=>.inl h) (fun B i v hv=>(cell?_congr (hfr _ (JbV hs hv))).trans (hs.imm B i v hv)) hs.one
theorem Ext.grown {n0:Nat}(hsz:w.heap.size≤w'.heap.size) (hfr:∀ B,B < w.heap.size→w'.heap[B]? = w.heap[B]?) (hsame:w'.os=w.os∧w'.output=w.output∧w'.tape=w.tape):Ext n0 m H w m H w' where
 size:=hsz
 frame B hB _:=hfr B hB
 imm:=J5.refl _
 newOwn B h:=.inl h
 newImm B i v h:=.inl h
 base _ _ _ h:=h
 long h:=h
 same:=hsame
theorem Kc {f:Nat}{args:List CV}{v:CV}(h:∀ (m:Bk) (w:World) (vs:Array Value),Sim E m H w→JE m.own m.imm args vs.toList→∃ r,Calls P f vs w (fun e w'=>e=.returned r∧Below w.heap.size w w')∧rel m.own m.imm v r):CallsC P E f args H fun v' H'=>v'=v∧H'=H:=by
 intro m w vs hs hv
 obtain ⟨r,hc,hr⟩:=h m w vs hs hv
 refine ⟨trivial,fun cs _=>?_⟩
 obtain ⟨e,w',fr,⟨rfl,hb⟩,hst,hl⟩:=hc cs
 exact ⟨_,w',fr,⟨r,m,v,H,rfl,Ext.grown hb.size hb.block ⟨hb.os,hb.output,hb.tape⟩,hs.grown hb.size hb.block,hr,rfl,rfl⟩,(show StepsIn _ _ _ _ from Jf1 hst),hl⟩
end
end
end Go.Cm
end
section
open Go.Proofs
namespace Go.Cm
section
theorem JA:Tryz.prog.follows .mixedOrders=true:=by kernel_rfl
theorem JC:noNG Tryz.prog=true:=by kernel_rfl
theorem inr64 {x:Int}(h1 : -9223372036854775808≤x) (h2:x≤9223372036854775807):InR .i64 x:=⟨h1,h2⟩
theorem Ji {x:Int} (h1:-9223372036854775808≤x:=by omega) (h2:x≤9223372036854775807:=by omega):InR .i64 x:=inr64 h1 h2
abbrev S (l:List UInt8):CV:=.str ⟨⟨l⟩⟩
theorem S_size (l:List UInt8):(⟨⟨l⟩⟩:ByteArray).size=l.length:=rfl
theorem S_ext (l:List UInt8) (a b:Nat):(⟨⟨l⟩⟩:ByteArray).extract a b=⟨⟨(l.take b).drop a⟩⟩:=by
 apply ByteArray.ext
 rw[ByteArray.data_extract]
 apply Array.ext'
 simp[List.extract_eq_take_drop,List.drop_take]
theorem A_size (l:List UInt8):(⟨l⟩:Array UInt8).size=l.length:=rfl
theorem binS_eql (l m:List UInt8):binS .eql ⟨⟨l⟩⟩ ⟨⟨m⟩⟩=some (.tt,.bool (l == m)):=by
 simp[binS]
theorem binS_neq (l m:List UInt8):binS .neq ⟨⟨l⟩⟩ ⟨⟨m⟩⟩=some (.tt,.bool (!(l == m))):=by
 simp[binS]
theorem A_getD (l:List UInt8) (n:Nat):(⟨l⟩:Array UInt8).getD n 0=l.getD n 0:=by
 simp[Array.getD_eq_getD_getElem?,Ga]
theorem N_pred (n:Nat):((n:Int)-1).toNat=n-1:=by omega
theorem binS_add (l m:List UInt8):binS .add ⟨⟨l⟩⟩ ⟨⟨m⟩⟩=some (.ile ((l.length+m.length:Nat):Int) 9223372036854775807,.str ⟨⟨l++m⟩⟩):=by
 have:(⟨⟨l⟩⟩:ByteArray)++⟨⟨m⟩⟩=⟨⟨l++m⟩⟩:=by
  apply ByteArray.ext
  simp
 simp only[binS,this]
 rfl
attribute [go_sem] S_size A_size S_ext binS_eql binS_neq A_getD N_pred binS_add
def iz (l:List Int):List (List CV):=l.map fun i=>[.int .i64 i]
theorem Jf {l:List Int}:(iz l).length=l.length:=by simp[iz]
theorem JR {l:List Int}{i:Nat}(h:i < l.length):(iz l).getD i []=[.int .i64 (l.getD i 0)]:=by
 simp[iz,Ga,Gb h]
theorem J8 {l:List Int}{x:Int}:iz (l++[x])=iz l++[[.int .i64 x]]:=by simp[iz]
theorem Jd:∀ (l:List Int),Jq (iz l)=true
 |[]=>rfl
 |x::l=>by simp[iz,Jq,Jm,CV.closed]; exact Jd l
structure Nd where
 k:Nat
 text:List UInt8
 n:Int
 kids:List Int
 pl:Int
 deriving Inhabited
structure Tr where
 nodes:List Nd
 items:List Int
 deriving Inhabited
def Nd.cv (x:Nd):List CV:=[.int .u8 x.k,S x.text,.int .i64 x.n,.rslc 1 (iz x.kids) none,.int .i64 x.pl]
def ndz (l:List Nd):List (List CV):=l.map Nd.cv
def Tr.row (t:Tr):List CV:=[.rslc 5 (ndz t.nodes) none,.rslc 1 (iz t.items) none]
def Tr.cv (t:Tr):CV:=.agg t.row
theorem Nd.closed (x:Nd):Jm x.cv=true:=rfl
theorem Nd.len (x:Nd):x.cv.length=5:=rfl
theorem Nd.one (x:Nd):KX x.cv=true:=rfl
theorem Jc {l:List Nd}:(ndz l).length=l.length:=by simp[ndz]
theorem Kz {l:List Nd}{i:Nat}(h:i < l.length):(ndz l).getD i []=(l.getD i default).cv:=by
 simp[ndz,Ga,Gb h]
theorem JZ:∀ (l:List Nd),Jq (ndz l)=true
 |[]=>rfl
 |x::l=>by simp only[ndz,List.map_cons,Jq,Nd.closed,Bool.true_and]; exact JZ l
theorem Tr.closed (t:Tr):Jm t.row=true:=rfl
structure Nd.Fit (x:Nd):Prop where
 k:x.k < 256
 text:x.text.length≤60
 n:InR .i64 x.n
 kidn:x.kids.length≤30
 kids:∀ i∈x.kids,InR .i64 i
 pl:InR .i64 x.pl
structure Tr.Fit (t:Tr):Prop where
 many:t.nodes.length≤1400
 items:t.items.length≤40
 nodes:∀ x∈t.nodes,x.Fit
 iz:∀ i∈t.items,InR .i64 i
def Jt (l:List Nd) (k:Int):Nat:=(l.getD k.toNat default).k
def lets (l:List Nd) (x:Nd):List UInt8:=x.kids.map fun k=>JeJ (Jt l k)
theorem Qq {l:List Nd}{x:Nd}:(lets l x).length=x.kids.length:=by simp[lets]
theorem JaE {P:Program}(h:noNG P=true) (f:Nat):(P.funcs[f]?.map (·.name))≠some "runtime.NumGoroutine" :=by
 intro e
 cases hf:P.funcs[f]? with
 |none=>rw[hf]at e; cases e
 |some fn=>
  rw[hf]at e
  have h1:=List.all_eq_true.1 h fn (by simpa using Array.mem_of_getElem? hf)
  simp only[Option.map_some,Option.some.injEq]at e
  rw[e]at h1
  simp at h1
theorem kb {k m:Nat}(h:k≠m):((k:Int) == (m:Int))=false:=beq_eq_false_iff_ne.2 (by omega)
theorem kbo {k m:Nat}(h:¬ k=m):((k:Int) == no_index (@OfNat.ofNat Int m _))=false:=kb h
section
variable {P:Program}
theorem fn_of_rowT {f:Nat}{args:List CV}{z:Nat}{els:List (List CV)}{x:CV}(h:CallsC P Env.none f args [] fun v H'=>∃ id,v=.tup [QC id els,x]∧H'[id]? = some (Xu z els)) (ha:Jm args=true) (hc:Jq els=true) (hx:x.closed=true):Fn P f args (.tup [.rslc z els none,x]):=by
 refine fn_of ?_ ha (by simp[CV.closed,Jm,hx])
 intro m w vs hs hv
 refine (h m w vs hs hv).mono ?_
 rintro e w' ⟨r,m',v,H',h1,h2,h3,h4,id,rfl,g1⟩
 cases els with
 |nil=>
  refine ⟨r,m',_,H',h1,h2,h3,?_,rfl⟩
  simp only[rel,JE,QC]at h4 ⊢
  obtain ⟨vs',e1,r1,rs,e2,e3,e4⟩:=h4
  exact ⟨vs',e1,r1,rs,e2,.inl ⟨.inl trivial,trivial,none,e3⟩,e4⟩
 |cons e l=>
  obtain ⟨imm',hs',he,hf⟩:=Sim.freeze (n0:=([]:List CObj).length) h3 (by rw[g1]; rfl) hc
  refine ⟨r,_,_,_,h1,h2.trans he,hs',hf _ _ h4,?_⟩
  simp[frz,J2,QC,Xg x hx]
end
end
end Go.Cm
end
end
