/-
  A part of the proof. Conditions: none.
-/
import Derived.Test.YthbifneaknlfgaaGreatDoorJA3
import Derived.Below
import Derived.Test.YthbifneaknlfgaaGreatDoorJP1
import Derived.Test.YthbifneaknlfgaaGreatDoorProg
import Derived.KernelRfl
set_option linter.unusedSimpArgs false
set_option linter.unusedVariables false
open List renaming getD_eq_getElem?_getD→Gb,getElem?_eq_getElem→Gc
open Option.some renaming injEq→Ga
noncomputable section
section
open Go.RowKit
namespace Go.Cm
section
def noNG (P:Program):Bool:=P.funcs.toList.all fun fn=>fn.name != "runtime.NumGoroutine"
section
variable {P:Program}{E:Env}{H:List CObj}{m:Bk}{w w':World}
theorem Sim.grown (hs:Sim E m H w) (hsz:w.heap.size≤w'.heap.size) (hfr:∀ B,B < w.heap.size→w'.heap[B]? = w.heap[B]?):Sim E m H w':=by
 refine ⟨hs.len,fun k o x hk hx=>?_,fun B i v hv=>(cell?_congr (hfr _ (X6 hs hv))).trans (hs.imm B i v hv),hs.one,hs.sep,hs.ro,fun k s b hk=>?_,hs.extsep,fun B hB=>Nat.lt_of_lt_of_le (hs.extlt B hB) hsz,hs.gl.1.mono fun B hB=>hfr B (hs.gl.1.lt hB),hs.gl.2⟩
 ·by_cases hal:o.alive=true
  ·exact JW (J9.refl _) (JY.refl _) (fun _=>hfr _ (Qx hs hk hal hx)) (hs.obj k o x hk hx)
  ·cases o <;> simp[CObj.alive]at hal <;> trivial
 ·exact E.stable _ _ _ _ _ _ _ (hs.ext k s b hk) (fun B hB=>hfr B (hs.extlt B hB)) hsz (JY.refl _) (fun B i v h=>.inl h) (fun B i v hv=>(cell?_congr (hfr _ (X6 hs hv))).trans (hs.imm B i v hv)) hs.one
theorem Ext.grown {n0:Nat}(hsz:w.heap.size≤w'.heap.size) (hfr:∀ B,B < w.heap.size→w'.heap[B]? = w.heap[B]?) (hsame:w'.os=w.os∧w'.output=w.output∧w'.tape=w.tape):Ext n0 m H w m H w' where
 size:=hsz
 frame B hB _:=hfr B hB
 imm:=JY.refl _
 newOwn B h:=.inl h
 newImm B i v h:=.inl h
 base _ _ _ h:=h
 long h:=h
 same:=hsame
theorem JG {f:Nat}{args:List CV}{v:CV}(h:∀ (m:Bk) (w:World) (vs:Array Value),Sim E m H w→JC m.own m.imm args vs.toList→∃ r,Calls P f vs w (fun e w'=>e=.returned r∧Below w.heap.size w w')∧rel m.own m.imm v r):CallsC P E f args H fun v' H'=>v'=v∧H'=H:=by
 intro m w vs hs hv
 obtain ⟨r,hc,hr⟩:=h m w vs hs hv
 refine ⟨trivial,fun cs _=>?_⟩
 obtain ⟨e,w',fr,⟨rfl,hb⟩,hst,hl⟩:=hc cs
 exact ⟨_,w',fr,⟨r,m,v,H,rfl,Ext.grown hb.size hb.block ⟨hb.os,hb.output,hb.tape⟩,hs.grown hb.size hb.block,hr,rfl,rfl⟩,(show StepsIn _ _ _ _ from Jcq hst),hl⟩
end
end
end Go.Cm
end
section
open Go.Proofs
namespace Go.Cm
section
theorem JF:Tryz.prog.follows .mixedOrders=true:=by kernel_rfl
theorem Jl:noNG Tryz.prog=true:=by kernel_rfl
theorem Jm {x:Int}(h1 : -9223372036854775808≤x) (h2:x≤9223372036854775807):InR .i64 x:=⟨h1,h2⟩
abbrev S (l:List UInt8):CV:=.str ⟨⟨l⟩⟩
theorem S_size (l:List UInt8):(⟨⟨l⟩⟩:ByteArray).size=l.length:=rfl
theorem S_ext (l:List UInt8) (a b:Nat):(⟨⟨l⟩⟩:ByteArray).extract a b=⟨⟨(l.take b).drop a⟩⟩:=by
 apply ByteArray.ext
 rw[ByteArray.data_extract]
 apply Array.ext'
 simp[List.extract_eq_take_drop,List.drop_take]
theorem A_size (l:List UInt8):(⟨l⟩:Array UInt8).size=l.length:=rfl
theorem binS_eql (l m:List UInt8):binS .eql ⟨⟨l⟩⟩ ⟨⟨m⟩⟩=some (.tt,.bool (l == m)):=by
 simp[binS]
theorem binS_neq (l m:List UInt8):binS .neq ⟨⟨l⟩⟩ ⟨⟨m⟩⟩=some (.tt,.bool (!(l == m))):=by
 simp[binS]
theorem A_getD (l:List UInt8) (n:Nat):(⟨l⟩:Array UInt8).getD n 0=l.getD n 0:=by
 simp[Array.getD_eq_getD_getElem?,Gb]
theorem N_pred (n:Nat):((n:Int)-1).toNat=n-1:=by omega
theorem binS_add (l m:List UInt8):binS .add ⟨⟨l⟩⟩ ⟨⟨m⟩⟩=some (.ile ((l.length+m.length:Nat):Int) 9223372036854775807,.str ⟨⟨l++m⟩⟩):=by
 have:(⟨⟨l⟩⟩:ByteArray)++⟨⟨m⟩⟩=⟨⟨l++m⟩⟩:=by
  apply ByteArray.ext
  simp
 simp only[binS,this]
 rfl
attribute [go_sem] S_size A_size S_ext binS_eql binS_neq A_getD N_pred binS_add
def iz (l:List Int):List (List CV):=l.map fun i=>[.int .i64 i]
theorem Jn {l:List Int}:(iz l).length=l.length:=by simp[iz]
theorem Kb {l:List Int}{i:Nat}(h:i < l.length):(iz l).getD i []=[.int .i64 (l.getD i 0)]:=by
 simp[iz,Gb,Gc h]
theorem YS {l:List Int}{x:Int}:iz (l++[x])=iz l++[[.int .i64 x]]:=by simp[iz]
theorem JX:∀ (l:List Int),Jr (iz l)=true
 |[]=>rfl
 |x::l=>by simp[iz,Jr,Js,CV.closed]; exact JX l
structure Nd where
 k:Nat
 text:List UInt8
 n:Int
 kids:List Int
 pl:Int
 deriving Inhabited
structure Tr where
 nodes:List Nd
 items:List Int
 deriving Inhabited
def Nd.cv (x:Nd):List CV:=[.int .u8 x.k,S x.text,.int .i64 x.n,.rslc 1 (iz x.kids) none,.int .i64 x.pl]
def ndz (l:List Nd):List (List CV):=l.map Nd.cv
def Tr.row (t:Tr):List CV:=[.rslc 5 (ndz t.nodes) none,.rslc 1 (iz t.items) none]
def Tr.cv (t:Tr):CV:=.agg t.row
theorem Nd.closed (x:Nd):Js x.cv=true:=rfl
theorem Nd.len (x:Nd):x.cv.length=5:=rfl
theorem Nd.one (x:Nd):KX x.cv=true:=rfl
theorem Ja {l:List Nd}:(ndz l).length=l.length:=by simp[ndz]
theorem Ka {l:List Nd}{i:Nat}(h:i < l.length):(ndz l).getD i []=(l.getD i default).cv:=by
 simp[ndz,Gb,Gc h]
theorem JK:∀ (l:List Nd),Jr (ndz l)=true
 |[]=>rfl
 |x::l=>by simp only[ndz,List.map_cons,Jr,Nd.closed,Bool.true_and]; exact JK l
theorem Tr.closed (t:Tr):Js t.row=true:=rfl
structure Nd.Fit (x:Nd):Prop where
 k:x.k < 256
 text:x.text.length≤60
 n:InR .i64 x.n
 kidn:x.kids.length≤30
 kids:∀ i∈x.kids,InR .i64 i
 pl:InR .i64 x.pl
structure Tr.Fit (t:Tr):Prop where
 many:t.nodes.length≤1400
 items:t.items.length≤40
 nodes:∀ x∈t.nodes,x.Fit
 iz:∀ i∈t.items,InR .i64 i
def Jj (l:List Nd) (k:Int):Nat:=(l.getD k.toNat default).k
def lets (l:List Nd) (x:Nd):List UInt8:=x.kids.map fun k=>letB (Jj l k)
theorem Jal {l:List Nd}{x:Nd}:(lets l x).length=x.kids.length:=by simp[lets]
theorem QA {P:Program}(h:noNG P=true) (f:Nat):(P.funcs[f]?.map (·.name))≠some "runtime.NumGoroutine" :=by
 intro e
 cases hf:P.funcs[f]? with
 |none=>rw[hf]at e; cases e
 |some fn=>
  rw[hf]at e
  have h1:=List.all_eq_true.1 h fn (by simpa using Array.mem_of_getElem? hf)
  simp only[Option.map_some,Ga]at e
  rw[e]at h1
  simp at h1
theorem kb {k m:Nat}(h:k≠m):((k:Int) == (m:Int))=false:=beq_eq_false_iff_ne.2 (by omega)
theorem kbo {k m:Nat}(h:¬ k=m):((k:Int) == no_index (@OfNat.ofNat Int m _))=false:=kb h
section
variable {P:Program}
theorem fn_of_rowT {f:Nat}{args:List CV}{z:Nat}{els:List (List CV)}{x:CV}(h:CallsC P Env.none f args [] fun v H'=>∃ id,v=.tup [KP id els,x]∧H'[id]? = some (Xb z els)) (ha:Js args=true) (hc:Jr els=true) (hx:x.closed=true):Fn P f args (.tup [.rslc z els none,x]):=by
 refine fn_of ?_ ha (by simp[CV.closed,Js,hx])
 intro m w vs hs hv
 refine (h m w vs hs hv).mono ?_
 rintro e w' ⟨r,m',v,H',h1,h2,h3,h4,id,rfl,g1⟩
 cases els with
 |nil=>
  refine ⟨r,m',_,H',h1,h2,h3,?_,rfl⟩
  simp only[rel,JC,KP]at h4 ⊢
  obtain ⟨vs',e1,r1,rs,e2,e3,e4⟩:=h4
  exact ⟨vs',e1,r1,rs,e2,.inl ⟨.inl trivial,trivial,none,e3⟩,e4⟩
 |cons e l=>
  obtain ⟨imm',hs',he,hf⟩:=Sim.freeze (n0:=([]:List CObj).length) h3 (by rw[g1]; rfl) hc
  refine ⟨r,_,_,_,h1,h2.trans he,hs',hf _ _ h4,?_⟩
  simp[frz,Kt,KP,Xo x hx]
end
end
section
def Xm:List (CV×CV)→Bool
 |[]=>true
 |p::l=>p.1.closed && (p.2.closed && Xm l)
theorem Jcc:∀ {l:List (CV×CV)},Xm l=true→∀ (i:Nat) k v,l[i]? = some (k,v)→k.closed=true∧v.closed=true
 |[],_,i,k,v,h=>by simp at h
 |p::l,hc,0,k,v,h=>by
  simp only[Xm,Bool.and_eq_true]at hc
  simp at h; subst h
  exact ⟨hc.1,hc.2.1⟩
 |p::l,hc,i+1,k,v,h=>by
  simp only[Xm,Bool.and_eq_true]at hc
  exact Jcc hc.2.2 i k v (by simpa using h)
theorem map_rel {own own':List Own}{imm:Nat→Nat→Option Value}{x:Own}{kvs:List (CV×CV)}{w:World}(hc:Xm kvs=true) (h:Xr own imm x (.map kvs) w):Xr own' imm x (.map kvs) w:=by
 obtain ⟨es,clock,h1,h2,h3⟩:=h
 refine ⟨es,clock,h1,h2,fun i k v e hk he=>?_⟩
 obtain ⟨c1,c2⟩:=Jcc hc i k v hk
 exact ⟨KL _ _ c1 (h3 i k v e hk he).1,KL _ _ c2 (h3 i k v e hk he).2⟩
section
variable {P:Program}{E:Env}{H:List CObj}{m:Bk}{w w':World}{id:Nat}{kvs:List (CV×CV)}{x:Own}
theorem Sim.only (hs:Sim E m H w) (hid:H[id]? = some (.map kvs)) (hx:m.own[id]? = some x) (hc:Xm kvs=true):Sim Env.none { own:=[x],imm:=m.imm,ext:=fun _=>False } [.map kvs] w where
 len:=rfl
 obj k o y hk hy:=by
  cases k with
  |zero=>
   simp at hk hy
   subst hk hy
   exact map_rel hc (hs.obj id _ x hid hx)
  |succ k=>simp at hk
 imm:=hs.imm
 one:=hs.one
 sep k k' o o' y y' hk hk' _ _ _ _ _:=by
  cases k <;> cases k' <;> simp at hk hk' ⊢
 ro k o y hk _ hy i hi:=by
  cases k with
  |zero=>
   simp at hk hy
   subst hk hy
   exact hs.ro id _ x hid rfl hx i hi
  |succ k=>simp at hk
 ext k s b hk:=by
  cases k with
  |zero=>simp at hk
  |succ k=>simp at hk
 extsep k o y hk _ hy:=by
  cases k with
  |zero=>
   simp at hk hy
   subst hk hy
   have:=hs.extsep id _ x hid rfl hx
   exact fun h=>this (h.imp (fun h=>h.elim) fun h=>h)
  |succ k=>simp at hk
 extlt B h:=hs.gl.1.lt (h.resolve_left fun h=>h)
 gl:=⟨hs.gl.1,fun B h=>h.elim⟩
theorem Sim.backOnly {m':Bk}{H':List CObj}(hs:Sim E m H w) (hid:H[id]? = some (.map kvs)) (hx:m.own[id]? = some x) (hc:Xm kvs=true)
  (hext:Ext 1 { own:=[x],imm:=m.imm,ext:=fun _=>False } [.map kvs] w m' H' w') (hs':Sim Env.none m' H' w') (h0:H'[0]? = some (.map kvs)) :
  Sim E { m with imm:=m'.imm } H w'∧∀ n1,Ext n1 m H w { m with imm:=m'.imm } H w':=by
 have hown:∀ B,owned { own:=[x],imm:=m.imm,ext:=fun _=>False } [.map kvs] B→B=x.B:=by
  rintro B (h | ⟨k,o,y,hk,_,hy,rfl⟩)
  ·exact h.elim
  ·cases k with
   |zero=>simp at hy; rw[hy]
   |succ k=>simp at hk
 have hox:owned m H x.B:=.inr ⟨id,_,x,hid,rfl,hx,rfl⟩
 have h0x:m'.own[0]? = some x:=hext.base 0 x (by omega) rfl
 have hfr:∀ B,B < w.heap.size→B≠x.B→w'.heap[B]? = w.heap[B]?:=fun B hB hne=>hext.frame B hB fun h=>hne (hown B h)
 have hi:JY m.imm m'.imm:=hext.imm
 have hnew:∀ B i v,m'.imm B i=some v→m.imm B i=some v∨B=x.B∨w.heap.size≤B:=fun B i v hv=>by
  rcases hext.newImm B i v hv with h | h | h
  ·exact .inl h
  ·exact .inr (.inl (hown B h))
  ·exact .inr (.inr h)
 have hsx:=hs.extsep id _ x hid rfl hx
 refine ⟨⟨hs.len,fun k o y hk hy=>?_,hs'.imm,hs'.one,hs.sep,fun k o y hk hal hy i hyi=>?_,fun k s b hk=>?_,hs.extsep,fun B hB=>Nat.lt_of_lt_of_le (hs.extlt B hB) hext.size,hs'.gl.1,hs.gl.2⟩,fun n1=>⟨hext.size,fun B hB hn=>hfr B hB fun e=>hn (e▸hox),hi,fun B ho=>.inl ho,fun B i v hv=>?_,fun _ _ _ h=>h,fun h=>h,hext.same⟩⟩
 ·by_cases hal:o.alive=true
  ·by_cases hkid:k=id
   ·subst hkid
    rw[hid,Ga]at hk
    rw[hx,Ga]at hy
    subst hk hy
    exact map_rel hc (hs'.obj 0 _ x h0 h0x)
   ·have hne:y.B≠x.B:=fun e=>hkid (hs.sep k id o _ y x hk hid hal rfl hy hx e)
    exact JW (J9.refl _) hi (fun _=>hfr _ (Qx hs hk hal hy) hne) (hs.obj k o y hk hy)
  ·cases o <;> simp[CObj.alive]at hal <;> trivial
 ·by_cases hkid:k=id
  ·subst hkid
   rw[hid,Ga]at hk
   rw[hx,Ga]at hy
   subst hk hy
   exact hs'.ro 0 _ x h0 rfl h0x i hyi
  ·have hne:y.B≠x.B:=fun e=>hkid (hs.sep k id o _ y x hk hid hal rfl hy hx e)
   cases hv:m'.imm y.B i with
   |none=>rfl
   |some v=>
    rcases hnew _ _ _ hv with h | h | h
    ·rw[hs.ro k o y hk hal hy i hyi]at h; cases h
    ·exact absurd h hne
    ·have:=Qx hs hk hal hy; omega
 ·exact E.stable _ _ _ _ _ _ _ (hs.ext k s b hk) (fun B hB=>hfr B (hs.extlt B hB) fun e=>hsx (e▸hB)) hext.size hi (fun B i v hv=>by
   rcases hnew B i v hv with h | h | h
   ·exact .inl h
   ·exact .inr fun hb=>hsx (.inl (h▸hb))
   ·exact .inr fun hb=>by have:=hs.extlt B (.inl hb); omega) hs'.imm hs'.one
 ·rcases hnew B i v hv with h | h | h
  ·exact .inl h
  ·exact .inr (.inl (h▸hox))
  ·exact .inr (.inr h)
def Moves (al:Nat→List CV):Prop:=∀ (own own':List Own) (imm:Nat→Nat→Option Value) (x:Own) (id id':Nat) (vs:List Value),own[id]? = some x→own'[id']? = some x→JC own imm (al id) vs→JC own' imm (al id') vs
def FnM (P:Program) (kvs:List (CV×CV)) (f:Nat) (al:Nat→List CV) (v:CV):Prop:=∀ (E:Env) (H:List CObj) (id:Nat),H[id]? = some (.map kvs)→Pure P E f (al id) H v
theorem fnM_of {f:Nat}{al:Nat→List CV}{v:CV}(h:CallsC P Env.none f (al 0) [.map kvs] fun v' H'=>v'=v∧H'[0]? = some (.map kvs)) (hc:Xm kvs=true) (ha:Moves al) (hv:v.closed=true):FnM P kvs f al v:=by
 intro E H id hid m w vs hs hvs
 obtain ⟨x,hx⟩:∃ x,m.own[id]? = some x:=⟨_,Gc (by rw[hs.len]; exact (List.getElem?_eq_some_iff.1 hid).1)⟩
 refine (h _ w vs (hs.only hid hx hc) (ha _ _ _ x id 0 _ hx rfl hvs)).mono ?_
 rintro e w' ⟨r,m',v',H',rfl,hext,hs',hrel,rfl,h0⟩
 obtain ⟨h1,h2⟩:=hs.backOnly hid hx hc hext hs' h0
 exact ⟨r,{ m with imm:=m'.imm },v',H,rfl,h2 _,h1,KL v' r hv hrel,rfl,rfl⟩
variable {n0:Nat}{N:Fr}{Q:Exit→List CV→List CObj→Prop}{T:List CV}{k:List KItem}
theorem vr_fM {d:Option Nat}{g:Option (Nat×Bool)}{f:Nat}{ags:List IArg}{l:List IOper}{al:Nat→List CV}{v:CV}(hid:H[id]? = some (.map kvs)) (hg:GOk T g) (hcall:FnM P kvs f al v) (ha:ags.map (JM T)=al id) (h:Kv P E n0 N Q (.ops l::k) (put T d v) H):Ok P E n0 N Q (.ops (⟨d,.call f ags,g⟩::l)::k) T H:=
 JeC hg (by rw[ha]; exact hcall E H id hid) h
end
end
end Go.Cm
end
end
