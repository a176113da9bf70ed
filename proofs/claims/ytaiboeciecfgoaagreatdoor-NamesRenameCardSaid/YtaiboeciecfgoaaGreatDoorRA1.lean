/-
  A part of the proof. Conditions: none.
-/
import Derived.RangeFuncWrites
import Derived.KernelRfl
import Derived.Laws.Sem
import Derived.Laws.World
import Derived.OrdersIn
import Derived.Lib.ItoaNum
import Derived.Laws.StructEq
import Derived.Laws.CopyRow
import Derived.Laws.Rows
import Derived.ChangeKeysEq
import Derived.Laws.BitsLemmas
set_option linter.unusedSimpArgs false
set_option linter.unusedVariables false
open Array renaming length_toList→Gi,getElem?_eq_getElem→Gn,getElem?_push_lt→Gr,getElem?_eq_some_iff→Gz,mem_of_getElem?→GL,range→GA,mem_toList_iff→GY,getElem?_map→GZ
open List renaming getElem?_append_left→Gc,getElem?_eq_some_iff→Gd,getElem?_eq_getElem→Gh,getElem?_set→Gf,length_append→Gj,getElem?_append_right→Gs,length_take→Gl,length_drop→Gm,getElem?_take_of_lt→GD,getElem?_drop→Gx,take_of_length_le→GG,getD→Gp,drop_eq_getElem_cons→GM,flatten_cons→GH,replicate→GI,append_assoc→GN,eq_nil_of_length_eq_zero→G5,range→GJ,map_cons→GQ,take_append_drop→G6,getElem?_toArray→G7,take_succ_cons→G8,length_cons→G9,cons_append→Ha,mem_append→Hd,drop_drop→He,length→Hf
open Nat renaming add_mul→Gg,mul_le_mul_right→Gt,le_refl→Gu,one_mul→Gy,add_assoc→GK,le_trans→GR,add_zero→GU
open BitVec renaming ofInt→Gv
open Option.some renaming injEq→Ga
open Prod.mk renaming injEq→Gb
open Bool renaming false_eq_true→Gq,false_or→Hg
open Option renaming getD_some→Gw,map_some→GV,map→GX,getD_none→Hl
noncomputable section
section
namespace Go.Cm
def gN:Nat:=6
def gTab:Nat:=2
def gErr:List Nat:=[0,1]
def glP (f:Nat→Option Obj):Prop:=
 (∀ B,B < gN→∃ c e q,f B=some (.cells c e q))∧(∃ e q,f gTab=some (.cells (Lib.pow10Tab.map fun z=>Value.int .u64 z).toArray e q))∧∀ B∈gErr,∃ te pe e q,f B=some (.cells #[.iface te pe] e q)
def GLw (w:World):Prop:=glP fun B=>if B < gN then w.heap[B]? else none
theorem GLw.mono {w w':World}(h:GLw w) (hf:∀ B,B < gN→w'.heap[B]? = w.heap[B]?):GLw w':=by
 unfold GLw at h ⊢
 have e:(fun B=>if B < gN then w'.heap[B]? else none)=fun B=>if B < gN then w.heap[B]? else none:=by
  funext B
  split
  ·rename_i hB; exact hf B hB
  ·rfl
 rw[e]; exact h
theorem GLw.lt {w:World}(h:GLw w) {B:Nat}(hB:B < gN):B < w.heap.size:=by
 obtain ⟨c,e,q,ho⟩:=h.1 B hB
 simp only[if_pos hB]at ho
 exact (Gz.1 ho).1
theorem GLw.cells {w:World}(h:GLw w) {B:Nat}(hB:B < gN) {x:Obj}(hx:w.heap[B]? = some x):∃ c e q,x=.cells c e q:=by
 obtain ⟨c,e,q,ho⟩:=h.1 B hB
 simp only[if_pos hB]at ho
 rw[hx]at ho
 exact ⟨c,e,q,Option.some.inj ho⟩
theorem Jn {p:Prop} (h:p:=by omega):p=True:=eq_true h
theorem Jj {p:Prop} (h:¬p:=by omega):p=False:=eq_false h
inductive CV where
 |un
 |bool (b:Bool)
 |int (k:IntKind) (n:Int)
 |str (s:ByteArray)
 |nilp
 |ptr (id i off:Nat)
 |rptr (cs:List CV)
 |nils
 |slc (id off len:Nat) (cap:Option Nat)
 |rslc (z:Nat) (els:List (List CV)) (cap:Option Nat)
 |nilm
 |map (id:Nat)
 |fn (f:Nat) (first captured:List CV)
 |yld (l:Nat)
 |nilf
 |iface (t:Nat) (v:CV)
 |nili
 |agg (l:List CV)
 |tup (l:List CV)
 deriving Inhabited
structure Own where
 B:Nat
 o:Nat
 n:Nat
 z:Nat
structure Bk where
 own:List Own
 imm:Nat→Nat→Option Value
 ext:Nat→Prop
mutual
def rel (own:List Own) (imm:Nat→Nat→Option Value):CV→Value→Prop
 |.un,_=>True
 |.bool b,v=>v=.bool b
 |.int k n,v=>v=.int k n
 |.str s,v=>v=.string s
 |.nilp,v=>v=.pointer none
 |.ptr id i off,v=>∃ x,own[id]? = some x∧v=.pointer (some ⟨x.B,x.o+i*x.z+off,none⟩)
 |.rptr cs,v=>∃ B o,v=.pointer (some ⟨B,o,none⟩)∧Jcm imm cs (imm B) o
 |.nils,v=>v=.slice none 0 0
 |.slc id off len cap,v=>∃ x a c,own[id]? = some x∧v=.slice (some a) len c∧len≤c∧(∀ n,cap=some n→c=n)∧
   (c≠0→a=⟨x.B,x.o+off*x.z,none⟩)∧x.o+off*x.z+c*x.z≤x.n
 |.rslc z els cap,v=>((cap=none∨cap=some 0)∧els=[]∧∃ b,v=.slice b 0 0)∨∃ B o c,v=.slice (some ⟨B,o,none⟩) els.length c∧els.length≤c∧(∀ n,cap=some n→c=n)∧Qv imm z els (imm B) o
 |.nilm,v=>v=.map none
 |.map id,v=>∃ x,own[id]? = some x∧v=.map (some x.B)
 |.fn f l1 l2,v=>∃ vs1 vs2,v=.func (.func f) vs1 vs2∧JE own imm l1 vs1.toList∧JE own imm l2 vs2.toList
 |.yld l,v=>v=.func (.yield l) #[] #[]
 |.nilf,v=>v=.nilFunc
 |.iface t c,v=>∃ r,v=.iface t r∧rel own imm c r
 |.nili,v=>v=.nilIface
 |.agg l,v=>∃ vs,v=.agg vs∧JE own imm l vs.toList
 |.tup l,v=>∃ vs,v=.tuple vs∧JE own imm l vs.toList
def JE (own:List Own) (imm:Nat→Nat→Option Value):List CV→List Value→Prop
 |[],vs=>vs=[]
 |c::cs,vs=>∃ r rs,vs=r::rs∧rel own imm c r∧JE own imm cs rs
def Jcm (imm:Nat→Nat→Option Value):List CV→(Nat→Option Value)→Nat→Prop
 |[],_,_=>True
 |c::cs,R,o=>(∃ r,R o=some r∧rel [] imm c r)∧Jcm imm cs R (o+1)
def Qv (imm:Nat→Nat→Option Value) (z:Nat):List (List CV)→(Nat→Option Value)→Nat→Prop
 |[],_,_=>True
 |e::es,R,o=>e.length=z∧Jcm imm e R o∧Qv imm z es R (o+z)
end
def Kg (a b:List Own):Prop:=∀ (i:Nat) x,a[i]? = some x→b[i]? = some x
def J5 (f g:Nat→Nat→Option Value):Prop:=∀ B i v,f B i=some v→g B i=some v
theorem Kg.refl (a:List Own):Kg a a:=fun _ _ h=>h
theorem Kg.trans {a b c:List Own}(h:Kg a b) (k:Kg b c):Kg a c:=fun i x e=>k i x (h i x e)
theorem Kg.nil (a:List Own):Kg [] a:=fun i x e=>by simp at e
theorem Kg.append (a b:List Own):Kg a (a++b):=fun i x e=>by
 rw[Gc (Gd.1 e).1]; exact e
theorem J5.refl (f:Nat→Nat→Option Value):J5 f f:=fun _ _ _ h=>h
theorem J5.trans {f g h:Nat→Nat→Option Value}(a:J5 f g) (b:J5 g h):J5 f h:=fun B i v e=>b B i v (a B i v e)
mutual
theorem QH {own own':List Own}{imm imm':Nat→Nat→Option Value}(ho:Kg own own') (hi:J5 imm imm'):∀ (c:CV) (v:Value),rel own imm c v→rel own' imm' c v
 |.un,_,h=>by simp only[rel]
 |.bool _,_,h=>by simp only[rel]at h ⊢; exact h
 |.int _ _,_,h=>by simp only[rel]at h ⊢; exact h
 |.str _,_,h=>by simp only[rel]at h ⊢; exact h
 |.nilp,_,h=>by simp only[rel]at h ⊢; exact h
 |.ptr _ _ _,_,h=>by
  simp only[rel]at h ⊢
  obtain ⟨x,hx,e⟩:=h
  exact ⟨x,ho _ _ hx,e⟩
 |.rptr cs,_,h=>by
  simp only[rel]at h ⊢
  obtain ⟨B,o,e,r⟩:=h
  exact ⟨B,o,e,Jcl hi cs _ _ o (fun i v=>hi B i v) r⟩
 |.nils,_,h=>by simp only[rel]at h ⊢; exact h
 |.slc _ _ _ _,_,h=>by
  simp only[rel]at h ⊢
  obtain ⟨x,a,c,hx,e⟩:=h
  exact ⟨x,a,c,ho _ _ hx,e⟩
 |.rslc z els _,_,h=>by
  simp only[rel]at h ⊢
  rcases h with h | ⟨B,o,c,e,h1,h2,r⟩
  ·exact .inl h
  ·exact .inr ⟨B,o,c,e,h1,h2,JdJ hi z els _ _ o (fun i v=>hi B i v) r⟩
 |.nilm,_,h=>by simp only[rel]at h ⊢; exact h
 |.map _,_,h=>by
  simp only[rel]at h ⊢
  obtain ⟨x,hx,e⟩:=h
  exact ⟨x,ho _ _ hx,e⟩
 |.fn _ l1 l2,_,h=>by
  simp only[rel]at h ⊢
  obtain ⟨vs1,vs2,e,h1,h2⟩:=h
  exact ⟨vs1,vs2,e,Ki ho hi l1 _ h1,Ki ho hi l2 _ h2⟩
 |.yld _,_,h=>by simp only[rel]at h ⊢; exact h
 |.nilf,_,h=>by simp only[rel]at h ⊢; exact h
 |.iface _ c,_,h=>by
  simp only[rel]at h ⊢
  obtain ⟨r,e,h1⟩:=h
  exact ⟨r,e,QH ho hi c _ h1⟩
 |.nili,_,h=>by simp only[rel]at h ⊢; exact h
 |.agg l,_,h=>by
  simp only[rel]at h ⊢
  obtain ⟨vs,e,h1⟩:=h
  exact ⟨vs,e,Ki ho hi l _ h1⟩
 |.tup l,_,h=>by
  simp only[rel]at h ⊢
  obtain ⟨vs,e,h1⟩:=h
  exact ⟨vs,e,Ki ho hi l _ h1⟩
theorem Ki {own own':List Own}{imm imm':Nat→Nat→Option Value}(ho:Kg own own') (hi:J5 imm imm'):∀ (l:List CV) (vs:List Value),JE own imm l vs→JE own' imm' l vs
 |[],_,h=>by simp only[JE]at h ⊢; exact h
 |c::cs,_,h=>by
  simp only[JE]at h ⊢
  obtain ⟨r,rs,e,h1,h2⟩:=h
  exact ⟨r,rs,e,QH ho hi c _ h1,Ki ho hi cs _ h2⟩
theorem Jcl {imm imm':Nat→Nat→Option Value}(hi:J5 imm imm'):∀ (cs:List CV) (R R':Nat→Option Value) (o:Nat),(∀ i v,R i=some v→R' i=some v)→Jcm imm cs R o→Jcm imm' cs R' o
 |[],_,_,_,_,_=>by simp only[Jcm]
 |c::cs,R,R',o,hR,h=>by
  simp only[Jcm]at h ⊢
  obtain ⟨⟨r,e,h1⟩,h2⟩:=h
  exact ⟨⟨r,hR _ _ e,QH (Kg.nil _) hi c _ h1⟩,Jcl hi cs R R' _ hR h2⟩
theorem JdJ {imm imm':Nat→Nat→Option Value}(hi:J5 imm imm'):∀ (z:Nat) (els:List (List CV)) (R R':Nat→Option Value) (o:Nat),(∀ i v,R i=some v→R' i=some v)→Qv imm z els R o→Qv imm' z els R' o
 |_,[],_,_,_,_,_=>by simp only[Qv]
 |z,e::es,R,R',o,hR,h=>by
  simp only[Qv]at h ⊢
  obtain ⟨h0,h1,h2⟩:=h
  exact ⟨h0,Jcl hi e R R' _ hR h1,JdJ hi z es R R' _ hR h2⟩
end
theorem Yk {imm:Nat→Nat→Option Value}{R:Nat→Option Value}:∀ (cs:List CV) (o:Nat),Jcm imm cs R o↔∀ (t:Nat) c,cs[t]? = some c→∃ r,R (o+t)=some r∧rel [] imm c r
 |[],o=>by simp[Jcm]
 |c::cs,o=>by
  simp only[Jcm,Yk cs]
  constructor
  ·rintro ⟨h1,h2⟩ t d hd
   cases t with
   |zero=>simp at hd; subst hd; simpa using h1
   |succ t=>simp at hd; have:=h2 t d hd; rw[show o+(t+1)=o+1+t by omega]; exact this
  ·intro h
   refine ⟨by simpa using h 0 c rfl,fun t d hd=>?_⟩
   have:=h (t+1) d (by simpa using hd)
   rw[show o+(t+1)=o+1+t by omega]at this; exact this
theorem KC {imm:Nat→Nat→Option Value}{R:Nat→Option Value}{z:Nat}:∀ (els:List (List CV)) (o:Nat),Qv imm z els R o↔
  ∀ (j:Nat) e,els[j]? = some e→e.length=z∧∀ (t:Nat) c,e[t]? = some c→∃ r,R (o+j*z+t)=some r∧rel [] imm c r
 |[],o=>by simp[Qv]
 |e::es,o=>by
  simp only[Qv,KC es,Yk]
  constructor
  ·rintro ⟨h0,h1,h2⟩ j d hd
   cases j with
   |zero=>simp at hd; subst hd; simpa using ⟨h0,h1⟩
   |succ j=>simp at hd; have:=h2 j d hd; rw[show o+(j+1)*z=o+z+j*z by rw[Gg]; omega]; exact this
  ·intro h
   have h0:=h 0 e rfl
   refine ⟨h0.1,by simpa using h0.2,fun j d hd=>?_⟩
   have:=h (j+1) d (by simpa using hd)
   rw[show o+(j+1)*z=o+z+j*z by rw[Gg]; omega]at this; exact this
theorem QY {own:List Own}{imm:Nat→Nat→Option Value}:∀ (l:List CV) (vs:List Value),JE own imm l vs↔l.length=vs.length∧∀ (i:Nat) c v,l[i]? = some c→vs[i]? = some v→rel own imm c v
 |[],vs=>by
  cases vs <;> simp[JE]
 |c::cs,vs=>by
  cases vs with
  |nil=>simp[JE]
  |cons v vs=>
   simp only[JE,List.cons.injEq]
   constructor
   ·rintro ⟨r,rs,⟨rfl,rfl⟩,h1,h2⟩
    obtain ⟨hl,h2⟩:=(QY cs vs).1 h2
    refine ⟨by simp[hl],fun i d e hd he=>?_⟩
    cases i with
    |zero=>simp at hd he; subst hd; subst he; exact h1
    |succ i=>simp at hd he; exact h2 i d e hd he
   ·rintro ⟨hl,h⟩
    refine ⟨v,vs,⟨rfl,rfl⟩,h 0 c v rfl rfl,(QY cs vs).2 ⟨by simpa using hl,fun i d e hd he=>h (i+1) d e (by simpa using hd) (by simpa using he)⟩⟩
theorem Ju {own:List Own}{imm:Nat→Nat→Option Value}{l:List CV}{vs:List Value}(h:JE own imm l vs):l.length=vs.length:=((QY _ _).1 h).1
theorem Xj {own:List Own}{imm:Nat→Nat→Option Value}{l:List CV}{vs:List Value}(h:JE own imm l vs) {i:Nat}{c:CV}(hc:l[i]? = some c):∃ v,vs[i]? = some v∧rel own imm c v:=by
 obtain ⟨hl,h⟩:=(QY _ _).1 h
 have hi:i < vs.length:=hl▸(Gd.1 hc).1
 exact ⟨vs[i],Gh hi,h i c _ hc (Gh hi)⟩
theorem Qf {own:List Own}{imm:Nat→Nat→Option Value}{l l':List CV}{vs vs':List Value}(h:JE own imm l vs) (h':JE own imm l' vs'):JE own imm (l++l') (vs++vs'):=by
 induction l generalizing vs with
 |nil=>simp only[JE]at h; subst h; simpa using h'
 |cons c cs ih=>
  simp only[JE]at h
  obtain ⟨r,rs,rfl,h1,h2⟩:=h
  simp only[Ha,JE]
  exact ⟨r,rs++vs',rfl,h1,ih h2⟩
theorem rels_set {own:List Own}{imm:Nat→Nat→Option Value}{l:List CV}{vs:List Value}(h:JE own imm l vs) (i:Nat) {c:CV}{v:Value}(hc:rel own imm c v):JE own imm (l.set i c) (vs.set i v):=by
 rw[QY]at h ⊢
 refine ⟨by simpa using h.1,fun j d e hd he=>?_⟩
 rw[Gf]at hd he
 split at hd
 ·rename_i hij
  subst hij
  rw[if_pos rfl]at he
  split at hd <;> simp at hd
  split at he <;> simp at he
  subst hd; subst he; exact hc
 ·rename_i hij
  rw[if_neg hij]at he
  exact h.2 j d e hd he
theorem JbH {own:List Own}{imm:Nat→Nat→Option Value}{l:List CV}{vs:List Value}(h:JE own imm l vs) (n:Nat):JE own imm (l.take n) (vs.take n):=by
 rw[QY]at h ⊢
 refine ⟨by simp[h.1],fun j d e hd he=>?_⟩
 rw[List.getElem?_take]at hd he
 split at hd <;> simp_all
 exact h.2 j d e hd he
theorem JbI {own:List Own}{imm:Nat→Nat→Option Value}{l:List CV}{vs:List Value}(h:JE own imm l vs) (n:Nat):JE own imm (l.drop n) (vs.drop n):=by
 rw[QY]at h ⊢
 refine ⟨by simp[h.1],fun j d e hd he=>?_⟩
 rw[Gx]at hd he
 exact h.2 _ d e hd he
inductive CObj where
 |arr (z:Nat) (els:List (List CV))
 |map (kvs:List (CV×CV))
 |dead
 |ext (s:Nat) (b:Bool)
 deriving Inhabited
def CObj.alive:CObj→Bool
 |.arr _ _=>true
 |.map _=>true
 |_=>false
def relO (own:List Own) (imm:Nat→Nat→Option Value) (z:Nat) (els:List (List CV)) (R:Nat→Option Value) (o:Nat):Prop:=
 ∀ (j:Nat) e,els[j]? = some e→e.length=z∧∀ (t:Nat) c,e[t]? = some c→∃ r,R (o+j*z+t)=some r∧rel own imm c r
def Y0 (own:List Own) (imm:Nat→Nat→Option Value) (x:Own) (o:CObj) (w:World):Prop:=
 match o with
 |.arr z els=>x.z=z∧∃ c elem,w.heap[x.B]? = some (.cells c elem (0,0))∧c.size=x.n∧x.o+els.length*x.z≤x.n∧relO own imm x.z els (fun i=>c[i]?) x.o∧∀ (i:Nat) v,c[i]? = some v→v.oneCell'=true
 |.map kvs=>∃ es clock,w.heap[x.B]? = some (.map es clock)∧kvs.length=es.size∧∀ (i:Nat) k v e,kvs[i]? = some (k,v)→es[i]? = some e→rel own imm k e.key∧rel own imm v e.val
 |.dead=>True
 |.ext _ _=>True
theorem Jaa {own own':List Own}{imm imm':Nat→Nat→Option Value}(ho:Kg own own') (hi:J5 imm imm') {z:Nat}{els:List (List CV)}{R:Nat→Option Value}{o:Nat}(h:relO own imm z els R o):relO own' imm' z els R o:=
 fun j e he=>⟨(h j e he).1,fun t c hc=>let ⟨r,h1,h2⟩:=(h j e he).2 t c hc; ⟨r,h1,QH ho hi c r h2⟩⟩
theorem Kh {own own':List Own}{imm imm':Nat→Nat→Option Value}(ho:Kg own own') (hi:J5 imm imm') {x:Own}{o:CObj}{w w':World}(hw:o.alive=true→w'.heap[x.B]? = w.heap[x.B]?) (h:Y0 own imm x o w):Y0 own' imm' x o w':=by
 cases o with
 |arr z els=>
  obtain ⟨hz,c,elem,h1,h2,h3,h4,h5⟩:=h
  exact ⟨hz,c,elem,(hw rfl).trans h1,h2,h3,Jaa ho hi h4,h5⟩
 |map kvs=>
  obtain ⟨es,clock,h1,h2,h3⟩:=h
  exact ⟨es,clock,(hw rfl).trans h1,h2,fun i k v e hk he=>⟨QH ho hi _ _ (h3 i k v e hk he).1,QH ho hi _ _ (h3 i k v e hk he).2⟩⟩
 |dead=>trivial
 |ext s b=>trivial
structure Env where
 X:Nat→Bool→(Nat→Prop)→(Nat→Nat→Option Value)→World→Prop
 stable:∀ s b bs imm imm' w w',X s b bs imm w→(∀ B,bs B∨B < gN→w'.heap[B]? = w.heap[B]?)→w.heap.size≤w'.heap.size→J5 imm imm'→
  (∀ B i v,imm' B i=some v→imm B i=some v∨¬ bs B)→(∀ B i v,imm' B i=some v→w'.cell? ⟨B,i,none⟩=some v)→(∀ B i v,imm' B i=some v→v.oneCell'=true)→X s b bs imm' w'
def Env.none:Env:={ X:=fun _ _ _ _ _=>False,stable:=fun _ _ _ _ _ _ _ h=>h.elim }
structure Sim (E:Env) (m:Bk) (H:List CObj) (w:World):Prop where
 len:m.own.length=H.length
 obj:∀ (k:Nat) o x,H[k]? = some o→m.own[k]? = some x→Y0 m.own m.imm x o w
 imm:∀ B i v,m.imm B i=some v→w.cell? ⟨B,i,none⟩=some v
 one:∀ B i v,m.imm B i=some v→v.oneCell'=true
 sep:∀ (k k':Nat) o o' x x',H[k]? = some o→H[k']? = some o'→o.alive=true→o'.alive=true→m.own[k]? = some x→m.own[k']? = some x'→x.B=x'.B→k=k'
 ro:∀ (k:Nat) o x,H[k]? = some o→o.alive=true→m.own[k]? = some x→∀ i,x.o≤i→m.imm x.B i=none
 ext:∀ (k:Nat) s b,H[k]? = some (.ext s b)→E.X s b m.ext m.imm w
 extsep:∀ (k:Nat) o x,H[k]? = some o→o.alive=true→m.own[k]? = some x→¬ (m.ext x.B∨x.B < gN)
 extlt:∀ B,m.ext B∨B < gN→B < w.heap.size
 gl:GLw w∧∀ B,m.ext B→¬ B < gN
def owned (m:Bk) (H:List CObj) (B:Nat):Prop:=m.ext B∨∃ (k:Nat) (o:CObj) (x:Own),H[k]? = some o∧o.alive=true∧m.own[k]? = some x∧x.B=B
structure Ext (n0:Nat) (m:Bk) (H:List CObj) (w:World) (m':Bk) (H':List CObj) (w':World):Prop where
 size:w.heap.size≤w'.heap.size
 frame:∀ B,B < w.heap.size→¬ owned m H B→w'.heap[B]? = w.heap[B]?
 imm:J5 m.imm m'.imm
 newOwn:∀ B,owned m' H' B→owned m H B∨w.heap.size≤B
 newImm:∀ B i v,m'.imm B i=some v→m.imm B i=some v∨owned m H B∨w.heap.size≤B
 base:∀ (k:Nat) x,k < n0→m.own[k]? = some x→m'.own[k]? = some x
 long:n0≤m.own.length→n0≤m'.own.length
 same:w'.os=w.os∧w'.output=w.output∧w'.tape=w.tape
theorem Ext.refl (n0:Nat) (m:Bk) (H:List CObj) (w:World):Ext n0 m H w m H w:=
 ⟨Gu _,fun _ _ _=>rfl,J5.refl _,fun _ h=>.inl h,fun _ _ _ h=>.inl h,fun _ _ _ h=>h,id,rfl,rfl,rfl⟩
theorem Ext.trans {n0:Nat}{m m1 m2:Bk}{H H1 H2:List CObj}{w w1 w2:World}(h:Ext n0 m H w m1 H1 w1) (k:Ext n0 m1 H1 w1 m2 H2 w2):Ext n0 m H w m2 H2 w2 where
 size:=GR h.size k.size
 frame B hB hn:=by
  have h1:=h.frame B hB hn
  have hn1:¬ owned m1 H1 B:=fun ho=>by
   rcases h.newOwn B ho with h' | h'
   ·exact hn h'
   ·omega
  exact (k.frame B (Nat.lt_of_lt_of_le hB h.size) hn1).trans h1
 imm:=h.imm.trans k.imm
 newOwn B ho:=by
  rcases k.newOwn B ho with h' | h'
  ·exact h.newOwn B h'
  ·exact .inr (GR h.size h')
 newImm B i v hv:=by
  rcases k.newImm B i v hv with h' | h' | h'
  ·exact h.newImm B i v h'
  ·exact .inr (h.newOwn B h')
  ·exact .inr (.inr (GR h.size h'))
 base j x hj hx:=k.base j x hj (h.base j x hj hx)
 long hl:=k.long (h.long hl)
 same:=⟨k.same.1.trans h.same.1,k.same.2.1.trans h.same.2.1,k.same.2.2.trans h.same.2.2⟩
theorem cell?_congr {w w':World}{a:Addr}(h:w'.heap[a.block]? = w.heap[a.block]?):w'.cell? a=w.cell? a:=by
 simp only[World.cell?,h]
theorem Sim.congr {E:Env}{m:Bk}{H:List CObj}{w w':World}(hs:Sim E m H w) (h:w'.heap=w.heap):Sim E m H w' where
 len:=hs.len
 obj k o x hk hx:=Kh (Kg.refl _) (J5.refl _) (fun _=>by rw[h]) (hs.obj k o x hk hx)
 imm B i v hv:=(cell?_congr (by rw[h])).trans (hs.imm B i v hv)
 one:=hs.one
 sep:=hs.sep
 ro:=hs.ro
 ext k s b hk:=E.stable _ _ _ _ _ _ _ (hs.ext k s b hk) (fun B _=>by rw[h]) (by rw[h]; exact Gu _) (J5.refl _) (fun B i v h=>.inl h) (fun B i v hv=>(cell?_congr (by rw[h])).trans (hs.imm B i v hv)) hs.one
 extsep:=hs.extsep
 extlt B hB:=by rw[h]; exact hs.extlt B hB
 gl:=⟨hs.gl.1.mono fun B _=>by rw[h],hs.gl.2⟩
theorem Ext.congr {n0:Nat}{m:Bk}{H:List CObj}{w w':World}(h:w'.heap=w.heap) (hs:w'.os=w.os∧w'.output=w.output∧w'.tape=w.tape):Ext n0 m H w m H w' where
 size:=by rw[h]; exact Gu _
 frame B hB hn:=by rw[h]
 imm:=J5.refl _
 newOwn B h:=.inl h
 newImm B i v h:=.inl h
 base _ _ _ h:=h
 long:=id
 same:=hs
theorem Xy {E:Env}{m:Bk}{H:List CObj}{w:World}(hs:Sim E m H w) {k:Nat}{o:CObj}{x:Own}(hk:H[k]? = some o) (ha:o.alive=true) (hx:m.own[k]? = some x):x.B < w.heap.size:=by
 have h:=hs.obj k o x hk hx
 cases o with
 |arr z els=>obtain ⟨_,c,elem,h1,_⟩:=h; exact (Gz.1 h1).1
 |map kvs=>obtain ⟨es,clock,h1,_⟩:=h; exact (Gz.1 h1).1
 |dead=>cases ha
 |ext s b=>cases ha
theorem JbV {E:Env}{m:Bk}{H:List CObj}{w:World}(hs:Sim E m H w) {B i:Nat}{v:Value}(h:m.imm B i=some v):B < w.heap.size:=
 World.block_lt_of_cell? w _ (hs.imm B i v h)
theorem owned_lt {E:Env}{m:Bk}{H:List CObj}{w:World}(hs:Sim E m H w) {B:Nat}(h:owned m H B):B < w.heap.size:=by
 rcases h with h | ⟨k,o,x,hk,ha,hx,rfl⟩
 ·exact hs.extlt B (.inl h)
 ·exact Xy hs hk ha hx
theorem owned_gl {E:Env}{m:Bk}{H:List CObj}{w:World}(hs:Sim E m H w) {B:Nat}(h:owned m H B):¬ B < gN:=by
 rcases h with h | ⟨k,o,x,hk,ha,hx,rfl⟩
 ·exact hs.gl.2 B h
 ·exact fun hb=>hs.extsep k o x hk ha hx (.inr hb)
theorem Sim.alloc {E:Env}{m:Bk}{H:List CObj}{w w':World}(hs:Sim E m H w) {ob:Obj}(hw:w'.heap=w.heap.push ob) (x:Own) (o:CObj) (hB:x.B=w.heap.size)
  (ho:o.alive=true→Y0 (m.own++[x]) m.imm x o w') (hne:∀ s b,o≠.ext s b):Sim E { m with own:=m.own++[x] } (H++[o]) w' where
 len:=by simp[hs.len]
 obj k o' x' hk hx:=by
  simp only at hx
  by_cases hlt:k < H.length
  ·rw[Gc hlt]at hk
   rw[Gc (by rw[hs.len]; exact hlt)]at hx
   refine Kh (Kg.append _ _) (J5.refl _) (fun ha=>?_) (hs.obj k o' x' hk hx)
   have:=Xy hs hk ha hx
   rw[hw,Gr this,Gn this]
  ·have hk1:k < (H++[o]).length:=(Gd.1 hk).1
   have:k=H.length:=by simp at hk1; omega
   subst this
   simp at hk
   rw[← hs.len]at hx
   simp at hx
   obtain rfl:o'=o:=hk.symm
   obtain rfl:x'=x:=hx.symm
   cases o' with
   |arr z els=>exact ho rfl
   |map kvs=>exact ho rfl
   |dead=>trivial
   |ext s b=>exact (hne s b rfl).elim
 imm B i v hv:=by
  have hlt:=JbV hs hv
  refine (cell?_congr ?_).trans (hs.imm B i v hv)
  rw[hw,Gr hlt,Gn hlt]
 one:=hs.one
 sep k k' o1 o2 x1 x2 hk hk' ha ha' hx hx' he:=by
  simp only at hx hx'
  have key:∀ (k:Nat) o1 x1,(H++[o])[k]? = some o1→o1.alive=true→(m.own++[x])[k]? = some x1→(k < H.length∧x1.B < w.heap.size∧H[k]? = some o1∧m.own[k]? = some x1)∨(k=H.length∧x1.B=w.heap.size):=by
   intro k o1 x1 hk ha hx
   by_cases hlt:k < H.length
   ·rw[Gc hlt]at hk
    rw[Gc (by rw[hs.len]; exact hlt)]at hx
    exact .inl ⟨hlt,Xy hs hk ha hx,hk,hx⟩
   ·have hk1:k < (H++[o]).length:=(Gd.1 hk).1
    have:k=H.length:=by simp at hk1; omega
    subst this
    rw[← hs.len]at hx
    simp at hx
    subst hx
    exact .inr ⟨rfl,hB⟩
  rcases key k o1 x1 hk ha hx with ⟨_,h1,h2,h3⟩ | ⟨h1,h2⟩ <;> rcases key k' o2 x2 hk' ha' hx' with ⟨_,h1',h2',h3'⟩ | ⟨h1',h2'⟩
  ·exact hs.sep k k' o1 o2 x1 x2 h2 h2' ha ha' h3 h3' he
  ·omega
  ·omega
  ·omega
 ro k o1 x1 hk ha hx i hi:=by
  simp only at hx ⊢
  by_cases hlt:k < H.length
  ·rw[Gc hlt]at hk
   rw[Gc (by rw[hs.len]; exact hlt)]at hx
   exact hs.ro k o1 x1 hk ha hx i hi
  ·have hk1:k < (H++[o]).length:=(Gd.1 hk).1
   have:k=H.length:=by simp at hk1; omega
   subst this
   rw[← hs.len]at hx
   simp at hx
   subst hx
   rw[hB]
   cases hv:m.imm w.heap.size i with
   |none=>rfl
   |some v=>have:=JbV hs hv; omega
 ext k s b hk:=by
  by_cases hlt:k < H.length
  ·rw[Gc hlt]at hk
   refine E.stable _ _ _ _ _ _ _ (hs.ext k s b hk) (fun B hB=>?_) (by rw[hw]; simp) (J5.refl _) (fun B i v h=>.inl h) (fun B i v hv=>?_) hs.one
   ·have:=hs.extlt B hB
    rw[hw,Gr this,Gn this]
   ·have hlt:=JbV hs hv
    refine (cell?_congr ?_).trans (hs.imm B i v hv)
    rw[hw,Gr hlt,Gn hlt]
  ·have hk1:k < (H++[o]).length:=(Gd.1 hk).1
   have:k=H.length:=by simp at hk1; omega
   subst this
   simp at hk
   exact (hne s b hk).elim
 extsep k o1 x1 hk ha hx:=by
  simp only at hx ⊢
  by_cases hlt:k < H.length
  ·rw[Gc hlt]at hk
   rw[Gc (by rw[hs.len]; exact hlt)]at hx
   exact hs.extsep k o1 x1 hk ha hx
  ·have hk1:k < (H++[o]).length:=(Gd.1 hk).1
   have:k=H.length:=by simp at hk1; omega
   subst this
   rw[← hs.len]at hx
   simp at hx
   subst hx
   rw[hB]
   exact fun h=>by have:=hs.extlt _ h; omega
 extlt B hB:=by
  have:=hs.extlt B hB
  rw[hw]; simp; omega
 gl:=⟨hs.gl.1.mono fun B hB=>by rw[hw,Gr (hs.gl.1.lt hB),Gn (hs.gl.1.lt hB)],hs.gl.2⟩
theorem Ext.alloc {E:Env}{n0:Nat}{m:Bk}{H:List CObj}{w w':World}(hs:Sim E m H w) {ob:Obj}(hw:w'.heap=w.heap.push ob) (hsame:w'.os=w.os∧w'.output=w.output∧w'.tape=w.tape) (x:Own) (o:CObj) (hB:x.B=w.heap.size) :
  Ext n0 m H w { m with own:=m.own++[x] } (H++[o]) w' where
 size:=by rw[hw]; simp
 frame B hB hn:=by rw[hw,Gr hB,Gn hB]
 imm:=J5.refl _
 newOwn B ho:=by
  rcases ho with h | ⟨k,o1,x1,hk,ha,hx,rfl⟩
  ·exact .inl (.inl h)
  ·simp only at hx
   by_cases hlt:k < H.length
   ·rw[Gc hlt]at hk
    rw[Gc (by rw[hs.len]; exact hlt)]at hx
    exact .inl (.inr ⟨k,o1,x1,hk,ha,hx,rfl⟩)
   ·have hk1:k < (H++[o]).length:=(Gd.1 hk).1
    have:k=H.length:=by simp at hk1; omega
    subst this
    rw[← hs.len]at hx
    simp at hx
    subst hx
    exact .inr (by omega)
 newImm B i v h:=.inl h
 base k x1 hk hx:=by
  simp only
  rw[Gc (Gd.1 hx).1]; exact hx
 long h:=by simp; omega
 same:=hsame
theorem Sim.put {E:Env}{m:Bk}{H:List CObj}{w w':World}(hs:Sim E m H w) {k:Nat}{o o':CObj}{x:Own}(hk:H[k]? = some o) (ha:o.alive=true) (hx:m.own[k]? = some x)
  (hsz:w'.heap.size=w.heap.size) (hother:∀ B,B≠x.B→w'.heap[B]? = w.heap[B]?) (himm:∀ i,i < x.o→w'.cell? ⟨x.B,i,none⟩=w.cell? ⟨x.B,i,none⟩)
  (ho:Y0 m.own m.imm x o' w') (hne:∀ s b,o'≠.ext s b):Sim E m (H.set k o') w' where
 len:=by simp[hs.len]
 obj j o1 x1 hj hx1:=by
  rw[Gf]at hj
  split at hj
  ·rename_i e; subst e
   split at hj
   ·simp at hj; subst hj; rw[hx]at hx1; cases hx1; exact ho
   ·cases hj
  ·rename_i hne'
   refine Kh (Kg.refl _) (J5.refl _) (fun ha1=>?_) (hs.obj j o1 x1 hj hx1)
   exact hother _ fun e=>hne' (hs.sep k j o o1 x x1 hk hj ha ha1 hx hx1 e.symm)
 imm B i v hv:=by
  by_cases hB:B=x.B
  ·subst hB
   by_cases hi:i < x.o
   ·exact (himm i hi).trans (hs.imm _ i v hv)
   ·have:=hs.ro k o x hk ha hx i (by omega); rw[this]at hv; cases hv
  ·exact (cell?_congr (hother B hB)).trans (hs.imm B i v hv)
 one:=hs.one
 sep j j' o1 o2 x1 x2 hj hj' ha1 ha2 hx1 hx2 he:=by
  have key:∀ (j:Nat) o1,(H.set k o')[j]? = some o1→o1.alive=true→∃ o2,H[j]? = some o2∧o2.alive=true:=by
   intro j o1 hj h1
   rw[Gf]at hj
   split at hj
   ·rename_i e; subst e; exact ⟨o,hk,ha⟩
   ·exact ⟨o1,hj,h1⟩
  obtain ⟨p,hp,hpa⟩:=key j o1 hj ha1
  obtain ⟨q,hq,hqa⟩:=key j' o2 hj' ha2
  exact hs.sep j j' p q x1 x2 hp hq hpa hqa hx1 hx2 he
 ro j o1 x1 hj ha1 hx1 i hi:=by
  rw[Gf]at hj
  split at hj
  ·rename_i e; subst e; rw[hx]at hx1; cases hx1; exact hs.ro k o x hk ha hx i hi
  ·exact hs.ro j o1 x1 hj ha1 hx1 i hi
 ext j s b hj:=by
  rw[Gf]at hj
  split at hj
  ·split at hj
   ·simp at hj; exact (hne s b hj).elim
   ·cases hj
  ·refine E.stable _ _ _ _ _ _ _ (hs.ext j s b hj) (fun B hB=>hother B fun e=>?_) (by omega) (J5.refl _) (fun B i v h=>.inl h) (fun B i v hv=>?_) hs.one
   ·subst e; exact hs.extsep k o x hk ha hx hB
   ·by_cases hB:B=x.B
    ·subst hB
     by_cases hi:i < x.o
     ·exact (himm i hi).trans (hs.imm _ i v hv)
     ·have:=hs.ro k o x hk ha hx i (by omega); rw[this]at hv; cases hv
    ·exact (cell?_congr (hother B hB)).trans (hs.imm B i v hv)
 extsep j o1 x1 hj ha1 hx1:=by
  rw[Gf]at hj
  split at hj
  ·rename_i e; subst e; rw[hx]at hx1; cases hx1; exact hs.extsep k o x hk ha hx
  ·exact hs.extsep j o1 x1 hj ha1 hx1
 extlt B hB:=by rw[hsz]; exact hs.extlt B hB
 gl:=⟨hs.gl.1.mono fun B hB=>hother B fun e=>hs.extsep k o x hk ha hx (.inr (e▸hB)),hs.gl.2⟩
theorem Ext.put {n0:Nat}{m:Bk}{H:List CObj}{w w':World}{k:Nat}{o o':CObj}{x:Own}(hk:H[k]? = some o) (ha:o.alive=true) (hx:m.own[k]? = some x)
  (hsz:w'.heap.size=w.heap.size) (hother:∀ B,B≠x.B→w'.heap[B]? = w.heap[B]?) (hsame:w'.os=w.os∧w'.output=w.output∧w'.tape=w.tape) :
  Ext n0 m H w m (H.set k o') w' where
 size:=by omega
 frame B hB hn:=hother B fun e=>hn (e▸.inr ⟨k,o,x,hk,ha,hx,rfl⟩)
 imm:=J5.refl _
 newOwn B h:=by
  rcases h with h | ⟨j,o1,x1,hj,ha1,hx1,rfl⟩
  ·exact .inl (.inl h)
  ·rw[Gf]at hj
   split at hj
   ·rename_i e; subst e; rw[hx]at hx1; cases hx1; exact .inl (.inr ⟨k,o,x,hk,ha,hx,rfl⟩)
   ·exact .inl (.inr ⟨j,o1,x1,hj,ha1,hx1,rfl⟩)
 newImm B i v h:=.inl h
 base _ _ _ h:=h
 long:=id
 same:=hsame
theorem Sim.kill {E:Env}{m:Bk}{H:List CObj}{w:World}(hs:Sim E m H w) (k:Nat) (hne:∀ s b,H[k]?≠some (.ext s b)):Sim E m (H.set k .dead) w where
 len:=by simp[hs.len]
 obj j o1 x1 hj hx1:=by
  rw[Gf]at hj
  split at hj
  ·split at hj
   ·simp at hj; subst hj; trivial
   ·cases hj
  ·exact hs.obj j o1 x1 hj hx1
 imm:=hs.imm
 one:=hs.one
 sep j j' o1 o2 x1 x2 hj hj' ha1 ha2 hx1 hx2 he:=by
  have key:∀ (j:Nat) o1,(H.set k .dead)[j]? = some o1→o1.alive=true→H[j]? = some o1:=by
   intro j o1 hj h1
   rw[Gf]at hj
   split at hj
   ·split at hj
    ·simp at hj; subst hj; cases h1
    ·cases hj
   ·exact hj
  exact hs.sep j j' o1 o2 x1 x2 (key j o1 hj ha1) (key j' o2 hj' ha2) ha1 ha2 hx1 hx2 he
 ro j o1 x1 hj ha1 hx1 i hi:=by
  rw[Gf]at hj
  split at hj
  ·split at hj
   ·simp at hj; subst hj; cases ha1
   ·cases hj
  ·exact hs.ro j o1 x1 hj ha1 hx1 i hi
 ext j s b hj:=by
  rw[Gf]at hj
  split at hj
  ·split at hj
   ·simp at hj
   ·cases hj
  ·exact hs.ext j s b hj
 extsep j o1 x1 hj ha1 hx1:=by
  rw[Gf]at hj
  split at hj
  ·split at hj
   ·simp at hj; subst hj; cases ha1
   ·cases hj
  ·exact hs.extsep j o1 x1 hj ha1 hx1
 extlt:=hs.extlt
 gl:=hs.gl
theorem owned_kill {m:Bk}{H:List CObj}{k B:Nat}(h:owned m (H.set k .dead) B):owned m H B:=by
 rcases h with h | ⟨j,o1,x1,hj,ha1,hx1,rfl⟩
 ·exact .inl h
 ·rw[Gf]at hj
  split at hj
  ·split at hj
   ·simp at hj; subst hj; cases ha1
   ·cases hj
  ·exact .inr ⟨j,o1,x1,hj,ha1,hx1,rfl⟩
theorem Ext.kill (n0:Nat) (m:Bk) (H:List CObj) (w:World) (k:Nat):Ext n0 m H w m (H.set k .dead) w:=
 ⟨Gu _,fun _ _ _=>rfl,J5.refl _,fun _ h=>.inl (owned_kill h),fun _ _ _ h=>.inl h,fun _ _ _ h=>h,id,rfl,rfl,rfl⟩
inductive Cond where
 |tt
 |rng (k:IntKind) (n:Int)
 |idx (i:Int) (n:Nat)
 |ile (a b:Int)
 |le (a b:Nat)
 |nz (n:Int)
 |and (a b:Cond)
structure InR (k:IntKind) (n:Int):Prop where
 lo:k.min≤n
 hi:n≤k.max
def Cond.holds:Cond→Prop
 |.tt=>True
 |.rng k n=>InR k n
 |.idx i n=>0≤i∧i < n
 |.ile a b=>a≤b
 |.le a b=>a≤b
 |.nz n=>n≠0
 |.and a b=>a.holds∧b.holds
def Cond.check:Cond→Bool
 |.tt=>true
 |.rng k n=>decide (k.min≤n) && decide (n≤k.max)
 |.idx i n=>decide (0≤i) && decide (i < n)
 |.ile a b=>decide (a≤b)
 |.le a b=>Nat.ble a b
 |.nz n=>n != 0
 |.and a b=>a.check && b.check
theorem Cond.holds_of_check:∀ {c:Cond},c.check=true→c.holds
 |.tt,_=>trivial
 |.rng k n,h=>by simp[Cond.check]at h; exact ⟨h.1,h.2⟩
 |.idx i n,h=>by simp[Cond.check]at h; exact h
 |.ile a b,h=>by simpa [Cond.check,Cond.holds]using h
 |.le a b,h=>by simpa [Cond.check,Cond.holds]using h
 |.nz n,h=>by simpa [Cond.check,Cond.holds]using h
 |.and a b,h=>by simp[Cond.check]at h; exact ⟨Cond.holds_of_check h.1,Cond.holds_of_check h.2⟩
inductive IArg where
 |s (n:Nat)
 |c (v:CV)
 deriving Inhabited
inductive TK where
 |bool | int | str | slice | map | ptr | func | other
 deriving DecidableEq,Inhabited
inductive IOp where
 |mv (a:IArg)
 |pick (c a b:IArg)
 |alloc (zero:List CV)
 |box (a:IArg)
 |build (zero:List CV) (parts:List (Nat×Nat×IArg))
 |bslice (z n:Nat) (zero:List CV) (parts:List (Nat×IArg))
 |load (agg:Bool) (n:Nat) (a:IArg)
 |store (n:Nat) (a v:IArg)
 |bin (op:BinOp) (tk:TK) (x y:IArg)
 |eqs (ks:List TK) (neg:Bool) (x y:IArg)
 |not (x:IArg)
 |neg (x:IArg)
 |conv (k:IntKind) (x:IArg)
 |mkfn (f:Nat) (first captured:List IArg)
 |mkmap
 |mkslice (z bytes:Nat) (zero:List CV) (l c:IArg)
 |slice (z:Nat) (x:IArg) (lo hi mx:Option IArg)
 |faddr (off:Nat) (x:IArg)
 |field (agg:Bool) (off n:Nat) (x:IArg)
 |iaddr (z:Nat) (x i:IArg)
 |indexS (x i:IArg)
 |lookup (tk:TK) (zero:CV) (ok:Bool) (m k:IArg)
 |mapset (tk:TK) (m k v:IArg)
 |len (tk:TK) (x:IArg)
 |append (z bytes:Nat) (s x:IArg)
 |clear (zero:List CV) (x:IArg)
 |extract (x:IArg) (i:Nat)
 |nchk (x:IArg)
 |sliceS (x:IArg) (lo hi:Option IArg)
 |mmx (big:Bool) (x y:IArg)
 |copy (z:Nat) (x y:IArg)
 |call (f:Nat) (args:List IArg)
 |callv (x:IArg) (args:List IArg)
 deriving Inhabited
structure IOper where
 dst:Option Nat
 op:IOp
 guard:Option (Nat×Bool)
 deriving Inhabited
inductive ICode where
 |skip
 |reg (ops:List IOper)
 |dreg (ops:List IOper) (edges:List (List Nat))
 |seq (a b:ICode)
 |cond (c:IArg) (a b:ICode)
 |block (id:Nat) (a:ICode)
 |loop (a:ICode)
 |rfunc (f:IArg) (ps:List Nat) (a b:ICode)
 |exit (id:Nat)
 |ret
 |bad
 deriving Inhabited
inductive RVar where
 |tmp (t:Nat)
 |cell (agg:Bool) (n t:Nat)
 deriving Inhabited
structure IFunc where
 body:ICode
 ntmps:Nat
 results:List RVar
 deriving Inhabited
def JQ (T:List CV):IArg→CV
 |.s n=>T.getD n .un
 |.c v=>v
def CV.cells:CV→Option (List CV)
 |.agg l=>some l
 |.un=>none
 |.tup _=>none
 |v=>some [v]
def CV.oneCell:CV→Bool
 |.un=>false
 |.agg _=>false
 |.tup _=>false
 |_=>true
def KX:List CV→Bool
 |[]=>true
 |c::cs=>c.oneCell && KX cs
def splice (e:List CV) (off:Nat) (l:List CV):List CV:=e.take off++(l++e.drop (off+l.length))
def Kj (T:List CV):List CV→List (Nat×Nat×IArg)→Option (List CV)
 |cells,[]=>some cells
 |cells,(off,n,x)::ps=>
  match (JQ T x).cells with
  |none=>none
  |some l=>if l.length=n∧off+n≤cells.length then Kj T (splice cells off l) ps else none
def QA (T:List CV) (z:Nat):List (List CV)→List (Nat×IArg)→Option (List (List CV))
 |els,[]=>some els
 |els,(i,x)::ps=>
  match (JQ T x).cells with
  |none=>none
  |some l=>if l.length=z∧i < els.length∧KX l=true then QA T z (els.set i l) ps else none
def JcX (H:List CObj) (z:Nat):CV→Option (List (List CV))
 |.nils=>some []
 |.slc id off len _=>match H[id]? with
  |some (.arr z' els)=>if z'=z∧off+len≤els.length then some ((els.drop off).take len) else none
  |_=>none
 |.rslc z' els _=>if z'=z then some els else none
 |.str s=>if z=1 then some (s.data.toList.map fun b=>[.int .u8 b.toNat]) else none
 |_=>none
def XT (tk:TK) (x y:CV):Option Bool:=
 match tk with
 |.int=>match x,y with
  |.int j a,.int k b=>if j=k then some (a == b) else none
  |_,_=>none
 |.str=>match x,y with
  |.str a,.str b=>some (a == b)
  |_,_=>none
 |.bool=>match x,y with
  |.bool a,.bool b=>some (a == b)
  |_,_=>none
 |_=>none
def XJ (tk:TK) (k:CV):List (CV×CV)→Nat→Option (Option (Nat×CV))
 |[],_=>some none
 |(k',v)::kvs,i=>match XT tk k k' with
  |some true=>some (some (i,v))
  |some false=>XJ tk k kvs (i+1)
  |none=>none
def isKey (tk:TK) (k:CV):Bool:=
 match tk with
 |.int=>match k with
  |.int _ _=>true
  |_=>false
 |.str=>match k with
  |.str _=>true
  |_=>false
 |.bool=>match k with
  |.bool _=>true
  |_=>false
 |_=>false
def Xh:List TK→List CV→List CV→Option Bool
 |[],[],[]=>some true
 |k::ks,a::as,b::bs=>match XT k a b with
  |some true=>Xh ks as bs
  |some false=>some false
  |none=>none
 |_,_,_=>none
def binI (op:BinOp) (k:IntKind) (x y:Int):Option (Cond×CV):=
 match op with
 |.add=>some (.rng k (x+y),.int k (x+y))
 |.sub=>some (.rng k (x-y),.int k (x-y))
 |.mul=>some (.rng k (x*y),.int k (x*y))
 |.quo=>some (.and (.nz y) (.rng k (x.tdiv y)),.int k (x.tdiv y))
 |.rem=>some (.nz y,.int k (x.tmod y))
 |.eql=>some (.tt,.bool (x == y))
 |.neq=>some (.tt,.bool (x != y))
 |.lss=>some (.tt,.bool (decide (x < y)))
 |.leq=>some (.tt,.bool (decide (x≤y)))
 |.gtr=>some (.tt,.bool (decide (y < x)))
 |.geq=>some (.tt,.bool (decide (y≤x)))
 |.and=>some (.tt,.int k (k.wrap (Gv k.bits x &&& Gv k.bits y).toNat))
 |.or=>some (.tt,.int k (k.wrap (Gv k.bits x ||| Gv k.bits y).toNat))
 |.xor=>some (.tt,.int k (k.wrap (Gv k.bits x ^^^ Gv k.bits y).toNat))
 |.shl=>some (.ile 0 y,.int k (k.wrap (x*2 ^ (min y.toNat k.bits))))
 |.shr=>some (.ile 0 y,.int k (x.fdiv (2 ^ (min y.toNat k.bits))))
 |_=>none
def binK (op:BinOp) (k k':IntKind) (x y:Int):Option (Cond×CV):=
 if k=k' then binI op k x y else match op with
  |.shl=>binI .shl k x y
  |.shr=>binI .shr k x y
  |_=>none
def binS (op:BinOp) (x y:ByteArray):Option (Cond×CV):=
 match op with
 |.add=>some (.ile ((x.size+y.size:Nat):Int) 9223372036854775807,.str (x++y))
 |.eql=>some (.tt,.bool (x.toList == y.toList))
 |.neq=>some (.tt,.bool (!(x.toList == y.toList)))
 |.lss=>some (.tt,.bool (Op.bytesLess x.toList y.toList))
 |.leq=>some (.tt,.bool (Op.bytesLess x.toList y.toList || x.toList == y.toList))
 |.gtr=>some (.tt,.bool (!(Op.bytesLess x.toList y.toList || x.toList == y.toList)))
 |.geq=>some (.tt,.bool (!Op.bytesLess x.toList y.toList))
 |_=>none
def JaR (op:BinOp) (b:Bool):Option CV:=
 match op with
 |.eql=>some (.bool b)
 |.neq=>some (.bool !b)
 |_=>none
def exBin (op:BinOp) (tk:TK) (x y:CV):Option (Cond×CV):=
 match x,y with
 |.int k a,.int k' b=>binK op k k' a b
 |.str a,.str b=>binS op a b
 |.bool a,.bool b=>if tk=.bool then (JaR op (a == b)).map fun v=>(.tt,v) else none
 |.nils,.nils=>if tk=.slice then (JaR op true).map fun v=>(.tt,v) else none
 |.nils,.slc _ _ _ _=>if tk=.slice then (JaR op false).map fun v=>(.tt,v) else none
 |.nils,.rslc _ (_::_) (some _)=>if tk=.slice then (JaR op false).map fun v=>(.tt,v) else none
 |.slc _ _ _ _,.nils=>if tk=.slice then (JaR op false).map fun v=>(.tt,v) else none
 |.rslc _ (_::_) (some _),.nils=>if tk=.slice then (JaR op false).map fun v=>(.tt,v) else none
 |.nils,.rslc _ (_::_) none=>if tk=.slice then (JaR op false).map fun v=>(.tt,v) else none
 |.rslc _ (_::_) none,.nils=>if tk=.slice then (JaR op false).map fun v=>(.tt,v) else none
 |.nilp,.nilp=>if tk=.ptr then (JaR op true).map fun v=>(.tt,v) else none
 |.nilp,.ptr _ _ _=>if tk=.ptr then (JaR op false).map fun v=>(.tt,v) else none
 |.nilp,.rptr _=>if tk=.ptr then (JaR op false).map fun v=>(.tt,v) else none
 |.ptr _ _ _,.nilp=>if tk=.ptr then (JaR op false).map fun v=>(.tt,v) else none
 |.rptr _,.nilp=>if tk=.ptr then (JaR op false).map fun v=>(.tt,v) else none
 |_,_=>none
def Jak (v:CV):Option Int:=
 match v with
 |.int _ n=>some n
 |_=>none
def KT (T:List CV) (d:Int):Option IArg→Option Int
 |none=>some d
 |some x=>Jak (JQ T x)
def exLen:CV→Option Nat
 |.nils=>some 0
 |.rslc _ els _=>some els.length
 |.slc _ _ len _=>some len
 |_=>none
def exHi (T:List CV) (x:CV):Option IArg→Option Int
 |some h=>Jak (JQ T h)
 |none=>match exLen x with
  |some n=>some (n:Int)
  |none=>none
def exMx (T:List CV):Option IArg→Option (Option Int)
 |some h=>(Jak (JQ T h)).map some
 |none=>some none
def K6 (z:Nat) (H:List CObj) (x:CV) (lo hi:Int) (mx:Option Int):Option (Cond×CV):=
 match x with
 |.nils=>match mx with
  |none=>some (.and (.ile 0 lo) (.and (.ile lo hi) (.ile hi 0)),.nils)
  |some _=>none
 |.rslc z' els cap=>if z'=z then
   match mx with
   |none=>some (.and (.ile 0 lo) (.and (.ile lo hi) (.ile hi els.length)),.rslc z ((els.drop lo.toNat).take (hi.toNat-lo.toNat)) (cap.map (· - lo.toNat)))
   |some m=>some (.and (.ile 0 lo) (.and (.ile lo hi) (.and (.ile hi m) (.and (.ile hi els.length) (.ile m (cap.getD els.length))))),.rslc z ((els.drop lo.toNat).take (hi.toNat-lo.toNat)) (cap.map fun _=>m.toNat-lo.toNat))
  else none
 |.slc id off len cap=>match H[id]? with
  |some (.arr z' _)=>if z'=z then
   match mx with
   |none=>some (.and (.ile 0 lo) (.and (.ile lo hi) (.ile hi len)),.slc id (off+lo.toNat) (hi.toNat-lo.toNat) (cap.map (· - lo.toNat)))
   |some m=>some (.and (.ile 0 lo) (.and (.ile lo hi) (.and (.ile hi m) (.and (.ile hi len) (.ile m (cap.getD len))))),.slc id (off+lo.toNat) (hi.toNat-lo.toNat) (some (m.toNat-lo.toNat)))
   else none
  |_=>none
 |_=>none
def JJ (n bytes:Nat):Cond:=.and (.le n 140737488355328) (.le (n*bytes) 140737488355328)
def J4 (z bytes:Nat) (H:List CObj) (s:CV) (xs:List (List CV)):Option (Cond×CV×List CObj):=
 match xs with
 |[]=>match s with
  |.nils=>some (.tt,s,H)
  |.slc _ _ _ _=>some (.tt,s,H)
  |.rslc _ _ _=>some (.tt,s,H)
  |_=>none
 |x0::xs'=>match s with
  |.nils=>some (JJ (x0::xs').length bytes,.slc H.length 0 (x0::xs').length none,H++[.arr z (x0::xs')])
  |.rslc z' els (some c)=>if z'=z then
    some (.and (.le (c+1) (els.length+(x0::xs').length)) (JJ (els.length+(x0::xs').length) bytes),.slc H.length 0 (els.length+(x0::xs').length) none,H++[.arr z (els++(x0::xs'))])
   else none
  |.slc id off len cap=>match H[id]? with
   |some (.arr z' els)=>if z'=z∧off+len=els.length then
     match cap with
     |none=>some (JJ (len+(x0::xs').length) bytes,.slc H.length 0 (len+(x0::xs').length) none,(H.set id .dead)++[.arr z (els.drop off++(x0::xs'))])
     |some c=>some (.and (.le (c+1) (len+(x0::xs').length)) (JJ (len+(x0::xs').length) bytes),.slc H.length 0 (len+(x0::xs').length) none,H++[.arr z (els.drop off++(x0::xs'))])
    else if z'=z∧off+len≤els.length∧cap=none then
     some (JJ (len+(x0::xs').length) bytes,.slc H.length 0 (len+(x0::xs').length) none,(H.set id .dead)++[.arr z ((els.take (off+len)).drop off++(x0::xs'))])
    else none
   |_=>none
  |_=>none
def exec (o:IOp) (T:List CV) (H:List CObj):Option (Cond×CV×List CObj):=
 match o with
 |.mv a=>some (.tt,JQ T a,H)
 |.pick c a b=>match JQ T c with
  |.bool true=>some (.tt,JQ T a,H)
  |.bool false=>some (.tt,JQ T b,H)
  |_=>none
 |.alloc zero=>some (.tt,.ptr H.length 0 0,H++[.arr zero.length [zero]])
 |.box a=>match (JQ T a).cells with
  |some l=>if KX l=true then some (.tt,.ptr H.length 0 0,H++[.arr l.length [l]]) else none
  |none=>none
 |.build zero parts=>match Kj T zero parts with
  |some l=>some (.tt,.agg l,H)
  |none=>none
 |.bslice z n zero parts=>match QA T z (GI n zero) parts with
  |some els=>some (.tt,.slc H.length 0 n (some n),H++[.arr z els])
  |none=>none
 |.load ag n a=>match JQ T a with
  |.ptr id i off=>match H[id]? with
   |some (.arr _ els)=>if ag then some (.and (.le (i+1) els.length) (.le (off+n) (els.getD i []).length),.agg (((els.getD i []).drop off).take n),H)
    else some (.and (.le (i+1) els.length) (.le (off+1) (els.getD i []).length),(els.getD i []).getD off .un,H)
   |_=>none
  |.rptr cs=>if ag then some (.le n cs.length,.agg (cs.take n),H) else match cs with
   |c::_=>some (.tt,c,H)
   |[]=>none
  |_=>none
 |.store n a v=>match JQ T a,(JQ T v).cells with
  |.ptr id i off,some l=>match H[id]? with
   |some (.arr z els)=>if l.length=n∧KX l=true then
     some (.and (.le (i+1) els.length) (.le (off+n) (els.getD i []).length),.un,H.set id (.arr z (els.set i (splice (els.getD i []) off l))))
    else none
   |_=>none
  |_,_=>none
 |.bin op tk x y=>match exBin op tk (JQ T x) (JQ T y) with
  |some (c,v)=>some (c,v,H)
  |none=>none
 |.eqs ks ng x y=>match JQ T x,JQ T y with
  |.agg l,.agg l'=>match (if l.length=ks.length∧l'.length=ks.length then Xh ks l l' else none) with
   |some b=>some (.tt,.bool (if ng then !b else b),H)
   |none=>none
  |_,_=>none
 |.not x=>match JQ T x with
  |.bool b=>some (.tt,.bool !b,H)
  |_=>none
 |.neg x=>match JQ T x with
  |.int k n=>some (.rng k (0-n),.int k (0-n),H)
  |_=>none
 |.conv k x=>match JQ T x with
  |.int _ n=>some (.rng k n,.int k n,H)
  |_=>none
 |.mkfn f l1 l2=>some (.tt,.fn f (l1.map (JQ T)) (l2.map (JQ T)),H)
 |.mkmap=>some (.tt,.map H.length,H++[.map []])
 |.mkslice z bytes zero l c=>match JQ T l,JQ T c with
  |.int .i64 l,.int .i64 c=>some (.and (.ile 0 l) (.and (.ile l c) (.and (.ile c 281474976710656) (.ile (bytes*c) 281474976710656))),.slc H.length 0 l.toNat (some c.toNat),H++[.arr z (GI l.toNat zero)])
  |_,_=>none
 |.slice z x lo hi mx=>
  match KT T 0 lo,exHi T (JQ T x) hi,exMx T mx with
  |some l,some h,some m=>match K6 z H (JQ T x) l h m with
   |some (c,v)=>some (c,v,H)
   |none=>none
  |_,_,_=>none
 |.faddr off x=>match JQ T x with
  |.ptr id i o=>some (.tt,.ptr id i (o+off),H)
  |.rptr cs=>some (.le off cs.length,.rptr (cs.drop off),H)
  |_=>none
 |.field ag off n x=>match JQ T x with
  |.agg l=>if ag then some (.le (off+n) l.length,.agg ((l.drop off).take n),H) else some (.le (off+1) l.length,l.getD off .un,H)
  |_=>none
 |.iaddr z x i=>match JQ T x,JQ T i with
  |.slc id off len _,.int _ n=>match H[id]? with
   |some (.arr z' _)=>if z'=z then some (.idx n len,.ptr id (off+n.toNat) 0,H) else none
   |_=>none
  |.rslc z' els _,.int _ n=>if z'=z then some (.idx n els.length,.rptr (els.getD n.toNat []),H) else none
  |_,_=>none
 |.indexS x i=>match JQ T x,JQ T i with
  |.str s,.int _ n=>some (.idx n s.size,.int .u8 ((s.data.getD n.toNat 0).toNat:Int),H)
  |_,_=>none
 |.lookup tk zero ok m k=>if isKey tk (JQ T k) then match JQ T m with
  |.nilm=>some (.tt,(if ok then .tup [zero,.bool false] else zero),H)
  |.map id=>match H[id]? with
   |some (.map kvs)=>match XJ tk (JQ T k) kvs 0 with
    |some (some (_,v))=>some (.tt,(if ok then .tup [v,.bool true] else v),H)
    |some none=>some (.tt,(if ok then .tup [zero,.bool false] else zero),H)
    |none=>none
   |_=>none
  |_=>none else none
 |.mapset tk m k v=>if isKey tk (JQ T k) then match JQ T m with
  |.map id=>match H[id]? with
   |some (.map kvs)=>match XJ tk (JQ T k) kvs 0 with
    |some (some (i,_))=>some (.tt,.un,H.set id (.map (kvs.set i (JQ T k,JQ T v))))
    |some none=>some (.tt,.un,H.set id (.map (kvs++[(JQ T k,JQ T v)])))
    |none=>none
   |_=>none
  |_=>none else none
 |.len tk x=>match JQ T x with
  |.str s=>if tk=.str then some (.tt,.int .i64 s.size,H) else none
  |.nils=>if tk=.slice then some (.tt,.int .i64 0,H) else none
  |.slc _ _ len _=>if tk=.slice then some (.tt,.int .i64 len,H) else none
  |.rslc _ els _=>if tk=.slice then some (.tt,.int .i64 els.length,H) else none
  |.nilm=>if tk=.map then some (.tt,.int .i64 0,H) else none
  |.map id=>match H[id]? with
   |some (.map kvs)=>if tk=.map then some (.tt,.int .i64 kvs.length,H) else none
   |_=>none
  |_=>none
 |.append z bytes s x=>match JcX H z (JQ T x) with
  |some xs=>J4 z bytes H (JQ T s) xs
  |none=>none
 |.clear zero x=>match JQ T x with
  |.nils=>some (.tt,.tup [],H)
  |.slc id off len _=>match H[id]? with
   |some (.arr z els)=>if zero.length=z∧KX zero=true then
     some (.le (off+len) els.length,.tup [],H.set id (.arr z (els.take off++(GI len zero++els.drop (off+len)))))
    else none
   |_=>none
  |.rslc _ [] _=>some (.tt,.tup [],H)
  |_=>none
 |.extract x i=>match JQ T x with
  |.tup l=>if i < l.length then some (.tt,l.getD i .un,H) else none
  |_=>none
 |.nchk x=>match JQ T x with
  |.ptr id i o=>some (.tt,.ptr id i o,H)
  |.rptr cs=>some (.tt,.rptr cs,H)
  |.fn f l1 l2=>some (.tt,.fn f l1 l2,H)
  |_=>none
 |.sliceS x lo hi=>match JQ T x with
  |.str s=>match KT T 0 lo,KT T s.size hi with
   |some l,some h=>some (.and (.ile 0 l) (.and (.ile l h) (.ile h s.size)),.str (s.extract l.toNat h.toNat),H)
   |_,_=>none
  |_=>none
 |.mmx big x y=>match JQ T x,JQ T y with
  |.int k a,.int k' b=>if k=k' then some (.tt,.int k (if big then (if b > a then b else a) else (if b < a then b else a)),H) else none
  |_,_=>none
 |.copy z x y=>match JcX H z (JQ T y) with
  |none=>none
  |some xs=>match JQ T x with
   |.nils=>some (.tt,.int .i64 0,H)
   |.slc id off len _=>match H[id]? with
    |some (.arr z' els)=>if z'=z then
      some (.le (off+len) els.length,.int .i64 (min xs.length len:Nat),H.set id (.arr z (els.take off++(xs.take (min xs.length len)++els.drop (off+min xs.length len)))))
     else none
    |_=>none
   |.rslc _ [] _=>some (.tt,.int .i64 0,H)
   |_=>none
 |.call _ _=>none
 |.callv _ _=>none
def ofCell:Value→Option CV
 |.bool b=>some (.bool b)
 |.int k n=>some (.int k n)
 |.string s=>some (.str s)
 |.pointer none=>some .nilp
 |.slice none 0 0=>some .nils
 |.map none=>some .nilm
 |.nilFunc=>some .nilf
 |.nilIface=>some .nili
 |_=>none
def Jae:List Value→Option (List CV)
 |[]=>some []
 |v::vs=>match ofCell v,Jae vs with
  |some c,some cs=>some (c::cs)
  |_,_=>none
def ofVal:Value→Option CV
 |.agg cs=>(Jae cs.toList).map .agg
 |v=>ofCell v
def Jv:Operand→Option IArg
 |.tmp t=>some (.s t)
 |.const v=>(ofVal v).map .c
 |.func f=>some (.c (.fn f [] []))
 |.global _=>none
def Y2:List Operand→Option (List IArg)
 |[]=>some []
 |x::xs=>match Jv x,Y2 xs with
  |some a,some as=>some (a::as)
  |_,_=>none
def Jd1:TypeDesc→Bool
 |.struct _=>true
 |.array _ _=>true
 |_=>false
def zeroOf (P:Program) (t:TypeId):Option (List CV):=
 match P.info? t with
 |some i=>match i.zero with
  |some v=>match Jae v.cells.toList with
   |some l=>if l.length=i.size∧KX l=true then some l else none
   |none=>none
  |none=>none
 |none=>none
def zeroVal (P:Program) (t:TypeId):Option CV:=
 match P.info? t with
 |some i=>match i.zero with
  |some v=>ofVal v
  |none=>none
 |none=>none
def JcD (P:Program) (t:TypeId):Option Nat:=(P.info? t).map (·.size)
def Jav (P:Program) (t:TypeId):Option Bool:=(P.underlying t).map Jd1
def Jch (P:Program):List Field→Option (List (Nat×Nat))
 |[]=>some []
 |f::fs=>match JcD P f.type,Jch P fs with
  |some n,some l=>some ((f.offset,n)::l)
  |_,_=>none
def partsOf (places:List (Nat×Nat)):List (Nat×Operand)→Option (List (Nat×Nat×IArg))
 |[]=>some []
 |(i,x)::ps=>match places[i]?,Jv x,partsOf places ps with
  |some (off,n),some a,some l=>some ((off,n,a)::l)
  |_,_,_=>none
def Yv:List (Nat×Operand)→Option (List (Nat×IArg))
 |[]=>some []
 |(i,x)::ps=>match Jv x,Yv ps with
  |some a,some l=>some ((i,a)::l)
  |_,_=>none
def QM:TypeDesc→TK
 |.bool=>.bool
 |.int _=>.int
 |.string=>.str
 |.slice _=>.slice
 |.map _ _=>.map
 |.pointer _=>.ptr
 |.func _ _ _=>.func
 |_=>.other
def Jbf (P:Program) (rc:TypeId→Option (List TK)):List Field→Nat→Option (List TK)
 |[],_=>some []
 |f::fs,off=>
  if f.name = "_" ∨f.offset≠off then none else
  match rc f.type with
  |some ks=>if JcD P f.type=some ks.length∧ks≠[] then (Jbf P rc fs (off+ks.length)).map (ks ++ ·) else none
  |none=>none
def QE (P:Program):Nat→TypeId→Option (List TK)
 |0,_=>none
 |d+1,t=>
  match P.underlying t with
  |some .bool=>some [.bool]
  |some (.int _)=>some [.int]
  |some .string=>some [.str]
  |some (.struct fs)=>if P.stoodInHeld t then none else Jbf P (QE P d) fs.toList 0
  |_=>none
def Yo (P:Program) (d:Nat) (fs:List Field) (off:Nat):Option (List TK):=Jbf P (QE P d) fs off
theorem JeN {P:Program}{d off:Nat}:Yo P d [] off=some []:=rfl
theorem Jea {P:Program}{d off:Nat}{f:Field}{fs:List Field}:Yo P d (f::fs) off =
  if f.name = "_" ∨f.offset≠off then none else
  match QE P d f.type with
  |some ks=>if JcD P f.type=some ks.length∧ks≠[] then (Yo P d fs (off+ks.length)).map (ks ++ ·) else none
  |none=>none:=rfl
def Qg:Option Operand→Option (Option IArg)
 |none=>some none
 |some x=>(Jv x).map some
def K8 (P:Program) (o:Op):Option IOp:=
 match o with
 |.move x=>(Jv x).map .mv
 |.assign x=>(Jv x).map .mv
 |.pick c a b=>match Jv c,Jv a,Jv b with
  |some c,some a,some b=>some (.pick c a b)
  |_,_,_=>none
 |.alloc t=>(zeroOf P t).map .alloc
 |.box _ x=>(Jv x).map .box
 |.build t ps=>match zeroOf P t,P.underlying t with
  |some z,some (.struct fs)=>match Jch P fs.toList with
   |some places=>(partsOf places ps.toList).map (.build z)
   |none=>none
  |some z,some (.array n e)=>match JcD P e with
   |some k=>(partsOf ((GJ n).map fun i=>(i*k,k)) ps.toList).map (.build z)
   |none=>none
  |_,_=>none
 |.buildSlice t n ps=>match P.underlying t with
  |some (.slice e)=>match zeroOf P e,Yv ps.toList with
   |some z,some l=>if z.length≠0∧n*z.length≤2 ^ 24 then some (.bslice z.length n z l) else none
   |_,_=>none
  |_=>none
 |.load t a=>match Jav P t,JcD P t,Jv a with
  |some ag,some n,some a=>some (.load ag n a)
  |_,_,_=>none
 |.store t a v=>match JcD P t,Jv a,Jv v with
  |some n,some a,some v=>some (.store n a v)
  |_,_,_=>none
 |.binOp op t x y _=>match P.underlying t,Jv x,Jv y with
  |some (.struct _),some x,some y=>match QE P 50 t with
   |some ks=>if P.eqGuardType P.depth t then none else
     (match op with | .eql=>some (.eqs ks false x y) | .neq=>some (.eqs ks true x y) | _=>none)
   |none=>none
  |some d,some x,some y=>some (.bin op (QM d) x y)
  |_,_,_=>none
 |.unOp .not _ x=>(Jv x).map .not
 |.unOp .neg _ x=>(Jv x).map .neg
 |.convert s d x=>match P.underlying s,P.underlying d,Jv x with
  |some (.int _),some (.int k),some x=>some (.conv k x)
  |_,_,_=>none
 |.makeFunc (.func f) l1 l2=>match Y2 l1.toList,Y2 l2.toList with
  |some a,some b=>some (.mkfn f a b)
  |_,_=>none
 |.makeMap _ none=>some .mkmap
 |.makeSlice t l c=>match P.underlying t with
  |some (.slice e)=>match zeroOf P e,P.info? e,Jv l,Jv c with
   |some z,some i,some l,some c=>if z.length≠0 then some (.mkslice z.length i.bytes z l c) else none
   |_,_,_,_=>none
  |_=>none
 |.slice t x lo hi mx=>match P.underlying t with
  |some (.slice e)=>match JcD P e,Jv x,Qg lo,Qg hi,Qg mx with
   |some z,some x,some lo,some hi,some mx=>if hi.isNone && mx.isSome then none else some (.slice z x lo hi mx)
   |_,_,_,_,_=>none
  |some .string=>match Jv x,Qg lo,Qg hi,mx with
   |some x,some lo,some hi,none=>some (.sliceS x lo hi)
   |_,_,_,_=>none
  |_=>none
 |.fieldAddr t x f=>match P.underlying t with
  |some (.struct fs)=>match fs[f]? with
   |some fd=>match JcD P fd.type,Jv x with
    |some n,some x=>if n≠0 then some (.faddr fd.offset x) else none
    |_,_=>none
   |none=>none
  |_=>none
 |.field t x f=>match P.underlying t with
  |some (.struct fs)=>match fs[f]? with
   |some fd=>match JcD P fd.type,Jav P fd.type,Jv x with
    |some n,some ag,some x=>some (.field ag fd.offset n x)
    |_,_,_=>none
   |none=>none
  |_=>none
 |.indexAddr t x i=>match P.underlying t with
  |some (.slice e)=>match JcD P e,Jv x,Jv i with
   |some z,some x,some i=>some (.iaddr z x i)
   |_,_,_=>none
  |_=>none
 |.index t x i=>match P.underlying t with
  |some .string=>match Jv x,Jv i with
   |some x,some i=>some (.indexS x i)
   |_,_=>none
  |_=>none
 |.lookup t m k ok=>match P.underlying t with
  |some (.map kt e)=>match P.underlying kt,zeroVal P e,Jv m,Jv k with
   |some d,some z,some m,some k=>if QM d=.int∨QM d=.str∨QM d=.bool then some (.lookup (QM d) z ok m k) else none
   |_,_,_,_=>none
  |_=>none
 |.mapUpdate t m k v=>match P.underlying t with
  |some (.map kt _)=>match P.underlying kt,Jv m,Jv k,Jv v with
   |some d,some m,some k,some v=>if QM d=.int∨QM d=.str∨QM d=.bool then some (.mapset (QM d) m k v) else none
   |_,_,_,_=>none
  |_=>none
 |.insert t m k v=>match P.underlying t with
  |some (.map kt _)=>match P.underlying kt,Jv m,Jv k,Jv v with
   |some d,some m,some k,some v=>if QM d=.int∨QM d=.str∨QM d=.bool then some (.mapset (QM d) m k v) else none
   |_,_,_,_=>none
  |_=>none
 |.nilCheck x=>(Jv x).map .nchk
 |.extract x i=>(Jv x).map fun a=>.extract a i
 |.call c=>match c.callee with
  |.value (.func f)=>match P.funcs[f]? with
   |some fn=>if fn.body.isSome && fn.name != "runtime.NumGoroutine" then (Y2 c.args.toList).map (.call f) else none
   |none=>none
  |.value x=>match Jv x,Y2 c.args.toList with
   |some x,some l=>some (.callv x l)
   |_,_=>none
  |.builtin .len=>match c.argTypes.toList,c.args.toList with
   |[t],[x]=>match P.underlying t with
    |some d=>(Jv x).map (.len (QM d))
    |none=>none
   |_,_=>none
  |.builtin .append=>match c.argTypes.toList,c.args.toList with
   |[t,u],[s,x]=>match P.underlying t,P.underlying u with
    |some (.slice e),some (.slice _)=>match zeroOf P e,P.info? e,Jv s,Jv x with
     |some z,some i,some s,some x=>if z.length≠0 then some (.append z.length i.bytes s x) else none
     |_,_,_,_=>none
    |some (.slice e),some .string=>match zeroOf P e,P.info? e,Jv s,Jv x with
     |some z,some i,some s,some x=>if z.length≠0 then some (.append z.length i.bytes s x) else none
     |_,_,_,_=>none
    |_,_=>none
   |_,_=>none
  |.builtin .max=>match c.args.toList with
   |[x,y]=>match Jv x,Jv y with
    |some x,some y=>some (.mmx true x y)
    |_,_=>none
   |_=>none
  |.builtin .min=>match c.args.toList with
   |[x,y]=>match Jv x,Jv y with
    |some x,some y=>some (.mmx false x y)
    |_,_=>none
   |_=>none
  |.builtin .copy=>match c.argTypes.toList,c.args.toList with
   |[t,_],[x,y]=>match P.underlying t with
    |some (.slice e)=>match zeroOf P e,Jv x,Jv y with
     |some z,some x,some y=>if z.length≠0 then some (.copy z.length x y) else none
     |_,_,_=>none
    |_=>none
   |_,_=>none
  |.builtin .clear=>match c.argTypes.toList,c.args.toList with
   |[t],[x]=>match P.underlying t with
    |some (.slice e)=>match zeroOf P e,Jv x with
     |some z,some x=>some (.clear z x)
     |_,_=>none
    |_=>none
   |_,_=>none
  |_=>none
 |_=>none
def Jal (o:Oper):List Nat:=(o.after.toList.filter fun e=>Region.binds .any e).map (·.on)
def Q6 (P:Program) (ops:Array Oper) (o:Oper):Option IOper:=
 match K8 P o.op with
 |none=>none
 |some i=>match o.guard with
  |none=>some ⟨o.dst,i,none⟩
  |some (j,want)=>match (ops[j]?).bind (·.dst) with
   |some d=>some ⟨o.dst,i,some (d,want)⟩
   |none=>none
def XM (P:Program) (ops:Array Oper):List Oper→Option (List IOper)
 |[]=>some []
 |o::os=>match Q6 P ops o,XM P ops os with
  |some i,some is=>some (i::is)
  |_,_=>none
def Jw (P:Program):Code→Option ICode
 |.skip=>some .skip
 |.region _ ops dr=>match XM P ops ops.toList with
  |some is=>if dr then some (.dreg is (ops.toList.map Jal)) else some (.reg is)
  |none=>some .bad
 |.seq a b=>match Jw P a,Jw P b with
  |some a,some b=>some (.seq a b)
  |_,_=>none
 |.cond c a b=>match Jv c,Jw P a,Jw P b with
  |some c,some a,some b=>some (.cond c a b)
  |_,_,_=>some .bad
 |.block id a=>match Jw P a with
  |some a=>some (.block id a)
  |none=>none
 |.loop a=>match Jw P a with
  |some a=>some (.loop a)
  |none=>none
 |.rangeFunc f ps a b=>match Jv f,Jw P a,Jw P b with
  |some f,some a,some b=>some (.rfunc f ps.toList a b)
  |_,_,_=>some .bad
 |.exit id=>some (.exit id)
 |.ret=>some .ret
 |_=>some .bad
def Yw (P:Program):List ResultVar→Option (List RVar)
 |[]=>some []
 |.tmp t::l=>match Yw P l with
  |some ts=>some (.tmp t::ts)
  |none=>none
 |.cell a t::l=>match Jav P t,JcD P t,Yw P l with
  |some ag,some n,some ts=>some (.cell ag n a::ts)
  |_,_,_=>none
def Je (P:Program) (f:Nat):Option IFunc:=
 match P.funcs[f]? with
 |some fn=>match fn.body with
  |some c=>match Jw P c,Yw P fn.results.toList with
   |some ic,some ts=>some ⟨ic,fn.ntmps,ts⟩
   |_,_=>none
  |none=>none
 |none=>none
@[reducible] def Zo (d : Nat) (x : IOp) : IOper := ⟨some d, x, none⟩
@[reducible] def Zg (d : Nat) (x : IOp) (g : Nat) (b : Bool) : IOper := ⟨some d, x, some (g, b)⟩
@[reducible] def Zm (d a : Nat) : IOper := ⟨some d, .mv (.s a), none⟩
@[reducible] def Zx (d a g : Nat) (b : Bool) : IOper := ⟨some d, .mv (.s a), some (g, b)⟩
@[reducible] def Zl (d a : Nat) : IOper := ⟨some d, .load false 1 (.s a), none⟩
@[reducible] def Zk (d n a : Nat) : IOper := ⟨some d, .load true n (.s a), none⟩
@[reducible] def Za (d i a : Nat) : IOper := ⟨some d, .faddr i (.s a), none⟩
@[reducible] def Zq (d a : Nat) (k : Int) : IOper := ⟨some d, .bin .eql .int (.s a) (.c (.int .u8 k)), none⟩
@[reducible] def Zi (d z a i : Nat) : IOper := ⟨some d, .iaddr z (.s a) (.s i), none⟩
@[reducible] def Zz (d a : Nat) : IOper := ⟨some d, .len .slice (.s a), none⟩
@[reducible] def Zc (k : Int) : IArg := .c (.int .i64 k)
@[reducible] def Zu (k : Int) : IArg := .c (.int .u8 k)
@[reducible] def Zb (o : BinOp) (d a b : Nat) : IOper := ⟨some d, .bin o .int (.s a) (.s b), none⟩
@[reducible] def Zh (o : BinOp) (d a : Nat) (k : Int) : IOper := ⟨some d, .bin o .int (.s a) (.c (.int .i64 k)), none⟩
@[reducible] def Zv (o : BinOp) (d a : Nat) (k : Int) : IOper := ⟨some d, .bin o .int (.s a) (.c (.int .u8 k)), none⟩
@[reducible] def Zd (d c a : Nat) : IOper := ⟨some d, .pick (.s c) (.s a) (.c (.bool false)), none⟩
@[reducible] def Ze (d c a : Nat) : IOper := ⟨some d, .pick (.s c) (.c (.bool true)) (.s a), none⟩
@[reducible] def Zt (d : Nat) (b : Bool) : IOper := ⟨some d, .mv (.c (.bool b)), none⟩
@[reducible] def Zn (d : Nat) (k : Int) : IOper := ⟨some d, .mv (.c (.int .i64 k)), none⟩
@[reducible] def Zw (d a : Nat) : IOper := ⟨some d, .not (.s a), none⟩
@[reducible] def Zj (d a i : Nat) : IOper := ⟨some d, .extract (.s a) i, none⟩
@[reducible] def Zf (d i a g : Nat) (b : Bool) : IOper := ⟨some d, .faddr i (.s a), some (g, b)⟩
@[reducible] def Zy (d a g : Nat) (b : Bool) : IOper := ⟨some d, .load false 1 (.s a), some (g, b)⟩
@[reducible] def ZN (d f : Nat) : IOper := ⟨some d, .call f [], none⟩
@[reducible] def Zp (d f a : Nat) : IOper := ⟨some d, .call f [.s a], none⟩
@[reducible] def Zr (d f a b : Nat) : IOper := ⟨some d, .call f [.s a, .s b], none⟩
@[reducible] def ZR (d f a b c : Nat) : IOper := ⟨some d, .call f [.s a, .s b, .s c], none⟩
@[reducible] def ZV (d f a : Nat) (x : UInt8) : IOper := ⟨some d, .call f [.s a, .c (.str ⟨#[x]⟩)], none⟩
@[reducible] def ZP (d x y a : Nat) : IOper := ⟨some d, .bslice x y [.int .i64 0] [(0, .s a)], none⟩
@[reducible] def ZE (d x y a b : Nat) : IOper := ⟨some d, .append x y (.s a) (.s b), none⟩
@[reducible] def ZK (d : Nat) : IOper := ⟨some d, .alloc [.int .u8 0, .str ⟨#[]⟩, .int .i64 0, .nils, .int .i64 0], none⟩
@[reducible] def ZX (d a : Nat) : IOper := ⟨some d, .box (.s a), none⟩
@[reducible] def ZY (d a : Nat) : IOper := ⟨some d, .nchk (.s a), none⟩
@[reducible] def ZM (d : Nat) : IOper := ⟨some d, .mv (.c .nils), none⟩
@[reducible] def ZF (d a : Nat) : IOper := ⟨some d, .len .str (.s a), none⟩
@[reducible] def ZL (d n a g : Nat) (b : Bool) : IOper := ⟨some d, .load true n (.s a), some (g, b)⟩
@[reducible] def ZI (d z a i g : Nat) (b : Bool) : IOper := ⟨some d, .iaddr z (.s a) (.s i), some (g, b)⟩
@[reducible] def ZC (d f a g : Nat) (b : Bool) : IOper := ⟨some d, .call f [.s a], some (g, b)⟩
@[reducible] def ZW (d f a c g : Nat) (b : Bool) : IOper := ⟨some d, .call f [.s a, .s c], some (g, b)⟩
@[reducible] def ZZ (d a g : Nat) (b : Bool) : IOper := ⟨some d, .len .slice (.s a), some (g, b)⟩
@[reducible] def ZB (o : BinOp) (d a c g : Nat) (b : Bool) : IOper := ⟨some d, .bin o .int (.s a) (.s c), some (g, b)⟩
@[reducible] def ZH (o : BinOp) (d a : Nat) (k : Int) (g : Nat) (b : Bool) : IOper := ⟨some d, .bin o .int (.s a) (.c (.int .i64 k)), some (g, b)⟩
@[reducible] def ZU (o : BinOp) (d a : Nat) (k : Int) (g : Nat) (b : Bool) : IOper := ⟨some d, .bin o .int (.s a) (.c (.int .u8 k)), some (g, b)⟩
@[reducible] def ZT (z a b : Nat) : IOper := ⟨none, .store z (.s a) (.s b), none⟩
@[reducible] def ZQ (n : Nat) (a b : ICode) : ICode := .cond (.s n) a b
@[reducible] def Zs (l : List IOper) (x : ICode) : ICode := .seq (.reg l) x
section
theorem Jfi {own:List Own}{imm:Nat→Nat→Option Value}:∀ (v:Value) (c:CV),ofCell v=some c→rel own imm c v:=by
 intro v c h
 unfold ofCell at h
 split at h <;> (try cases h) <;> simp[rel]
theorem Ja9 {own:List Own}{imm:Nat→Nat→Option Value}:∀ (vs:List Value) (cs:List CV),Jae vs=some cs→JE own imm cs vs
 |[],cs,h=>by simp[Jae]at h; subst h; simp[JE]
 |v::vs,cs,h=>by
  simp only[Jae]at h
  split at h
  ·rename_i c cs' h1 h2
   cases h
   simp only[JE]
   exact ⟨v,vs,rfl,Jfi v c h1,Ja9 vs cs' h2⟩
  ·cases h
theorem ofVal_rel {own:List Own}{imm:Nat→Nat→Option Value}(v:Value) (c:CV) (h:ofVal v=some c):rel own imm c v:=by
 unfold ofVal at h
 split at h
 ·rename_i cs
  cases h1:Jae cs.toList with
  |none=>simp[h1]at h
  |some l=>simp[h1]at h; subst h; simp only[rel]; exact ⟨cs,rfl,Ja9 _ _ h1⟩
 ·exact Jfi v c h
theorem getD_rel {own:List Own}{imm:Nat→Nat→Option Value}{T:List CV}{tmps:Array Value}(h:JE own imm T tmps.toList) (t:Nat):rel own imm (T.getD t .un) (tmps.getD t undef):=by
 have hl:=Ju h
 by_cases ht:t < T.length
 ·obtain ⟨v,hv,hr⟩:=Xj h (Gh ht)
  have e1:T.getD t .un=T[t]:=by simp[Gp,Gh ht]
  have e2:tmps.getD t undef=v:=by
   have:tmps[t]? = some v:=by simpa using hv
   simp[this]
  rw[e1,e2]; exact hr
 ·have e1:T.getD t .un=.un:=by simp[Gp,List.getElem?_eq_none (Nat.le_of_not_lt ht)]
  rw[e1]; simp[rel]
theorem Jy {own:List Own}{imm:Nat→Nat→Option Value}{T:List CV}{a:Act}(h:JE own imm T a.tmps.toList) {x:Operand}{i:IArg}(hx:Jv x=some i):rel own imm (JQ T i) (a.eval x):=by
 cases x with
 |tmp t=>simp[Jv]at hx; subst hx; exact getD_rel h t
 |const v=>
  simp only[Jv]at hx
  cases hv:ofVal v with
  |none=>simp[hv]at hx
  |some c=>simp[hv]at hx; subst hx; exact ofVal_rel v c hv
 |global g=>simp[Jv]at hx
 |func f=>simp[Jv]at hx; subst hx; simp[JQ,rel,Act.eval,JE]
theorem JaN {own:List Own}{imm:Nat→Nat→Option Value}{T:List CV}{a:Act}(h:JE own imm T a.tmps.toList):∀ {xs:List Operand}{is:List IArg},Y2 xs=some is→JE own imm (is.map (JQ T)) (xs.map a.eval)
 |[],is,hx=>by simp[Y2]at hx; subst hx; simp[JE]
 |x::xs,is,hx=>by
  simp only[Y2]at hx
  split at hx
  ·rename_i b bs h1 h2
   cases hx
   simp only[GQ,JE]
   exact ⟨_,_,rfl,Jy h h1,JaN h h2⟩
  ·cases hx
theorem Yp {own:List Own}{imm:Nat→Nat→Option Value}{c:CV}{v:Value}{l:List CV}(h:rel own imm c v) (hc:c.cells=some l):JE own imm l v.cells.toList:=by
 cases c <;> simp[CV.cells]at hc <;> (try subst hc) <;> (try (simp only[rel]at h))
 case agg l'=>obtain ⟨vs,rfl,h⟩:=h; simpa [Value.cells]using h
 case bool=>subst h; simp[Value.cells,JE,rel]
 case int=>subst h; simp[Value.cells,JE,rel]
 case str=>subst h; simp[Value.cells,JE,rel]
 case nilp=>subst h; simp[Value.cells,JE,rel]
 case ptr=>obtain ⟨x,hx,rfl⟩:=h; simp[Value.cells,JE,rel,hx]
 case rptr=>obtain ⟨B,o,rfl,h⟩:=h; simp only[Value.cells,JE,rel]; exact ⟨_,[],by simp,⟨B,o,rfl,h⟩,rfl⟩
 case nils=>subst h; simp[Value.cells,JE,rel]
 case slc=>obtain ⟨x,a,c,hx,rfl,h⟩:=h; simp only[Value.cells,JE,rel]; exact ⟨_,[],by simp,⟨x,a,c,hx,rfl,h⟩,rfl⟩
 case rslc=>
  rcases h with ⟨h1,h2,b,rfl⟩ | ⟨B,o,c,rfl,h⟩
  ·simp only[Value.cells,JE,rel]; exact ⟨_,[],by simp,.inl ⟨h1,h2,b,rfl⟩,rfl⟩
  ·simp only[Value.cells,JE,rel]; exact ⟨_,[],by simp,.inr ⟨B,o,c,rfl,h⟩,rfl⟩
 case nilm=>subst h; simp[Value.cells,JE,rel]
 case map=>obtain ⟨x,hx,rfl⟩:=h; simp[Value.cells,JE,rel,hx]
 case fn=>obtain ⟨v1,v2,rfl,h⟩:=h; simp only[Value.cells,JE,rel]; exact ⟨_,[],by simp,⟨v1,v2,rfl,h⟩,rfl⟩
 case yld=>subst h; simp[Value.cells,JE,rel]
 case nilf=>subst h; simp[Value.cells,JE,rel]
 case iface=>obtain ⟨r,rfl,h⟩:=h; simp only[Value.cells,JE,rel]; exact ⟨_,[],by simp,⟨r,rfl,h⟩,rfl⟩
 case nili=>subst h; simp[Value.cells,JE,rel]
theorem oneCell_rel {own:List Own}{imm:Nat→Nat→Option Value}{c:CV}{v:Value}(h:rel own imm c v) (hc:c.oneCell=true):v.oneCell'=true:=by
 cases c <;> simp[CV.oneCell]at hc <;> simp only[rel]at h
 case bool=>subst h; rfl
 case int=>subst h; rfl
 case str=>subst h; rfl
 case nilp=>subst h; rfl
 case ptr=>obtain ⟨x,hx,rfl⟩:=h; rfl
 case rptr=>obtain ⟨B,o,rfl,h⟩:=h; rfl
 case nils=>subst h; rfl
 case slc=>obtain ⟨x,a,c,hx,rfl,h⟩:=h; rfl
 case rslc=>rcases h with ⟨_,_,b,rfl⟩ | ⟨B,o,c,rfl,h⟩ <;> rfl
 case nilm=>subst h; rfl
 case map=>obtain ⟨x,hx,rfl⟩:=h; rfl
 case fn=>obtain ⟨v1,v2,rfl,h⟩:=h; rfl
 case yld=>subst h; rfl
 case nilf=>subst h; rfl
 case iface=>obtain ⟨r,rfl,h⟩:=h; rfl
 case nili=>subst h; rfl
theorem QS {own:List Own}{imm:Nat→Nat→Option Value}:∀ {l:List CV}{vs:List Value},JE own imm l vs→KX l=true→∀ v∈vs,v.oneCell'=true
 |[],vs,h,_,v,hv=>by simp[JE]at h; subst h; cases hv
 |c::cs,vs,h,ha,v,hv=>by
  simp only[JE]at h
  obtain ⟨r,rs,rfl,h1,h2⟩:=h
  simp[KX]at ha
  cases hv with
  |head=>exact oneCell_rel h1 ha.1
  |tail _ hv=>exact QS h2 ha.2 v hv
def Good (P:Program) (E:Env) (n0:Nat) (m:Bk) (H:List CObj) (w:World) (s:Sem Next) (v:CV) (H':List CObj):Prop:=
 ∃ m' w' r nx,s.run P w=.ok nx w'∧(nx=.value r∨(nx=.skip∧r=undef))∧Ext n0 m H w m' H' w'∧Sim E m' H' w'∧rel m'.own m'.imm v r∧Kg m.own m'.own
section
variable {P:Program}{E:Env}{n0:Nat}{m:Bk}{H:List CObj}{w:World}{s:Sem Next}{v:CV}
theorem Jl {r:Value}(hs:Sim E m H w) (h:s.run P w=.ok (.value r) w) (hr:rel m.own m.imm v r):Good P E n0 m H w s v H:=
 ⟨m,w,r,_,h,.inl rfl,Ext.refl _ _ _ _,hs,hr,Kg.refl _⟩
theorem Jft {r:Value}{ob:Obj}{x:Own}{o:CObj}(hs:Sim E m H w) (h:s.run P w=.ok (.value r) (w.alloc ob)) (hB:x.B=w.heap.size)
  (ho:o.alive=true→Y0 (m.own++[x]) m.imm x o (w.alloc ob)) (hne:∀ s b,o≠.ext s b) (hr:rel (m.own++[x]) m.imm v r):Good P E n0 m H w s v (H++[o]):=
 ⟨{ m with own:=m.own++[x] },w.alloc ob,r,_,h,.inl rfl,Ext.alloc (w':=w.alloc ob) hs rfl ⟨rfl,rfl,rfl⟩ x o hB,hs.alloc (w':=w.alloc ob) rfl x o hB ho hne,hr,Kg.append _ _⟩
theorem good_row {r:Value}{cells:Array Value}{elem:TypeId}{z:Nat}{els:List (List CV)}(hs:Sim E m H w) (h:s.run P w=.ok (.value r) (w.alloc (.cells cells elem)))
  (hz:els.length*z≤cells.size) (hc:relO m.own m.imm z els (fun i=>cells[i]?) 0) (h1:∀ (i:Nat) v,cells[i]? = some v→v.oneCell'=true) (hr:rel (m.own++[⟨w.heap.size,0,cells.size,z⟩]) m.imm v r):Good P E n0 m H w s v (H++[.arr z els]):=by
 refine Jft (x:=⟨w.heap.size,0,cells.size,z⟩) (o:=.arr z els) hs h rfl (fun _=>?_) (by intro s b h; cases h) hr
 refine ⟨rfl,cells,elem,heap_alloc_new w _,rfl,by simpa using hz,?_,h1⟩
 exact Jaa (Kg.append _ _) (J5.refl _) hc
theorem last_own (hs:Sim E m H w) (x:Own):(m.own++[x])[H.length]? = some x:=by rw[← hs.len]; simp
end
theorem Jc7 {own:List Own}{imm:Nat→Nat→Option Value}{l:List CV}{cells:Array Value}(h:JE own imm l cells.toList):relO own imm l.length [l] (fun i=>cells[i]?) 0:=by
 intro j e he
 cases j with
 |succ j=>simp at he
 |zero=>
  simp at he
  subst he
  refine ⟨rfl,fun t c hc=>?_⟩
  obtain ⟨v,hv,hr⟩:=Xj h hc
  exact ⟨v,by simpa using hv,hr⟩
theorem relO_flat {own:List Own}{imm:Nat→Nat→Option Value}{z:Nat}:∀ (els:List (List CV)) (o:Nat) (R:Nat→Option Value),(∀ e∈els,e.length=z)→(∀ (i:Nat) c,els.flatten[i]? = some c→∃ r,R (o+i)=some r∧rel own imm c r)→relO own imm z els R o
 |[],_,_,_,_=>by intro j e he; simp at he
 |e::es,o,R,hz,h=>by
  have he:e.length=z:=hz e (by simp)
  have ih:=relO_flat es (o+z) R (fun x hx=>hz x (by simp[hx])) (fun i c hc=>by
   have:=h (z+i) c (by simp only[GH]; rw[Gs (by omega),he]; simpa using hc)
   rw[show o+z+i=o+(z+i) by omega]; exact this)
  intro j d hd
  cases j with
  |zero=>
   simp at hd; subst hd
   refine ⟨he,fun t c hc=>?_⟩
   have:=h t c (by simp only[GH]; rw[Gc (Gd.1 hc).1]; exact hc)
   simpa using this
  |succ j=>
   simp at hd
   have:=ih j d hd
   rw[show o+(j+1)*z=o+z+j*z by rw[Gg]; omega]
   exact this
theorem flat_relO {own:List Own}{imm:Nat→Nat→Option Value}{z:Nat}:∀ (els:List (List CV)) (o:Nat) (R:Nat→Option Value),relO own imm z els R o→(∀ e∈els,e.length=z)∧(∀ (i:Nat) c,els.flatten[i]? = some c→∃ r,R (o+i)=some r∧rel own imm c r)
 |[],_,_,_=>by simp
 |e::es,o,R,h=>by
  have h0:=h 0 e rfl
  have ih:=flat_relO es (o+z) R (fun j d hd=>by
   have:=h (j+1) d (by simpa using hd)
   rw[show o+(j+1)*z=o+z+j*z by rw[Gg]; omega]at this
   exact this)
  refine ⟨fun x hx=>?_,fun i c hc=>?_⟩
  ·cases hx with
   |head=>exact h0.1
   |tail _ hx=>exact ih.1 x hx
  ·simp only[GH]at hc
   by_cases hi:i < e.length
   ·rw[Gc hi]at hc
    simpa using h0.2 i c hc
   ·rw[Gs (by omega)]at hc
    have:=ih.2 (i-e.length) c hc
    rw[h0.1]at this hi
    rw[show o+z+(i-z)=o+i by omega]at this
    exact this
theorem JaY {z:Nat}:∀ (els:List (List CV)),(∀ e∈els,e.length=z)→els.flatten.length=els.length*z
 |[],_=>by simp
 |e::es,h=>by
  simp only[GH,Gj,G9]
  rw[JaY es (fun x hx=>h x (by simp[hx])),h e (by simp),Gg]; omega
theorem QW {P:Program}{w:World}{t:TypeId}{l:List CV}(h:zeroOf P t=some l):∃ i zv,P.info? t=some i∧i.zero=some zv∧(zeroValue t).run P w=.ok zv w∧(∀ own imm,JE own imm l zv.cells.toList)∧l.length=i.size∧KX l=true:=by
 unfold zeroOf at h
 cases hi:P.info? t with
 |none=>simp[hi]at h
 |some i=>
  simp only[hi]at h
  cases hz:i.zero with
  |none=>simp[hz]at h
  |some zv=>
   simp only[hz]at h
   cases hc:Jae zv.cells.toList with
   |none=>simp[hc]at h
   |some l'=>
    simp only[hc]at h
    split at h
    ·rename_i hlen
     cases h
     exact ⟨i,zv,rfl,hz,by simp[zeroValue,typeInfo,hi,hz],fun own imm=>Ja9 _ _ hc,hlen.1,hlen.2⟩
    ·cases h
theorem JcF {P:Program}{w:World}{t:TypeId}{n:Nat}(h:JcD P t=some n):(sizeOf t).run P w=.ok n w:=by
 unfold JcD at h
 cases hi:P.info? t with
 |none=>simp[hi]at h
 |some i=>simp[hi]at h; subst h; simp[sizeOf,typeInfo,hi]
theorem Ja2 {P:Program}{w:World}{t:TypeId}{b:Bool}(h:Jav P t=some b):(isAgg t).run P w=.ok b w:=by
 unfold Jav at h
 cases hi:P.underlying t with
 |none=>simp[hi]at h
 |some d=>simp[hi]at h; subst h; cases d <;> simp[isAgg,underlying,hi,Jd1]
theorem InR.wrap {k:IntKind}{n:Int}(h:InR k n):k.wrap n=n:=by
 have h1:=h.lo
 have h2:=h.hi
 cases k <;> simp[IntKind.min,IntKind.max,IntKind.signed,IntKind.bits]at h1 h2 <;> simp[IntKind.wrap,IntKind.signed,IntKind.bits] <;> (try split) <;> omega
theorem addr_add (B o n:Nat):(⟨B,o,none⟩:Addr).add n=⟨B,o+n,none⟩:=by unfold Addr.add; split <;> simp_all
end
section
section
variable {P:Program}{E:Env}{n0:Nat}{m:Bk}{H H':List CObj}{w:World}{T:List CV}{a:Act}{c:Cond}{v:CV}{o:Oper}
structure Pre (E:Env) (n0:Nat) (m:Bk) (H:List CObj) (w:World) (T:List CV) (a:Act):Prop where
 sim:Sim E m H w
 tmps:JE m.own m.imm T a.tmps.toList
 long:n0≤H.length
theorem snd_mv {x:Operand}{i:IArg}(ho:o.op=.move x∨o.op=.assign x) (hx:Jv x=some i) (he:exec (.mv i) T H=some (c,v,H')) (hp:Pre E n0 m H w T a):Good P E n0 m H w (execOp a.eval o) v H':=by
 simp only[exec,Ga,Gb]at he
 obtain ⟨_,rfl,rfl⟩:=he
 refine Jl (r:=a.eval x) hp.sim ?_ (Jy hp.tmps hx)
 rcases ho with ho | ho <;> simp[execOp,ho]
theorem snd_pick {x y z:Operand}{i j k:IArg}(ho:o.op=.pick x y z) (hx:Jv x=some i) (hy:Jv y=some j) (hz:Jv z=some k) (he:exec (.pick i j k) T H=some (c,v,H')) (hp:Pre E n0 m H w T a):Good P E n0 m H w (execOp a.eval o) v H':=by
 have h1:=Jy hp.tmps hx
 have h2:=Jy hp.tmps hy
 have h3:=Jy hp.tmps hz
 simp only[exec]at he
 split at he
 ·rename_i e
  rw[e]at h1; simp only[rel]at h1
  simp only[Ga,Gb]at he
  obtain ⟨_,rfl,rfl⟩:=he
  exact Jl (r:=a.eval y) hp.sim (by simp[execOp,ho,h1,asBool]) h2
 ·rename_i e
  rw[e]at h1; simp only[rel]at h1
  simp only[Ga,Gb]at he
  obtain ⟨_,rfl,rfl⟩:=he
  exact Jl (r:=a.eval z) hp.sim (by simp[execOp,ho,h1,asBool]) h3
 ·cases he
theorem JdN (hs:Sim E m H w) (x:Own):(m.own++[x])[H.length]? = some x:=last_own hs x
theorem snd_alloc {t:TypeId}{z:List CV}(ho:o.op=.alloc t) (hz:zeroOf P t=some z) (he:exec (.alloc z) T H=some (c,v,H')) (hp:Pre E n0 m H w T a):Good P E n0 m H w (execOp a.eval o) v H':=by
 simp only[exec,Ga,Gb]at he
 obtain ⟨_,rfl,rfl⟩:=he
 obtain ⟨i,zv,_,_,hrun,hrel,hlen,h1z⟩:=QW (w:=w) hz
 have hr:=hrel m.own m.imm
 refine good_row (r:=.pointer (some ⟨w.heap.size,0,none⟩)) (cells:=zv.cells) (elem:=t) hp.sim ?_ ?_ (Jc7 hr) (fun i v hv=>QS hr h1z v (GY.2 (GL hv))) ?_
 ·simp[execOp,ho,Instr.alloc,hrun,newVar,newRow]
 ·have:=Ju hr; simp at this; simp[this]
 ·simp only[rel]
  exact ⟨_,JdN hp.sim _,by simp⟩
theorem snd_box {t:TypeId}{x:Operand}{i:IArg}(ho:o.op=.box t x) (hx:Jv x=some i) (he:exec (.box i) T H=some (c,v,H')) (hp:Pre E n0 m H w T a):Good P E n0 m H w (execOp a.eval o) v H':=by
 have h1:=Jy hp.tmps hx
 simp only[exec]at he
 split at he
 ·rename_i l hl
  split at he
  ·rename_i h1l
   simp only[Ga,Gb]at he
   obtain ⟨_,rfl,rfl⟩:=he
   have hr:=Yp h1 hl
   refine good_row (r:=.pointer (some ⟨w.heap.size,0,none⟩)) (cells:=(a.eval x).cells) (elem:=t) hp.sim ?_ ?_ (Jc7 hr) (fun i v hv=>QS hr h1l v (GY.2 (GL hv))) ?_
   ·simp[execOp,ho,Instr.box,newVar,newRow]
   ·have:=Ju hr; simp at this; simp[this]
   ·simp only[rel]
    exact ⟨_,JdN hp.sim _,by simp⟩
  ·cases he
 ·cases he
theorem JcG {t:TypeId}{ag:Bool}{n:Nat}{B o':Nat}{vs:List Value}(hag:Jav P t=some ag) (hn:JcD P t=some n)
  (hc:∀ (j:Nat) v,(vs.take n)[j]? = some v→w.cell? ⟨B,o' + j,none⟩=some v) (hlen:n≤vs.length) (h1:ag=false→1≤vs.length) (h1':ag=false→∀ v,vs[0]? = some v→w.cell? ⟨B,o',none⟩=some v) :
  (loadVar t ⟨B,o',none⟩).run P w=.ok (if ag then .agg (vs.take n).toArray else vs.headD undef) w:=by
 unfold loadVar
 cases ag with
 |true=>
  have hl:=run_loadCells_list (P:=P) w ⟨B,o',none⟩ (vs.take n) (fun j v hv=>by rw[addr_add]; exact hc j v hv)
  have:(vs.take n).length=n:=by simp; omega
  rw[this]at hl
  simp[Ja2 hag,JcF hn,hl]
 |false=>
  have h2:=h1 rfl
  cases vs with
  |nil=>simp at h2
  |cons v vs=>
   have:=h1' rfl v rfl
   simp[Ja2 hag,this]
theorem rel_taken {own:List Own}{imm:Nat→Nat→Option Value}{e:List CV}{off n:Nat}{R:Nat→Option Value}{b:Nat}(h:∀ (t:Nat) c,e[t]? = some c→∃ r,R (b+t)=some r∧rel own imm c r) (hn:off+n≤e.length) :
  ∃ vs:List Value,vs.length=n∧JE own imm ((e.drop off).take n) vs∧∀ (j:Nat) v,vs[j]? = some v→R (b+off+j)=some v:=by
 induction n generalizing off with
 |zero=>exact ⟨[],rfl,by simp[JE],fun j v hv=>by simp at hv⟩
 |succ n ih=>
  obtain ⟨vs,hl,hr,hR⟩:=ih (off:=off+1) (by omega)
  have hlt:off < e.length:=by omega
  obtain ⟨r,hr0,hrel⟩:=h off e[off] (Gh hlt)
  refine ⟨r::vs,by simp[hl],?_,fun j v hv=>?_⟩
  ·rw[GM hlt]
   simp only[G8,JE]
   exact ⟨r,vs,rfl,hrel,hr⟩
  ·cases j with
   |zero=>simp at hv; subst hv; simpa using hr0
   |succ j=>simp at hv; have:=hR j v hv; rw[show b+off+(j+1)=b+(off+1)+j by omega]; exact this
theorem rel_weak {own:List Own}{imm:Nat→Nat→Option Value}{c:CV}{v:Value}(h:rel [] imm c v):rel own imm c v:=QH (Kg.nil _) (J5.refl _) c v h
theorem load_val {t:TypeId}{x:Operand}{i:IArg}{ag:Bool}{n:Nat}(hag:Jav P t=some ag) (hn:JcD P t=some n) (hx:Jv x=some i) (he:exec (.load ag n i) T H=some (c,v,H')) (hc:c.holds) (hp:Pre E n0 m H w T a) :
  H'=H∧∃ ad r,a.eval x=.pointer (some ad)∧(loadVar t ad).run P w=.ok r w∧rel m.own m.imm v r:=by
 have h1:=Jy hp.tmps hx
 simp only[exec]at he
 split at he
 ·rename_i id i' off e
  rw[e]at h1; simp only[rel]at h1
  obtain ⟨x',hx',hv⟩:=h1
  split at he
  ·rename_i z els hH
   obtain ⟨hz,cells,elem,hb,hsz,hle,hrow,hcone⟩:=hp.sim.obj id _ x' hH hx'
   have key:∀ k,i' + 1≤els.length∧off+k≤(els.getD i' []).length→∃ vs:List Value,vs.length=k∧JE m.own m.imm (((els.getD i' []).drop off).take k) vs∧∀ (j:Nat) v,vs[j]? = some v→w.cell? ⟨x'.B,x'.o+i' * x'.z+off+j,none⟩=some v:=by
    rintro k ⟨hk1,hk2⟩
    have hget:els[i']? = some (els.getD i' []):=by simp[Gp,Gh (show i' < els.length by omega)]
    obtain ⟨_,hcell⟩:=hrow i' _ hget
    obtain ⟨vs,hl,hr,hR⟩:=rel_taken hcell hk2
    exact ⟨vs,hl,hr,fun j v hv=>by simp[World.cell?,hb,hR j v hv]⟩
   cases ag with
   |true=>
    simp only[if_true,Ga,Gb]at he
    obtain ⟨rfl,rfl,rfl⟩:=he
    obtain ⟨vs,hl,hr,hR⟩:=key n hc
    have:=JcG (w:=w) (B:=x'.B) (o':=x'.o+i' * x'.z+off) (vs:=vs) hag hn (fun j v hv=>hR j v (by rw[GG (by omega)]at hv; exact hv)) (by omega) (by simp) (by simp)
    refine ⟨rfl,_,_,hv,this,?_⟩
    simp only[if_true,rel]
    have et:vs.take n=vs:=GG (by omega)
    exact ⟨_,rfl,by rw[et]; exact hr⟩
   |false=>
    simp only[Gq,if_false,Ga,Gb]at he
    obtain ⟨rfl,rfl,rfl⟩:=he
    obtain ⟨vs,hl,hr,hR⟩:=key 1 hc
    obtain ⟨v0,rfl⟩:∃ v0,vs=[v0]:=by
     cases vs with
     |nil=>simp at hl
     |cons v0 vs=>cases vs with
      |nil=>exact ⟨v0,rfl⟩
      |cons _ _=>simp at hl
    have h0:=hR 0 v0 rfl
    refine ⟨rfl,_,v0,hv,?_,?_⟩
    ·rw[GU]at h0
     simp only[loadVar,Sem.run_bind,Ja2 hag,Result.andThen_ok,Gq,if_false,run_load,h0]
    ·have hlt:off < (els.getD i' []).length:=hc.2
     rw[GM hlt]at hr
     simp only[G8,List.take_zero,JE]at hr
     obtain ⟨r,rs,e1,hr,_⟩:=hr
     cases e1
     have:(els.getD i' []).getD off .un=(els.getD i' [])[off]:=by
      generalize els.getD i' []=e0 at hlt
      simp only[Gp,Gh hlt,Gw]
     rw[this]; exact hr
  ·cases he
 ·rename_i cs e
  rw[e]at h1; simp only[rel]at h1
  obtain ⟨B,o',hv,hat⟩:=h1
  have hat':=(Yk _ _).1 hat
  cases ag with
  |true=>
   simp only[if_true,Ga,Gb]at he
   obtain ⟨rfl,rfl,rfl⟩:=he
   obtain ⟨vs,hl,hr,hR⟩:=rel_taken (off:=0) (n:=n) (b:=o') hat' (by simpa [Cond.holds]using hc)
   have:=JcG (w:=w) (B:=B) (o':=o') (vs:=vs) hag hn (fun j v hv=>hp.sim.imm _ _ _ (by have:=hR j v (by rw[GG (by omega)]at hv; exact hv); rw[GU]at this; exact this)) (by omega) (by simp) (by simp)
   refine ⟨rfl,_,_,hv,this,?_⟩
   simp only[if_true,rel]
   refine ⟨_,rfl,?_⟩
   have et:vs.take n=vs:=GG (by omega)
   rw[et]
   rw[List.drop_zero]at hr
   exact Ki (Kg.nil _) (J5.refl _) _ _ hr
  |false=>
   simp only[Gq,if_false]at he
   split at he
   ·rename_i c0 cs'
    simp only[Ga,Gb]at he
    obtain ⟨rfl,rfl,rfl⟩:=he
    obtain ⟨r,hr,hrel⟩:=hat' 0 _ rfl
    have h0:=hp.sim.imm B o' r (by simpa using hr)
    exact ⟨rfl,_,r,hv,by simp only[loadVar,Sem.run_bind,Ja2 hag,Result.andThen_ok,Gq,if_false,run_load,h0],rel_weak hrel⟩
   ·cases he
 ·cases he
theorem snd_load {t:TypeId}{x:Operand}{i:IArg}{ag:Bool}{n:Nat}(ho:o.op=.load t x) (hag:Jav P t=some ag) (hn:JcD P t=some n) (hx:Jv x=some i) (he:exec (.load ag n i) T H=some (c,v,H')) (hc:c.holds) (hp:Pre E n0 m H w T a) :
  Good P E n0 m H w (execOp a.eval o) v H':=by
 obtain ⟨rfl,ad,r,hv,hr,hrel⟩:=load_val hag hn hx he hc hp
 exact Jl hp.sim (by simp[execOp,ho,Instr.loadAt,hv,Instr.sureAddr,hr]) hrel
theorem spliced {own:List Own}{imm:Nat→Nat→Option Value}{z i off base:Nat}{els:List (List CV)}{cells:Array Value}{l:List CV}{vs:List Value}
  (h:relO own imm z els (fun i=>cells[i]?) base) (hi:i < els.length) (hoff:off+l.length≤(els.getD i []).length) (hr:JE own imm l vs) (hb:base+els.length*z≤cells.size) :
  relO own imm z (els.set i (splice (els.getD i []) off l)) (fun j=>(cells.toList.take (base+i*z+off)++vs++cells.toList.drop (base+i*z+off+vs.length)).toArray[j]?) base:=by
 have hlen:=Ju hr
 have hget:els[i]? = some (els.getD i []):=by simp[Gp,Gh hi]
 have hz:(els.getD i []).length=z:=(h i _ hget).1
 have hmul:(i+1)*z≤els.length*z:=Gt z hi
 rw[Gg,Gy]at hmul
 have rd:∀ p,(cells.toList.take (base+i*z+off)++vs++cells.toList.drop (base+i*z+off+vs.length)).toArray[p]? =
   if base+i*z+off≤p∧p < base+i*z+off+vs.length then vs[p-(base+i*z+off)]? else cells[p]?:=by
  intro p
  simp only[G7]
  have hA:(cells.toList.take (base+i*z+off)).length=base+i*z+off:=by simp only[Gl,Gj,Gm,Gi]; omega
  by_cases h1:p < base+i*z+off
  ·rw[GN,Gc (by omega),GD h1,if_neg (by omega)]; simp
  ·by_cases h2:p < base+i*z+off+vs.length
   ·rw[Gc (by simp only[Gl,Gj,Gm,Gi]; omega),Gs (by omega),hA,if_pos ⟨by omega,h2⟩]
   ·rw[Gs (by simp only[Gl,Gj,Gm,Gi]; omega),if_neg (by omega),Gx]
    simp only[Gj,hA]
    rw[show base+i*z+off+vs.length+(p-(base+i*z+off+vs.length))=p by omega]; simp
 intro j e he
 rw[Gf]at he
 split at he
 ·rename_i hij
  subst hij
  obtain rfl:splice (els.getD i []) off l=e:=by simpa using he
  have hsl:(splice (els.getD i []) off l).length=z:=by simp only[splice,Gj,Gl,Gm]; omega
  refine ⟨hsl,fun t c hc=>?_⟩
  have ht:t < z:=hsl▸(Gd.1 hc).1
  show ∃ r,(_:Array Value)[base+i*z+t]? = some r∧_
  rw[rd]
  simp only[splice]at hc
  by_cases h1:t < off
  ·rw[if_neg (by omega)]
   rw[Gc (by simp only[Gl,Gj,Gm,Gi]; omega),GD h1]at hc
   exact (h i _ hget).2 t c hc
  ·by_cases h2:t < off+l.length
   ·rw[if_pos (by omega)]
    rw[Gs (by simp only[Gl,Gj,Gm,Gi]; omega)]at hc
    have e1:((els.getD i []).take off).length=off:=by simp only[Gl,Gj,Gm,Gi]; omega
    rw[e1,Gc (by omega)]at hc
    obtain ⟨v,hv,hrel⟩:=Xj hr hc
    exact ⟨v,by rw[show base+i*z+t-(base+i*z+off)=t-off by omega]; exact hv,hrel⟩
   ·rw[if_neg (by omega)]
    rw[Gs (by simp only[Gl,Gj,Gm,Gi]; omega)]at hc
    have e1:((els.getD i []).take off).length=off:=by simp only[Gl,Gj,Gm,Gi]; omega
    rw[e1,Gs (by omega),Gx,show off+l.length+(t-off-l.length)=t by omega]at hc
    exact (h i _ hget).2 t c hc
 ·rename_i hij
  have hj:=h j e he
  refine ⟨hj.1,fun t c hc=>?_⟩
  have ht:t < z:=hj.1▸(Gd.1 hc).1
  obtain ⟨r,hr1,hr2⟩:=hj.2 t c hc
  refine ⟨r,?_,hr2⟩
  show (_:Array Value)[base+j*z+t]? = some r
  rw[rd,if_neg]
  ·exact hr1
  ·rintro ⟨h1,h2⟩
   rcases Nat.lt_or_gt_of_ne hij with hlt | hgt
   ·have:(i+1)*z≤j*z:=Gt z hlt
    rw[Gg,Gy]at this; omega
   ·have:(j+1)*z≤i*z:=Gt z hgt
    rw[Gg,Gy]at this; omega
theorem YA {cells:Array Value}{vs:List Value}{p q:Nat}(h:∀ (i:Nat) v,cells[i]? = some v→v.oneCell'=true) (h1:∀ v∈vs,v.oneCell'=true):∀ (i:Nat) v,(cells.toList.take p++vs++cells.toList.drop q).toArray[i]? = some v→v.oneCell'=true:=by
 intro i v hv
 have hm:v∈cells.toList.take p++vs++cells.toList.drop q:=by
  have:=GL hv
  simpa using this
 have hc:∀ v∈cells.toList,v.oneCell'=true:=by
  intro v hv
  obtain ⟨j,hj⟩:=List.getElem?_of_mem hv
  exact h j v (by simpa using hj)
 rcases Hd.1 hm with h2 | h2
 ·rcases Hd.1 h2 with h3 | h3
  ·exact hc v (List.mem_of_mem_take h3)
  ·exact h1 v h3
 ·exact hc v (List.mem_of_mem_drop h2)
theorem JcE (w:World) (g:Nat) (cs:Array Value):(w.setRow g cs).os=w.os∧(w.setRow g cs).output=w.output∧(w.setRow g cs).tape=w.tape:=⟨rfl,rfl,rfl⟩
theorem Jdh {s:Sem Next}{k:Nat}{z:Nat}{els els':List (List CV)}{x:Own}{cells cs:Array Value}{elem:TypeId}{nx:Next}{r:Value}(hp:Pre E n0 m H w T a) (hk:H[k]? = some (.arr z els)) (hx:m.own[k]? = some x)
  (hb:w.heap[x.B]? = some (.cells cells elem (0,0))) (hz:x.z=z) (hrun:s.run P w=.ok nx (w.setRow x.B cs)) (hnx:nx=.value r∨(nx=.skip∧r=undef)) (hsz:cs.size=x.n) (hle:x.o+els'.length*x.z≤x.n)
  (hlow:∀ i,i < x.o→cs[i]? = cells[i]?) (hrow:relO m.own m.imm x.z els' (fun i=>cs[i]?) x.o) (hcs:∀ (i:Nat) v,cs[i]? = some v→v.oneCell'=true) (hv:rel m.own m.imm v r):Good P E n0 m H w s v (H.set k (.arr z els')):=by
 refine ⟨m,_,r,nx,hrun,hnx,Ext.put hk rfl hx (setRow_size _ _ _) (fun B hB=>setRow_other w x.B B cs hB) (JcE _ _ _),?_,hv,Kg.refl _⟩
 refine hp.sim.put hk rfl hx (setRow_size _ _ _) (fun B hB=>setRow_other w x.B B cs hB) (fun i hi=>?_) ⟨hz,cs,elem,setRow_heap w x.B cells cs elem (0,0) hb,hsz,hle,hrow,hcs⟩ (by intro s b h; cases h)
 rw[cell_setRow_same w x.B i cells cs elem (0,0) hb,hlow i hi]
 simp[World.cell?,hb]
theorem snd_store {t:TypeId}{x y:Operand}{i j:IArg}{n:Nat}(ho:o.op=.store t x y) (hn:JcD P t=some n) (hx:Jv x=some i) (hy:Jv y=some j) (he:exec (.store n i j) T H=some (c,v,H')) (hc:c.holds) (hp:Pre E n0 m H w T a) :
  Good P E n0 m H w (execOp a.eval o) v H':=by
 have h1:=Jy hp.tmps hx
 have h2:=Jy hp.tmps hy
 simp only[exec]at he
 split at he
 ·rename_i id i' off l e el
  rw[e]at h1; simp only[rel]at h1
  obtain ⟨x',hx',hv⟩:=h1
  split at he
  ·rename_i z els hH
   split at he
   ·rename_i hl
    simp only[Ga,Gb]at he
    obtain ⟨rfl,rfl,rfl⟩:=he
    obtain ⟨hz,cells,elem,hb,hsz,hle,hrow,hcone⟩:=hp.sim.obj id _ x' hH hx'
    have hr:=Yp h2 el
    obtain ⟨vs,hvs⟩:∃ vs,(a.eval y).cells.toList=vs:=⟨_,rfl⟩
    rw[hvs]at hr
    have hlen:=Ju hr
    have hone:=QS hr hl.2
    have hvn:(a.eval y).cells.size=vs.length:=by rw[← hvs]; simp
    simp only[Cond.holds]at hc
    have hi':i' < els.length:=by omega
    have hget:els[i']? = some (els.getD i' []):=by simp[Gp,Gh hi']
    have hzl:(els.getD i' []).length=x'.z:=(hrow i' _ hget).1
    have hmul:(i' + 1)*x'.z≤els.length*x'.z:=Gt _ hi'
    rw[Gg,Gy]at hmul
    have hst:=run_storeCells_at P x'.B (x'.o+i' * x'.z+off) elem vs 0 cells w hb (by omega) hone
    refine Jdh (r:=undef) (nx:=.skip) (cs:=(cells.toList.take (x'.o+i' * x'.z+off+0)++vs++cells.toList.drop (x'.o+i' * x'.z+off+0+vs.length)).toArray) hp hH hx' hb hz ?_ (.inr ⟨rfl,rfl⟩) ?_ (by simpa using hle) ?_ ?_ ?_ (by simp[rel])
    ·have hnn:(a.eval y).cells.size=n:=by omega
     simp only[execOp,ho,Instr.storeAt,hv,Instr.sureAddr,storeVar,Sem.run_bind,Sem.run_pure,Result.andThen_ok,JcF hn,hnn,ne_eq,not_true_eq_false,if_false,hvs,hst]
    ·simp only[List.size_toArray,Gj,Gl,Gm,Gi]; omega
    ·intro q hq
     have e1:q < (cells.toList.take (x'.o+i' * x'.z+off+0)).length:=by simp only[Gl,Gi]; omega
     have e2:q < x'.o+i' * x'.z+off+0:=by omega
     simp only[G7,GN]
     rw[Gc e1,GD e2,Array.getElem?_toList]
    ·have:=spliced (l:=l) (off:=off) hrow hi' (by omega) hr (by omega)
     simpa using this
    ·exact YA hcone hone
   ·cases he
  ·cases he
 ·cases he
end
end
section
section
variable {P:Program}{E:Env}{n0:Nat}{m:Bk}{H H':List CObj}{w:World}{T:List CV}{a:Act}{c:Cond}{v:CV}{o:Oper}
theorem Jfv (off:Nat):∀ (l:List Value) (k:Nat) (cells:Array Value),off+k+l.length≤cells.size→
  ((l.zipIdx k).foldl (fun cs (p:Value×Nat)=>cs.setIfInBounds (off+p.2) p.1) cells).toList=cells.toList.take (off+k)++l++cells.toList.drop (off+k+l.length)
 |[],k,cells,_=>by simp
 |v::l,k,cells,h=>by
  simp only[List.zipIdx_cons,List.foldl_cons]
  rw[Jfv off l (k+1) _ (by simp at h ⊢; omega)]
  simp only[Array.toList_setIfInBounds,G9]
  have:=list_seg_step cells.toList (off+k) v l (by simp at h ⊢; omega)
  rw[show off+(k+1)=off+k+1 by omega]
  rw[this]
theorem Ja4 {own:List Own}{imm:Nat→Nat→Option Value}{e l:List CV}{vs lv:List Value}(h:JE own imm e vs) (hl:JE own imm l lv) (off:Nat):JE own imm (splice e off l) (vs.take off++lv++vs.drop (off+lv.length)):=by
 have hlen:=Ju hl
 simp only[splice,GN]
 rw[hlen]
 exact Qf (JbH h _) (Qf hl (JbI h _))
theorem JgA {off n:Nat}{cells:Array Value}{x:Value}(hx:x.cells.size=n) (hle:off+n≤cells.size) :
  (x.cells.zipIdx.foldl (fun cs (c,j)=>cs.setIfInBounds (off+j) c) cells).toList=cells.toList.take off++x.cells.toList++cells.toList.drop (off+n):=by
 have:=Jfv off x.cells.toList 0 cells (by simp; omega)
 simp only[GU,Gi,hx]at this
 rw[← this]
 rw[← Array.foldl_toList]
 simp
theorem Jfy {places:List (Nat×Nat)}{pf:Nat→Option (Nat×Nat)}(hpf:∀ i,places[i]? = pf i) {own:List Own}{imm:Nat→Nat→Option Value}(hT:JE own imm T a.tmps.toList):∀ (ps:List (Nat×Operand)) (l:List (Nat×Nat×IArg)) (cs out:List CV) (vs:Array Value),
  partsOf places ps=some l→Kj T cs l=some out→JE own imm cs vs.toList→
  ∃ vs',Instr.fill pf vs (ps.map fun p=>(p.1,a.eval p.2))=some vs'∧JE own imm out vs'.toList
 |[],l,cs,out,vs,hl,hf,hr=>by
  simp[partsOf]at hl; subst hl
  simp[Kj]at hf; subst hf
  exact ⟨vs,by simp[Instr.fill],hr⟩
 |(i,x)::ps,l,cs,out,vs,hl,hf,hr=>by
  simp only[partsOf]at hl
  split at hl
  ·rename_i off n ia l' h1 h2 h3
   cases hl
   simp only[Kj]at hf
   split at hf
   ·cases hf
   ·rename_i lc hlc
    split at hf
    ·rename_i hlen
     have hx:=Yp (Jy hT h2) hlc
     have hxl:=Ju hx
     have hvl:=Ju hr
     have hxn:(a.eval x).cells.size=n:=by have:=hlen.1; simp at hxl; omega
     have hle:off+n≤vs.size:=by have:=hlen.2; simp at hvl; omega
     have hs:=Ja4 hr hx off
     simp only[Gi,hxn]at hs
     rw[← JgA hxn hle]at hs
     obtain ⟨vs',hv,hr'⟩:=Jfy hpf hT ps l' _ out _ h3 hf hs
     refine ⟨vs',?_,hr'⟩
     simp only[GQ,Instr.fill]
     rw[← hpf i,h1]
     simp only[hxn,ne_eq,not_true_eq_false,decide_false,Hg,decide_eq_true_eq]
     rw[if_neg (by omega)]
     exact hv
    ·cases hf
  ·cases hl
theorem run_places (w:World):∀ (fs:List Field) (l:List (Nat×Nat)),Jch P fs=some l→(fs.mapM (fun f=>do pure (f.offset,← sizeOf f.type)):Sem (List (Nat×Nat))).run P w=.ok l w
 |[],l,h=>by simp[Jch]at h; subst h; simp
 |f::fs,l,h=>by
  simp only[Jch]at h
  split at h
  ·rename_i n l' h1 h2
   cases h
   have ih:=run_places w fs l' h2
   simp only[List.mapM_cons,Sem.run_bind,JcF h1,Result.andThen_ok,Sem.run_pure]
   rw[ih]; rfl
  ·cases h
theorem snd_build {t:TypeId}{ps:Array (Nat×Operand)}{z:List CV}{fs:Array Field}{places:List (Nat×Nat)}{l:List (Nat×Nat×IArg)}(ho:o.op=.build t ps) (hz:zeroOf P t=some z) (hu:P.underlying t=some (.struct fs)) (hpl:Jch P fs.toList=some places) (hl:partsOf places ps.toList=some l)
  (he:exec (.build z l) T H=some (c,v,H')) (hp:Pre E n0 m H w T a):Good P E n0 m H w (execOp a.eval o) v H':=by
 simp only[exec]at he
 split at he
 ·rename_i out hout
  simp only[Ga,Gb]at he
  obtain ⟨_,rfl,rfl⟩:=he
  obtain ⟨i,zv,_,_,hrun,hrel,hlen,_⟩:=QW (w:=w) hz
  obtain ⟨vs',hv,hr⟩:=Jfy (places:=places) (pf:=fun i=>places.toArray[i]?) (fun i=>by simp) hp.tmps ps.toList l z out zv.cells hl hout (hrel _ _)
  refine Jl (r:=.agg vs') hp.sim ?_ (by simp only[rel]; exact ⟨vs',rfl,hr⟩)
  have hm:=run_places w fs.toList places hpl
  have hm':(fs.mapM (fun f=>do pure (f.offset,← sizeOf f.type)):Sem (Array (Nat×Nat))).run P w=.ok places.toArray w:=by
   have e:fs=fs.toList.toArray:=by simp
   rw[e,List.mapM_toArray,Sem.run_map,hm]; rfl
  have hl2:(ps.map (fun (p:Nat×Operand)=>(p.1,a.eval p.2))).toList=ps.toList.map fun p=>(p.1,a.eval p.2):=by simp
  simp only[execOp,ho,Instr.build,Sem.run_bind,hrun,Result.andThen_ok,run_underlying hu,hm',hl2,hv,Sem.run_pure]
 ·cases he
theorem snd_buildA {t e:TypeId}{N k:Nat}{ps:Array (Nat×Operand)}{z:List CV}{l:List (Nat×Nat×IArg)}(ho:o.op=.build t ps) (hz:zeroOf P t=some z) (hu:P.underlying t=some (.array N e)) (hk:JcD P e=some k) (hl:partsOf ((GJ N).map fun i=>(i*k,k)) ps.toList=some l)
  (he:exec (.build z l) T H=some (c,v,H')) (hp:Pre E n0 m H w T a):Good P E n0 m H w (execOp a.eval o) v H':=by
 simp only[exec]at he
 split at he
 ·rename_i out hout
  simp only[Ga,Gb]at he
  obtain ⟨_,rfl,rfl⟩:=he
  obtain ⟨i,zv,_,_,hrun,hrel,hlen,_⟩:=QW (w:=w) hz
  have key:∀ (ps:List (Nat×Operand)) (l:List (Nat×Nat×IArg)) (cs out:List CV) (vs:Array Value),partsOf ((GJ N).map fun i=>(i*k,k)) ps=some l→Kj T cs l=some out→JE m.own m.imm cs vs.toList→
    ∃ vs',Instr.fill (fun i=>some (i*k,k)) vs (ps.map fun p=>(p.1,a.eval p.2))=some vs'∧JE m.own m.imm out vs'.toList:=by
   intro ps
   induction ps with
   |nil=>
    intro l cs out vs hl hf hr
    simp[partsOf]at hl; subst hl
    simp[Kj]at hf; subst hf
    exact ⟨vs,by simp[Instr.fill],hr⟩
   |cons p ps ih=>
    obtain ⟨i,x⟩:=p
    intro l cs out vs hl hf hr
    simp only[partsOf]at hl
    split at hl
    ·rename_i off n ia l' h1 h2 h3
     cases hl
     simp only[Kj]at hf
     split at hf
     ·cases hf
     ·rename_i lc hlc
      split at hf
      ·rename_i hlen
       have hx:=Yp (Jy hp.tmps h2) hlc
       have hxl:=Ju hx
       have hvl:=Ju hr
       have hin:off=i*k∧n=k:=by
        rw[List.getElem?_map]at h1
        cases hri:(GJ N)[i]? with
        |none=>simp[hri]at h1
        |some q=>
         have:q=i:=by have:=Gd.1 hri; simpa using this.2.symm
         simp[hri,this]at h1; exact ⟨h1.1.symm,h1.2.symm⟩
       obtain ⟨rfl,rfl⟩:=hin
       have hxn:(a.eval x).cells.size=n:=by have:=hlen.1; simp at hxl; omega
       have hle:i*n+n≤vs.size:=by have:=hlen.2; simp at hvl; omega
       have hs:=Ja4 hr hx (i*n)
       simp only[Gi,hxn]at hs
       rw[← JgA hxn hle]at hs
       obtain ⟨vs',hv,hr'⟩:=ih l' _ out _ h3 hf hs
       refine ⟨vs',?_,hr'⟩
       simp only[GQ,Instr.fill]
       simp only[hxn,ne_eq,not_true_eq_false,decide_false,Hg,decide_eq_true_eq]
       rw[if_neg (by omega)]
       exact hv
      ·cases hf
    ·cases hl
  obtain ⟨vs',hv,hr⟩:=key ps.toList l z out zv.cells hl hout (hrel _ _)
  refine Jl (r:=.agg vs') hp.sim ?_ (by simp only[rel]; exact ⟨vs',rfl,hr⟩)
  have hl2:(ps.map (fun (p:Nat×Operand)=>(p.1,a.eval p.2))).toList=ps.toList.map fun p=>(p.1,a.eval p.2):=by simp
  simp only[execOp,ho,Instr.build,Sem.run_bind,hrun,Result.andThen_ok,run_underlying hu,JcF hk,hl2,hv,Sem.run_pure]
 ·cases he
theorem binI_sound {t:TypeId}{op:BinOp}{k:IntKind}{x y:Int}{v:CV}(h:binI op k x y=some (c,v)) (hc:c.holds):∃ r,(∀ own imm,rel own imm v r)∧∀ w,(binOp op t (.int k x) (.int k y)).run P w=.ok r w:=by
 unfold binI at h
 split at h <;> (try cases h) <;> simp only[Cond.holds]at hc
 ·exact ⟨_,fun _ _=>rfl,fun w=>by simp[binOp,Op.intArith,hc.wrap]⟩
 ·exact ⟨_,fun _ _=>rfl,fun w=>by simp[binOp,Op.intArith,hc.wrap]⟩
 ·exact ⟨_,fun _ _=>rfl,fun w=>by simp[binOp,Op.intArith,hc.wrap]⟩
 ·exact ⟨_,fun _ _=>rfl,fun w=>by simp[binOp,Op.intDiv,hc.1,hc.2.wrap]⟩
 ·exact ⟨_,fun _ _=>rfl,fun w=>by simp[binOp,Op.intDiv,hc]⟩
 ·exact ⟨_,fun _ _=>rfl,fun w=>by simp[binOp,Op.intCmp]⟩
 ·exact ⟨_,fun _ _=>rfl,fun w=>by simp[binOp,Op.intCmp]⟩
 ·exact ⟨_,fun _ _=>rfl,fun w=>by simp[binOp,Op.intCmp]⟩
 ·exact ⟨_,fun _ _=>rfl,fun w=>by simp[binOp,Op.intCmp]⟩
 ·exact ⟨_,fun _ _=>rfl,fun w=>by simp[binOp,Op.intCmp]⟩
 ·exact ⟨_,fun _ _=>rfl,fun w=>by simp[binOp,Op.intCmp]⟩
 ·exact ⟨_,fun _ _=>rfl,fun w=>by simp[binOp,Op.intBits]⟩
 ·exact ⟨_,fun _ _=>rfl,fun w=>by simp[binOp,Op.intBits]⟩
 ·exact ⟨_,fun _ _=>rfl,fun w=>by simp[binOp,Op.intBits]⟩
 ·exact ⟨_,fun _ _=>rfl,fun w=>by simp[binOp,Op.shift,Int.not_lt.2 hc]⟩
 ·exact ⟨_,fun _ _=>rfl,fun w=>by simp[binOp,Op.shift,Int.not_lt.2 hc]⟩
theorem binK_sound {t:TypeId}{op:BinOp}{k k':IntKind}{x y:Int}{v:CV}(h:binK op k k' x y=some (c,v)) (hc:c.holds):∃ r,(∀ own imm,rel own imm v r)∧∀ w,(binOp op t (.int k x) (.int k' y)).run P w=.ok r w:=by
 unfold binK at h
 split at h
 ·rename_i hk; subst hk; exact binI_sound h hc
 ·split at h
  ·simp only[binI,Ga,Gb]at h
   obtain ⟨rfl,rfl⟩:=h
   simp only[Cond.holds]at hc
   exact ⟨_,fun _ _=>rfl,fun w=>by simp[binOp,Op.shift,Int.not_lt.2 hc]⟩
  ·simp only[binI,Ga,Gb]at h
   obtain ⟨rfl,rfl⟩:=h
   simp only[Cond.holds]at hc
   exact ⟨_,fun _ _=>rfl,fun w=>by simp[binOp,Op.shift,Int.not_lt.2 hc]⟩
  ·cases h
theorem binS_sound {t:TypeId}{op:BinOp}{x y:ByteArray}{v:CV}(h:binS op x y=some (c,v)) (hc:c.holds):∃ r,(∀ own imm,rel own imm v r)∧∀ w,(binOp op t (.string x) (.string y)).run P w=.ok r w:=by
 unfold binS at h
 split at h <;> (try cases h) <;> simp only[Cond.holds]at hc
 ·refine ⟨_,fun _ _=>rfl,fun w=>?_⟩
  have:¬ (IntKind.i64.max < (x.size:Int)+y.size):=by simp[IntKind.max,IntKind.signed,IntKind.bits]; omega
  simp[binOp,Op.stringOp,this]; omega
 all_goals exact ⟨_,fun _ _=>rfl,fun w=>by simp[binOp,Op.stringOp]⟩
end
end
section
section
variable {P:Program}{E:Env}{n0:Nat}{m:Bk}{H H':List CObj}{w:World}{T:List CV}{a:Act}{c:Cond}{v:CV}{o:Oper}
theorem JbY (op:BinOp) (t:TypeId) (x y:Operand) (u v:Value) (w:World) (h:∀ cs ds,¬ (u=.agg cs∧v=.agg ds)) (h':¬ (u=.nilIface∧v=.nilIface)):(eqGuard op t x y u v).run P w=.ok () w:=by
 unfold eqGuard
 cases op <;> simp only[Bool.not_true,Bool.not_false,Gq,if_false,if_true] <;> (try rfl) <;>
  (cases u <;> cases v <;> (try rfl) <;> first | (exfalso; exact h _ _ ⟨rfl,rfl⟩) | (exfalso; exact h' ⟨rfl,rfl⟩))
theorem eqv {op:BinOp}{t:TypeId}{b:Bool}{v:CV}{z z':Value}{own:List Own}{imm:Nat→Nat→Option Value}(he:∀ n w,(Op.equalIn (n+1) t z z').run P w=.ok b w) (hneg:(JaR op b).map (fun v=>(Cond.tt,v))=some (c,v))
  (h1:binOp .eql t z z'=do pure (.bool (← Op.equal t z z'))) (h2:binOp .neq t z z'=do pure (.bool (!(← Op.equal t z z'))))
  (h3:∀ cs ds,¬ (z=.agg cs∧z'=.agg ds)) (h4:¬ (z=.nilIface∧z'=.nilIface)):∃ r,rel own imm v r∧(∀ cs ds,¬ (z=.agg cs∧z'=.agg ds))∧¬ (z=.nilIface∧z'=.nilIface)∧∀ w,(binOp op t z z').run P w=.ok r w:=by
 have hrun:∀ w,(Op.equal t z z').run P w=.ok b w:=fun w=>he 9999 w
 cases op <;> simp[JaR]at hneg
 ·obtain ⟨_,rfl⟩:=hneg
  exact ⟨.bool b,rfl,h3,h4,fun w=>by rw[h1]; simp[hrun w]⟩
 ·obtain ⟨_,rfl⟩:=hneg
  exact ⟨.bool !b,rfl,h3,h4,fun w=>by rw[h2]; simp[hrun w]⟩
theorem QV {d:TypeDesc}(h:QM d=.slice):∃ e,d=.slice e:=by cases d <;> simp[QM]at h; exact ⟨_,rfl⟩
theorem tk_ptr {d:TypeDesc}(h:QM d=.ptr):∃ e,d=.pointer e:=by cases d <;> simp[QM]at h; exact ⟨_,rfl⟩
theorem tk_bool {d:TypeDesc}(h:QM d=.bool):d=.bool:=by cases d <;> simp[QM]at h; rfl
theorem exBin_sound {op:BinOp}{t:TypeId}{d:TypeDesc}{x y v:CV}{u u':Value}{own:List Own}{imm:Nat→Nat→Option Value}(hd:P.underlying t=some d) (h:exBin op (QM d) x y=some (c,v)) (hc:c.holds) (hx:rel own imm x u) (hy:rel own imm y u') :
  ∃ r,rel own imm v r∧(∀ cs ds,¬ (u=.agg cs∧u'=.agg ds))∧¬ (u=.nilIface∧u'=.nilIface)∧∀ w,(binOp op t u u').run P w=.ok r w:=by
 unfold exBin at h
 split at h <;> (try split at h) <;> (try cases h; done)
 ·simp only[rel]at hx hy
  subst hx; subst hy
  obtain ⟨r,h1,h2⟩:=binK_sound (t:=t) (P:=P) h hc
  exact ⟨r,h1 _ _,by simp,by simp,h2⟩
 ·simp only[rel]at hx hy
  subst hx; subst hy
  obtain ⟨r,h1,h2⟩:=binS_sound (t:=t) (P:=P) h hc
  exact ⟨r,h1 _ _,by simp,by simp,h2⟩
 ·simp only[rel]at hx hy
  subst hx; subst hy
  rename_i hk
  obtain rfl:=tk_bool hk
  exact eqv (fun n w=>by simp only[Op.equalIn,Sem.run_bind,run_underlying hd,Result.andThen_ok]; rfl) h rfl rfl (by simp) (by simp)
 ·simp only[rel]at hx hy
  subst hx; subst hy
  obtain ⟨e,rfl⟩:=QV ‹QM d=_›
  exact eqv (fun n w=>by simp only[Op.equalIn,Sem.run_bind,run_underlying hd,Result.andThen_ok]; rfl) h rfl rfl (by simp) (by simp)
 ·simp only[rel]at hx hy
  obtain ⟨x1,a1,c1,_,rfl,_⟩:=hy
  subst hx
  obtain ⟨e,rfl⟩:=QV ‹QM d=_›
  exact eqv (fun n w=>by simp only[Op.equalIn,Sem.run_bind,run_underlying hd,Result.andThen_ok]; rfl) h rfl rfl (by simp) (by simp)
 ·simp only[rel]at hx hy
  obtain ⟨x1,a1,c1,rfl,_⟩:=hy.resolve_left (by rintro ⟨_,h,_⟩; cases h)
  subst hx
  obtain ⟨e,rfl⟩:=QV ‹QM d=_›
  exact eqv (fun n w=>by simp only[Op.equalIn,Sem.run_bind,run_underlying hd,Result.andThen_ok]; rfl) h rfl rfl (by simp) (by simp)
 ·simp only[rel]at hx hy
  obtain ⟨x1,a1,c1,_,rfl,_⟩:=hx
  subst hy
  obtain ⟨e,rfl⟩:=QV ‹QM d=_›
  exact eqv (fun n w=>by simp only[Op.equalIn,Sem.run_bind,run_underlying hd,Result.andThen_ok]; rfl) h rfl rfl (by simp) (by simp)
 ·simp only[rel]at hx hy
  obtain ⟨x1,a1,c1,rfl,_⟩:=hx.resolve_left (by rintro ⟨_,h,_⟩; cases h)
  subst hy
  obtain ⟨e,rfl⟩:=QV ‹QM d=_›
  exact eqv (fun n w=>by simp only[Op.equalIn,Sem.run_bind,run_underlying hd,Result.andThen_ok]; rfl) h rfl rfl (by simp) (by simp)
 ·simp only[rel]at hx hy
  obtain ⟨x1,a1,c1,rfl,_⟩:=hy.resolve_left (by rintro ⟨_,h,_⟩; cases h)
  subst hx
  obtain ⟨e,rfl⟩:=QV ‹QM d=_›
  exact eqv (fun n w=>by simp only[Op.equalIn,Sem.run_bind,run_underlying hd,Result.andThen_ok]; rfl) h rfl rfl (by simp) (by simp)
 ·simp only[rel]at hx hy
  obtain ⟨x1,a1,c1,rfl,_⟩:=hx.resolve_left (by rintro ⟨_,h,_⟩; cases h)
  subst hy
  obtain ⟨e,rfl⟩:=QV ‹QM d=_›
  exact eqv (fun n w=>by simp only[Op.equalIn,Sem.run_bind,run_underlying hd,Result.andThen_ok]; rfl) h rfl rfl (by simp) (by simp)
 ·simp only[rel]at hx hy
  subst hx; subst hy
  obtain ⟨e,rfl⟩:=tk_ptr ‹QM d=_›
  exact eqv (fun n w=>by simp only[Op.equalIn,Sem.run_bind,run_underlying hd,Result.andThen_ok]; rfl) h rfl rfl (by simp) (by simp)
 ·simp only[rel]at hx hy
  obtain ⟨x1,_,rfl⟩:=hy
  subst hx
  obtain ⟨e,rfl⟩:=tk_ptr ‹QM d=_›
  exact eqv (fun n w=>by simp only[Op.equalIn,Sem.run_bind,run_underlying hd,Result.andThen_ok]; rfl) h rfl rfl (by simp) (by simp)
 ·simp only[rel]at hx hy
  obtain ⟨B,o1,rfl,_⟩:=hy
  subst hx
  obtain ⟨e,rfl⟩:=tk_ptr ‹QM d=_›
  exact eqv (fun n w=>by simp only[Op.equalIn,Sem.run_bind,run_underlying hd,Result.andThen_ok]; rfl) h rfl rfl (by simp) (by simp)
 ·simp only[rel]at hx hy
  obtain ⟨x1,_,rfl⟩:=hx
  subst hy
  obtain ⟨e,rfl⟩:=tk_ptr ‹QM d=_›
  exact eqv (fun n w=>by simp only[Op.equalIn,Sem.run_bind,run_underlying hd,Result.andThen_ok]; rfl) h rfl rfl (by simp) (by simp)
 ·simp only[rel]at hx hy
  obtain ⟨B,o1,rfl,_⟩:=hx
  subst hy
  obtain ⟨e,rfl⟩:=tk_ptr ‹QM d=_›
  exact eqv (fun n w=>by simp only[Op.equalIn,Sem.run_bind,run_underlying hd,Result.andThen_ok]; rfl) h rfl rfl (by simp) (by simp)
theorem snd_bin {op:BinOp}{t ty:TypeId}{d:TypeDesc}{x y:Operand}{i j:IArg}(ho:o.op=.binOp op t x y ty) (hd:P.underlying t=some d) (hx:Jv x=some i) (hy:Jv y=some j) (he:exec (.bin op (QM d) i j) T H=some (c,v,H')) (hc:c.holds) (hp:Pre E n0 m H w T a) :
  Good P E n0 m H w (execOp a.eval o) v H':=by
 simp only[exec]at he
 split at he
 ·rename_i c' v' hb
  simp only[Ga,Gb]at he
  obtain ⟨rfl,rfl,rfl⟩:=he
  obtain ⟨r,hr,h1,h2,hrun⟩:=exBin_sound hd hb hc (Jy hp.tmps hx) (Jy hp.tmps hy)
  refine Jl (r:=r) hp.sim ?_ hr
  simp only[execOp,ho,Sem.run_bind,JbY op t x y _ _ w h1 h2,Result.andThen_ok,hrun w,Sem.run_pure]
 ·cases he
theorem Jcx {own:List Own}{imm:Nat→Nat→Option Value}{tk:TK}{x y:CV}{u u':Value}{b:Bool}(h:XT tk x y=some b) (hx:rel own imm x u) (hy:rel own imm y u') :
  (tk=.int∧∃ k p q,u=.int k p∧u'=.int k q∧b=(p == q))∨(tk=.str∧∃ p q,u=.string p∧u'=.string q∧b=(p == q))∨(tk=.bool∧∃ p q,u=.bool p∧u'=.bool q∧b=(p == q)):=by
 unfold XT at h
 split at h
 ·split at h
  ·split at h
   ·rename_i hk; subst hk
    simp only[rel]at hx hy
    cases h
    exact .inl ⟨rfl,_,_,_,hx,hy,rfl⟩
   ·cases h
  ·cases h
 ·split at h
  ·simp only[rel]at hx hy
   cases h
   exact .inr (.inl ⟨rfl,_,_,hx,hy,rfl⟩)
  ·cases h
 ·split at h
  ·simp only[rel]at hx hy
   cases h
   exact .inr (.inr ⟨rfl,_,_,hx,hy,rfl⟩)
  ·cases h
 ·cases h
end
end
section
section
variable {P:Program}{E:Env}{n0:Nat}{m:Bk}{H H':List CObj}{w:World}{T:List CV}{a:Act}{c:Cond}{v:CV}{o:Oper}
theorem JaZ:∀ (ks ks':List TK) (p p' q q':List CV),p.length=ks.length→p'.length=ks.length→Xh (ks++ks') (p++q) (p'++q')=match Xh ks p p' with | some true=>Xh ks' q q' | x=>x
 |[],ks',[],[],q,q',_,_=>by simp[Xh]
 |k::ks,ks',x::p,y::p',q,q',h,h'=>by
  simp only[Ha,Xh]
  cases hk:XT k x y with
  |none=>rfl
  |some b=>
   cases b with
   |true=>exact JaZ ks ks' p p' q q' (by simpa using h) (by simpa using h')
   |false=>rfl
 |[],_,_::_,_,_,_,h,_=>by simp at h
 |[],_,_,_::_,_,_,_,h=>by simp at h
 |_::_,_,[],_,_,_,h,_=>by simp at h
 |_::_,_,_,[],_,_,_,h=>by simp at h
def mkv (ag:Bool) (vs:List Value):Value:=if ag then .agg vs.toArray else vs.headD undef
theorem Jf7 {t:TypeId}{ag:Bool}{n off:Nat}{xs:Array Value}(hag:Jav P t=some ag) (hn:JcD P t=some n) (h1:ag=false→off < xs.size) (h2:ag=false→0 < n):(part t xs off).run P w=.ok (mkv ag ((xs.toList.drop off).take n)) w:=by
 unfold part mkv
 cases ag with
 |true=>
  simp only[Sem.run_bind,Ja2 hag,Result.andThen_ok,if_true,JcF hn,Sem.run_pure]
  congr 2
  apply Array.ext'
  simp[List.extract_eq_take_drop,show off+n-off=n by omega]
 |false=>
  have:=h1 rfl
  have h0:=h2 rfl
  simp only[Sem.run_bind,Ja2 hag,Result.andThen_ok,Gq,if_false]
  rw[Gn this]
  simp only[Sem.run_pure]
  rw[GM (by simpa using this)]
  cases n with
  |zero=>omega
  |succ n=>simp
theorem JgD {d:Nat}{xs ys:Array Value}{f:Field}{fs:List Field}{x y:Value}{r:Bool}(hn:f.name≠ "_") (hx:(part f.type xs f.offset).run P w=.ok x w) (hy:(part f.type ys f.offset).run P w=.ok y w) (he:(Op.equalIn d f.type x y).run P w=.ok r w) :
  (Op.eqFields d xs ys (f::fs)).run P w=if r then (Op.eqFields d xs ys fs).run P w else .ok false w:=by
 simp only[Op.eqFields,hn,ne_eq,not_false_eq_true,if_true,Sem.run_bind,hx,Result.andThen_ok,hy,he]
 cases r <;> simp
theorem Y8 {k:Nat}{t:TypeId}{d:TypeDesc}{own:List Own}{imm:Nat→Nat→Option Value}{x y:CV}{u u':Value}{b:Bool}(hd:P.underlying t=some d) (h:XT (QM d) x y=some b) (hx:rel own imm x u) (hy:rel own imm y u'):(Op.equalIn (k+1) t u u').run P w=.ok b w:=by
 rcases Jcx h hx hy with ⟨hk,k',p,q,rfl,rfl,rfl⟩ | ⟨hk,p,q,rfl,rfl,rfl⟩ | ⟨hk,p,q,rfl,rfl,rfl⟩
 ·cases d <;> simp[QM]at hk
  simp[Op.equalIn,run_underlying hd]
 ·cases d <;> simp[QM]at hk
  simp[Op.equalIn,run_underlying hd]
 ·cases d <;> simp[QM]at hk
  simp[Op.equalIn,run_underlying hd]
theorem Jfx (own:List Own) (imm:Nat→Nat→Option Value):∀ (d:Nat) (t:TypeId) (ks:List TK),QE P d t=some ks→∀ (l l':List CV) (vs vs':List Value) (b:Bool) (k:Nat) (w:World) (ag:Bool),l.length=ks.length→l'.length=ks.length→JE own imm l vs→JE own imm l' vs'→Xh ks l l'=some b→Jav P t=some ag→
  (Op.equalIn (d+k) t (mkv ag vs) (mkv ag vs')).run P w=.ok b w
 |0,t,ks,h=>by simp[QE]at h
 |d+1,t,ks,h=>by
  intro l l' vs vs' b k w ag hl hl' hr hr' hb hag
  rw[show d+1+k=d+k+1 by omega]
  simp only[QE]at h
  unfold Jav at hag
  have scalar:∀ tk,ks=[tk]→∃ x y u u',l=[x]∧l'=[y]∧vs=[u]∧vs'=[u']∧rel own imm x u∧rel own imm y u'∧XT tk x y=some b:=by
   rintro tk rfl
   match l,hl,l',hl' with
   |[x],_,[y],_=>
    simp only[JE]at hr hr'
    obtain ⟨u,us,rfl,hx,rfl⟩:=hr
    obtain ⟨u',us',rfl,hy,rfl⟩:=hr'
    refine ⟨x,y,u,u',rfl,rfl,rfl,rfl,hx,hy,?_⟩
    simp only[Xh]at hb
    cases hk:XT tk x y with
    |none=>simp[hk]at hb
    |some q=>cases q <;> simp[hk]at hb <;> simp[hb]
  split at h
  ·rename_i hu
   cases h
   simp[hu,Jd1]at hag; subst hag
   obtain ⟨x,y,u,u',rfl,rfl,rfl,rfl,hx,hy,hk⟩:=scalar _ rfl
   exact Y8 (d:=.bool) hu hk hx hy
  ·rename_i k0 hu
   cases h
   simp[hu,Jd1]at hag; subst hag
   obtain ⟨x,y,u,u',rfl,rfl,rfl,rfl,hx,hy,hk⟩:=scalar _ rfl
   exact Y8 (d:=.int k0) hu hk hx hy
  ·rename_i hu
   cases h
   simp[hu,Jd1]at hag; subst hag
   obtain ⟨x,y,u,u',rfl,rfl,rfl,rfl,hx,hy,hk⟩:=scalar _ rfl
   exact Y8 (d:=.string) hu hk hx hy
  ·rename_i fs hu
   split at h
   ·cases h
   ·rename_i hst
    simp[hu,Jd1]at hag; subst hag
    have hfs:P.fieldsOf t=fs:=by simp[Program.fieldsOf,hu]
    simp only[mkv,if_true]
    rw[run_equalIn_struct w (d+k) t vs.toArray vs'.toArray (by rw[hfs]; exact hu) (by simpa using hst),hfs]
    have key:∀ (fs:List Field) (off:Nat) (ks':List TK) (p p':List CV) (b:Bool),Yo P d fs off=some ks'→l.drop off=p→l'.drop off=p'→p.length=ks'.length→p'.length=ks'.length→Xh ks' p p'=some b→(Op.eqFields (d+k) vs.toArray vs'.toArray fs).run P w=.ok b w:=by
     intro fs
     induction fs with
     |nil=>
      intro off ks' p p' b hf hp hp' hlp hlp' hc
      simp[JeN]at hf; subst hf
      cases p <;> simp at hlp
      cases p' <;> simp at hlp'
      simp[Xh]at hc; subst hc
      simp[Op.eqFields]
     |cons f fs ih=>
      intro off ks' p p' b hf hp hp' hlp hlp' hc
      simp only[Jea]at hf
      split at hf
      ·cases hf
      ·rename_i hno
       simp only[not_or,Decidable.not_not]at hno
       split at hf
       ·rename_i kf hkf
        split at hf
        ·rename_i hsz
         cases hrest:Yo P d fs (off+kf.length) with
         |none=>simp[hrest]at hf
         |some kr=>
          simp[hrest]at hf
          subst hf
          simp only[Gj]at hlp hlp'
          have ep:p=p.take kf.length++p.drop kf.length:=(G6 _ _).symm
          have ep':p'=p'.take kf.length++p'.drop kf.length:=(G6 _ _).symm
          rw[ep,ep',JaZ kf kr _ _ _ _ (by simp; omega) (by simp; omega)]at hc
          have hvl:=Ju hr
          have hvl':=Ju hr'
          have hkpos:0 < kf.length:=by cases kf with | nil=>exact absurd rfl hsz.2 | cons _ _=>simp
          have hoff:off < l.length:=by have:=congrArg Hf hp; simp at this; omega
          have hoff':off < l'.length:=by have:=congrArg Hf hp'; simp at this; omega
          obtain ⟨agf,hagf⟩:∃ agf,Jav P f.type=some agf:=by
           cases d with
           |zero=>simp[QE]at hkf
           |succ d'=>
            simp only[QE]at hkf
            unfold Jav
            cases hu':P.underlying f.type with
            |none=>simp[hu']at hkf
            |some dd=>exact ⟨_,rfl⟩
          have hx:=Jf7 (w:=w) (xs:=vs.toArray) (off:=off) hagf hsz.1 (fun _=>by simp; omega) (fun _=>hkpos)
          have hy:=Jf7 (w:=w) (xs:=vs'.toArray) (off:=off) hagf hsz.1 (fun _=>by simp; omega) (fun _=>hkpos)
          have rx:JE own imm (p.take kf.length) ((vs.drop off).take kf.length):=by rw[← hp]; exact JbH (JbI hr _) _
          have ry:JE own imm (p'.take kf.length) ((vs'.drop off).take kf.length):=by rw[← hp']; exact JbH (JbI hr' _) _
          rw[← hno.2]at hx hy
          cases hb1:Xh kf (p.take kf.length) (p'.take kf.length) with
          |none=>simp[hb1]at hc
          |some b1=>
           have heq:=Jfx own imm d f.type kf hkf _ _ _ _ b1 k w agf (by simp; omega) (by simp; omega) rx ry hb1 hagf
           rw[hno.2]at hx hy
           have hstep:=JgD (d:=d+k) (fs:=fs) hno.1 (by rw[hno.2]; exact hx) (by rw[hno.2]; exact hy) heq
           rw[hstep]
           cases b1 with
           |false=>simp[hb1]at hc; subst hc; rfl
           |true=>
            simp only[hb1]at hc
            simp only[if_true]
            exact ih (off+kf.length) kr _ _ b hrest (by rw[← hp,He]) (by rw[← hp',He]) (by simp; omega) (by simp; omega) hc
        ·cases hf
       ·cases hf
    exact key fs.toList 0 ks l l' b h (by simp) (by simp) hl hl' hb
  ·cases h
end
end
section
section
variable {P:Program}{E:Env}{n0:Nat}{m:Bk}{H H':List CObj}{w:World}{T:List CV}{a:Act}{c:Cond}{v:CV}{o:Oper}
theorem Jei {op:BinOp}{t:TypeId}{x y:Operand}{cs ds:Array Value}(h:P.eqGuardType P.depth t=false):(eqGuard op t x y (.agg cs) (.agg ds)).run P w=.ok () w:=by
 unfold eqGuard
 cases op <;> simp[h]
theorem snd_eqs {op:BinOp}{t ty:TypeId}{fs:Array Field}{ks:List TK}{ng:Bool}{x y:Operand}{i j:IArg}(ho:o.op=.binOp op t x y ty) (hd:P.underlying t=some (.struct fs)) (hf:QE P 50 t=some ks) (hg:P.eqGuardType P.depth t=false)
  (hop:(op=.eql∧ng=false)∨(op=.neq∧ng=true)) (hx:Jv x=some i) (hy:Jv y=some j) (he:exec (.eqs ks ng i j) T H=some (c,v,H')) (hp:Pre E n0 m H w T a):Good P E n0 m H w (execOp a.eval o) v H':=by
 have h1:=Jy hp.tmps hx
 have h2:=Jy hp.tmps hy
 simp only[exec]at he
 split at he
 ·rename_i l l' e1 e2
  rw[e1]at h1; rw[e2]at h2
  simp only[rel]at h1 h2
  obtain ⟨cs,hcs,hr⟩:=h1
  obtain ⟨ds,hds,hr'⟩:=h2
  split at he
  ·rename_i b hb
   simp only[Ga,Gb]at he
   obtain ⟨_,rfl,rfl⟩:=he
   split at hb
   ·rename_i hlen
    have heq:∀ w,(Op.equal t (.agg cs) (.agg ds)).run P w=.ok b w:=by
     intro w
     have:=Jfx (P:=P) m.own m.imm 50 t ks hf l l' _ _ b 9950 w true hlen.1 hlen.2 hr hr' hb (by simp[Jav,hd,Jd1])
     simp only[mkv,if_true,Array.toArray_toList]at this
     exact this
    rcases hop with ⟨rfl,rfl⟩ | ⟨rfl,rfl⟩
    ·refine Jl (r:=.bool b) hp.sim ?_ rfl
     simp only[execOp,ho,hcs,hds,Sem.run_bind,Jei hg,Result.andThen_ok,binOp,heq,Sem.run_pure]
    ·refine Jl (r:=.bool !b) hp.sim ?_ rfl
     simp only[execOp,ho,hcs,hds,Sem.run_bind,Jei hg,Result.andThen_ok,binOp,heq,Sem.run_pure]
   ·cases hb
  ·cases he
 ·cases he
theorem snd_not {t:TypeId}{x:Operand}{i:IArg}(ho:o.op=.unOp .not t x) (hx:Jv x=some i) (he:exec (.not i) T H=some (c,v,H')) (hp:Pre E n0 m H w T a):Good P E n0 m H w (execOp a.eval o) v H':=by
 have h1:=Jy hp.tmps hx
 simp only[exec]at he
 split at he
 ·rename_i b e
  rw[e]at h1; simp only[rel]at h1
  simp only[Ga,Gb]at he
  obtain ⟨_,rfl,rfl⟩:=he
  exact Jl (r:=.bool !b) hp.sim (by simp[execOp,ho,h1,Op.unary]) rfl
 ·cases he
theorem snd_neg {t:TypeId}{x:Operand}{i:IArg}(ho:o.op=.unOp .neg t x) (hx:Jv x=some i) (he:exec (.neg i) T H=some (c,v,H')) (hc:c.holds) (hp:Pre E n0 m H w T a):Good P E n0 m H w (execOp a.eval o) v H':=by
 have h1:=Jy hp.tmps hx
 simp only[exec]at he
 split at he
 ·rename_i k n e
  rw[e]at h1; simp only[rel]at h1
  simp only[Ga,Gb]at he
  obtain ⟨rfl,rfl,rfl⟩:=he
  have:k.wrap (0-n)=0-n:=InR.wrap hc
  exact Jl (r:=.int k (0-n)) hp.sim (by simp only[execOp,ho,h1,Op.unary,Op.intArith,this,Sem.run_bind,Sem.run_pure,Result.andThen_ok]) rfl
 ·cases he
theorem snd_conv {s d:TypeId}{k k':IntKind}{x:Operand}{i:IArg}(ho:o.op=.convert s d x) (hs:P.underlying s=some (.int k')) (hd:P.underlying d=some (.int k)) (hx:Jv x=some i) (he:exec (.conv k i) T H=some (c,v,H')) (hc:c.holds) (hp:Pre E n0 m H w T a) :
  Good P E n0 m H w (execOp a.eval o) v H':=by
 have h1:=Jy hp.tmps hx
 simp only[exec]at he
 split at he
 ·rename_i k2 n e
  rw[e]at h1; simp only[rel]at h1
  simp only[Ga,Gb]at he
  obtain ⟨rfl,rfl,rfl⟩:=he
  have:k.wrap n=n:=InR.wrap hc
  exact Jl (r:=.int k n) hp.sim (by simp only[execOp,ho,h1,convert,run_underlying hs,run_underlying hd,Conv.intToInt,this,Sem.run_bind,Sem.run_pure,Result.andThen_ok]) rfl
 ·cases he
theorem snd_mkfn {f:Nat}{l1 l2:Array Operand}{i j:List IArg}(ho:o.op=.makeFunc (.func f) l1 l2) (hx:Y2 l1.toList=some i) (hy:Y2 l2.toList=some j) (he:exec (.mkfn f i j) T H=some (c,v,H')) (hp:Pre E n0 m H w T a):Good P E n0 m H w (execOp a.eval o) v H':=by
 simp only[exec,Ga,Gb]at he
 obtain ⟨_,rfl,rfl⟩:=he
 refine Jl (r:=.func (.func f) (l1.map a.eval) (l2.map a.eval)) hp.sim (by simp[execOp,ho,Instr.makeFunc]) ?_
 simp only[rel]
 exact ⟨_,_,rfl,by simpa using JaN hp.tmps hx,by simpa using JaN hp.tmps hy⟩
theorem snd_faddr {t:TypeId}{fs:Array Field}{f n:Nat}{fd:Field}{x:Operand}{i:IArg}(ho:o.op=.fieldAddr t x f) (hd:P.underlying t=some (.struct fs)) (hf:fs[f]? = some fd) (hn:JcD P fd.type=some n) (hn0:n≠0) (hx:Jv x=some i) (he:exec (.faddr fd.offset i) T H=some (c,v,H')) (hc:c.holds) (hp:Pre E n0 m H w T a) :
  Good P E n0 m H w (execOp a.eval o) v H':=by
 have h1:=Jy hp.tmps hx
 have hrun:∀ B q,a.eval x=.pointer (some ⟨B,q,none⟩)→(execOp a.eval o).run P w=.ok (.value (.pointer (some ⟨B,q+fd.offset,none⟩))) w:=by
  intro B q hq
  simp only[execOp,ho,Instr.fieldAt,Sem.run_bind,run_underlying hd,Result.andThen_ok,hf,hq,Instr.sureAddr,fieldPlace,JcF hn,Sem.run_ite,hn0,if_false,Sem.run_pure,addr_add]
 simp only[exec]at he
 split at he
 ·rename_i id i' off e
  rw[e]at h1; simp only[rel]at h1
  obtain ⟨x',hx',hv⟩:=h1
  simp only[Ga,Gb]at he
  obtain ⟨_,rfl,rfl⟩:=he
  refine Jl hp.sim (hrun _ _ hv) ?_
  simp only[rel]
  exact ⟨x',hx',by rw[GK]⟩
 ·rename_i cs e
  rw[e]at h1; simp only[rel]at h1
  obtain ⟨B,q,hv,hat⟩:=h1
  simp only[Ga,Gb]at he
  obtain ⟨rfl,rfl,rfl⟩:=he
  refine Jl hp.sim (hrun _ _ hv) ?_
  simp only[rel]
  refine ⟨B,q+fd.offset,rfl,?_⟩
  rw[Yk]at hat ⊢
  intro t' c' hc'
  rw[Gx]at hc'
  have:=hat _ _ hc'
  rw[GK]; exact this
 ·cases he
theorem snd_field {t:TypeId}{fs:Array Field}{f n:Nat}{ag:Bool}{fd:Field}{x:Operand}{i:IArg}(ho:o.op=.field t x f) (hd:P.underlying t=some (.struct fs)) (hf:fs[f]? = some fd) (hn:JcD P fd.type=some n) (hag:Jav P fd.type=some ag) (hx:Jv x=some i) (he:exec (.field ag fd.offset n i) T H=some (c,v,H')) (hc:c.holds) (hp:Pre E n0 m H w T a) :
  Good P E n0 m H w (execOp a.eval o) v H':=by
 have h1:=Jy hp.tmps hx
 simp only[exec]at he
 split at he
 ·rename_i l e
  rw[e]at h1; simp only[rel]at h1
  obtain ⟨cs,hcs,hr⟩:=h1
  have hl:=Ju hr
  cases ag with
  |true=>
   simp only[if_true,Ga,Gb]at he
   obtain ⟨rfl,rfl,rfl⟩:=he
   have hp':=Jf7 (P:=P) (w:=w) (xs:=cs) (off:=fd.offset) hag hn (by simp) (by simp)
   refine Jl hp.sim (r:=mkv true ((cs.toList.drop fd.offset).take n)) ?_ ?_
   ·simp only[execOp,ho,hcs,Instr.field,Sem.run_bind,run_underlying hd,Result.andThen_ok,hf,asAgg,Sem.run_pure,hp']
   ·simp only[mkv,if_true,rel]
    exact ⟨_,rfl,JbH (JbI hr _) _⟩
  |false=>
   simp only[Gq,if_false,Ga,Gb]at he
   obtain ⟨rfl,rfl,rfl⟩:=he
   have hlt:fd.offset < l.length:=hc
   have hcl:fd.offset < cs.size:=by simp at hl; omega
   obtain ⟨r,hr1,hr2⟩:=Xj hr (Gh hlt)
   refine Jl hp.sim (r:=r) ?_ ?_
   ·have:cs[fd.offset]? = some r:=by simpa using hr1
    simp only[execOp,ho,hcs,Instr.field,Sem.run_bind,run_underlying hd,Result.andThen_ok,hf,asAgg,Sem.run_pure,part,Ja2 hag,Gq,if_false,this]
   ·have:l.getD fd.offset .un=l[fd.offset]:=by simp only[Gp,Gh hlt,Gw]
    rw[this]; exact hr2
 ·cases he
theorem run_indexAt {t:TypeId}{e:TypeId}{z:Nat}{x i:Operand}{ba:Addr}{len cap:Nat}{k:IntKind}{n:Int}(ho:o.op=.indexAddr t x i) (hd:P.underlying t=some (.slice e)) (hz:JcD P e=some z) (hx:a.eval x=.slice (some ba) len cap) (hi:a.eval i=.int k n) (h0:0≤n) (h1:n < len) :
  (execOp a.eval o).run P w=.ok (.value (.pointer (some (ba.add (n.toNat*z))))) w:=by
 simp only[execOp,ho,Instr.indexAt,asIntOf,hx,hi,Sem.run_bind,Sem.run_pure,run_underlying hd,Result.andThen_ok,h0,h1,and_self,if_true,JcF hz]
theorem snd_iaddr {t e:TypeId}{z:Nat}{x i:Operand}{ix ii:IArg}(ho:o.op=.indexAddr t x i) (hd:P.underlying t=some (.slice e)) (hz:JcD P e=some z) (hx:Jv x=some ix) (hi:Jv i=some ii) (he:exec (.iaddr z ix ii) T H=some (c,v,H')) (hc:c.holds) (hp:Pre E n0 m H w T a) :
  Good P E n0 m H w (execOp a.eval o) v H':=by
 have h1:=Jy hp.tmps hx
 have h2:=Jy hp.tmps hi
 simp only[exec]at he
 split at he
 ·rename_i id off len cap k n e1 e2
  rw[e1]at h1; rw[e2]at h2
  simp only[rel]at h1 h2
  obtain ⟨x',ba,rc,hx',hv,hlc,_,hba,hle⟩:=h1
  split at he
  ·rename_i z' els hH
   split at he
   ·rename_i hzz; subst hzz
    simp only[Ga,Gb]at he
    obtain ⟨rfl,rfl,rfl⟩:=he
    obtain ⟨hi0,hi1⟩:=hc
    have hz2:x'.z=z':=(hp.sim.obj id _ x' hH hx').1
    refine Jl hp.sim (run_indexAt ho hd hz hv h2 hi0 hi1) ?_
    have hb:=hba (by omega)
    subst hb
    rw[addr_add]
    simp only[rel]
    exact ⟨x',hx',by rw[hz2,Gg]; simp[GK]⟩
   ·cases he
  ·cases he
 ·rename_i z' els cap k n e1 e2
  rw[e1]at h1; rw[e2]at h2
  simp only[rel]at h1 h2
  split at he
  ·rename_i hzz; subst hzz
   simp only[Ga,Gb]at he
   obtain ⟨rfl,rfl,rfl⟩:=he
   obtain ⟨hi0,hi1⟩:=hc
   rcases h1 with ⟨_,rfl,_⟩ | ⟨B,q,rc,hv,hlc,_,hrow⟩
   ·simp at hi1; omega
   refine Jl hp.sim (run_indexAt ho hd hz hv h2 hi0 hi1) ?_
   rw[addr_add]
   simp only[rel]
   refine ⟨B,q+n.toNat*z',rfl,?_⟩
   rw[Yk]
   have hlt:n.toNat < els.length:=by omega
   have hget:els[n.toNat]? = some (els.getD n.toNat []):=by simp[Gp,Gh hlt]
   exact ((KC _ _).1 hrow _ _ hget).2
  ·cases he
 ·cases he
theorem snd_indexS {t:TypeId}{x i:Operand}{ix ii:IArg}(ho:o.op=.index t x i) (hd:P.underlying t=some .string) (hx:Jv x=some ix) (hi:Jv i=some ii) (he:exec (.indexS ix ii) T H=some (c,v,H')) (hc:c.holds) (hp:Pre E n0 m H w T a) :
  Good P E n0 m H w (execOp a.eval o) v H':=by
 have h1:=Jy hp.tmps hx
 have h2:=Jy hp.tmps hi
 simp only[exec]at he
 split at he
 ·rename_i s k n e1 e2
  rw[e1]at h1; rw[e2]at h2
  simp only[rel]at h1 h2
  simp only[Ga,Gb]at he
  obtain ⟨rfl,rfl,rfl⟩:=he
  obtain ⟨hi0,hi1⟩:=hc
  have hlt:n.toNat < s.size:=by omega
  refine Jl (r:=.int .u8 ((s.data.getD n.toNat 0).toNat:Int)) hp.sim ?_ rfl
  have:s[n.toNat]? = some (s.data.getD n.toNat 0):=by
   rw[getElem?_pos s n.toNat hlt]
   have h3:n.toNat < s.data.size:=hlt
   simp only[Array.getD,h3,dif_pos]; rfl
  simp only[execOp,ho,Instr.index,h1,h2,asIntOf,Sem.run_bind,Sem.run_pure,run_underlying hd,Result.andThen_ok,hi0,if_true,this]
 ·cases he
theorem snd_extract {x:Operand}{k:Nat}{i:IArg}(ho:o.op=.extract x k) (hx:Jv x=some i) (he:exec (.extract i k) T H=some (c,v,H')) (hp:Pre E n0 m H w T a):Good P E n0 m H w (execOp a.eval o) v H':=by
 have h1:=Jy hp.tmps hx
 simp only[exec]at he
 split at he
 ·rename_i l e
  rw[e]at h1; simp only[rel]at h1
  obtain ⟨vs,hvs,hr⟩:=h1
  split at he
  ·rename_i hlt
   simp only[Ga,Gb]at he
   obtain ⟨_,rfl,rfl⟩:=he
   obtain ⟨r,hr1,hr2⟩:=Xj hr (Gh hlt)
   have h3:vs[k]? = some r:=by simpa using hr1
   refine Jl (r:=r) hp.sim (by simp[execOp,ho,hvs,Instr.extract,h3]) ?_
   have:l.getD k .un=l[k]:=by simp only[Gp,Gh hlt,Gw]
   rw[this]; exact hr2
  ·cases he
 ·cases he
theorem snd_mkmap {t:TypeId}(ho:o.op=.makeMap t none) (he:exec .mkmap T H=some (c,v,H')) (hp:Pre E n0 m H w T a):Good P E n0 m H w (execOp a.eval o) v H':=by
 simp only[exec,Ga,Gb]at he
 obtain ⟨_,rfl,rfl⟩:=he
 refine Jft (ob:=.map #[] 0) (x:=⟨w.heap.size,0,0,0⟩) (o:=.map []) (r:=.map (some w.heap.size)) hp.sim (by simp[execOp,ho,Instr.makeMap]) rfl (fun _=>?_) (by intro s b h; cases h) ?_
 ·exact ⟨#[],0,heap_alloc_new w _,rfl,fun i k v e h=>by simp at h⟩
 ·simp only[rel]
  exact ⟨_,JdN hp.sim _,rfl⟩
theorem Xq {own:List Own}{imm:Nat→Nat→Option Value}{d:TypeDesc}{k:CV}{kv:Value}(hk:rel own imm k kv):∀ (kvs:List (CV×CV)) (es:List MapEntry) (i:Nat) (r:Option (Nat×CV)),kvs.length=es.length→(∀ (j:Nat) k' v' e,kvs[j]? = some (k',v')→es[j]? = some e→rel own imm k' e.key∧rel own imm v' e.val)→XJ (QM d) k kvs i=some r→
  match r with
  |none=>Instr.findNow d kv es i=some none
  |some (j,v')=>∃ v,Instr.findNow d kv es i=some (some (j,v))∧rel own imm v' v∧i≤j∧j-i < kvs.length∧∃ e,es[j-i]? = some e∧(∃ k'',XT (QM d) k k''=some true∧rel own imm k'' e.key)
 |[],es,i,r,hl,h,hf=>by
  simp[XJ]at hf; subst hf
  cases es with
  |nil=>simp[Instr.findNow]
  |cons _ _=>simp at hl
 |(k',v')::kvs,[],i,r,hl,h,hf=>by simp at hl
 |(k',v')::kvs,e::es,i,r,hl,h,hf=>by
  have h0:=h 0 k' v' e rfl rfl
  have hsn:∀ b,XT (QM d) k k'=some b→Instr.sameNow d kv e.key=some b:=by
   intro b hb
   rcases Jcx hb hk h0.1 with ⟨hd,j,p,q,hp,hq,rfl⟩ | ⟨hd,p,q,hp,hq,rfl⟩ | ⟨hd,p,q,hp,hq,rfl⟩
   ·rw[hp,hq]; cases d <;> simp[QM]at hd; simp[Instr.sameNow]
   ·rw[hp,hq]; cases d <;> simp[QM]at hd; simp[Instr.sameNow]
   ·rw[hp,hq]; cases d <;> simp[QM]at hd; simp[Instr.sameNow]
  simp only[XJ]at hf
  split at hf
  ·rename_i hb
   cases hf
   refine ⟨e.val,by simp[Instr.findNow,hsn _ hb],h0.2,Gu _,by simp,e,by simp,k',hb,h0.1⟩
  ·rename_i hb
   have ih:=Xq hk kvs es (i+1) r (by simpa using hl) (fun j k1 v1 e1 a1 a2=>h (j+1) k1 v1 e1 (by simpa using a1) (by simpa using a2)) hf
   cases r with
   |none=>simpa [Instr.findNow,hsn _ hb]using ih
   |some p=>
    obtain ⟨j,v1⟩:=p
    obtain ⟨v,h1,h2,h3,h4,e1,h5,h6⟩:=ih
    refine ⟨v,by simpa [Instr.findNow,hsn _ hb]using h1,h2,by omega,by simp; omega,e1,?_,h6⟩
    rw[show j-i=j-(i+1)+1 by omega]; simpa using h5
  ·cases hf
theorem Qj {empty:Bool}{t:TypeId}{d:TypeDesc}{k:Value}(hd:P.underlying t=some d) (hk:QM d=.int∨QM d=.str∨QM d=.bool):(Instr.checkKey empty 10000 t k).run P w=.ok () w:=by
 rw[show (10000:Nat)=9999+1 from rfl,Instr.checkKey]
 simp only[Sem.run_bind,run_underlying hd,Result.andThen_ok]
 cases d <;> simp[QM]at hk <;> rfl
theorem snd_lookup {t kt e:TypeId}{d:TypeDesc}{z:CV}{ok:Bool}{mo ko:Operand}{im ik:IArg}(ho:o.op=.lookup t mo ko ok) (hu:P.underlying t=some (.map kt e)) (hd:P.underlying kt=some d) (hz:zeroVal P e=some z) (hm:Jv mo=some im) (hk:Jv ko=some ik)
  (htk:QM d=.int∨QM d=.str∨QM d=.bool) (he:exec (.lookup (QM d) z ok im ik) T H=some (c,v,H')) (hp:Pre E n0 m H w T a):Good P E n0 m H w (execOp a.eval o) v H':=by
 have h1:=Jy hp.tmps hm
 have h2:=Jy hp.tmps hk
 obtain ⟨zv,hzr,hzrel⟩:∃ zv,(zeroValue e).run P w=.ok zv w∧rel m.own m.imm z zv:=by
  unfold zeroVal at hz
  cases hi:P.info? e with
  |none=>simp[hi]at hz
  |some i=>
   simp only[hi]at hz
   cases hz':i.zero with
   |none=>simp[hz']at hz
   |some zv=>simp only[hz']at hz; exact ⟨zv,by simp[zeroValue,typeInfo,hi,hz'],ofVal_rel _ _ hz⟩
 have fin:∀ (cv:CV) (u:Value) (b:Bool),rel m.own m.imm cv u→rel m.own m.imm (if ok=true then CV.tup [cv,.bool b] else cv) (if ok=true then Value.tuple #[u,.bool b] else u):=by
  intro cv u b hr
  cases ok with
  |true=>simp only[if_true,rel]; exact ⟨_,rfl,by simp only[JE]; exact ⟨_,_,rfl,hr,_,_,rfl,rfl,rfl⟩⟩
  |false=>simpa using hr
 simp only[exec]at he
 split at he
 ·split at he
  ·rename_i e1
   rw[e1]at h1; simp only[rel]at h1
   simp only[Ga,Gb]at he
   obtain ⟨_,rfl,rfl⟩:=he
   refine Jl hp.sim ?_ (fin z zv false hzrel)
   simp only[execOp,ho,Instr.lookup,h1,Sem.run_bind,run_underlying hu,Result.andThen_ok,Sem.run_pure,Qj hd htk,Instr.findKey,run_underlying hd,Instr.findNow,hzr]
  ·rename_i id e1
   rw[e1]at h1; simp only[rel]at h1
   obtain ⟨x',hx',hv⟩:=h1
   split at he
   ·rename_i kvs hH
    obtain ⟨es,clock,hb,hlen,hent⟩:=hp.sim.obj id _ x' hH hx'
    have hget:(getObj x'.B).run P w=.ok (.map es clock) w:=by simp[getObj,Sem.run,hb]
    split at he
    ·rename_i j v' hf
     have:=Xq (d:=d) h2 kvs es.toList 0 _ (by simpa using hlen) (fun j k1 v1 e1 a1 a2=>hent j k1 v1 e1 a1 (by simpa using a2)) hf
     obtain ⟨u,hf1,hr,_⟩:=this
     simp only[Ga,Gb]at he
     obtain ⟨_,rfl,rfl⟩:=he
     refine Jl hp.sim ?_ (fin v' u true hr)
     simp only[execOp,ho,Instr.lookup,hv,Sem.run_bind,run_underlying hu,Result.andThen_ok,Sem.run_pure,hget,Qj hd htk,Instr.findKey,run_underlying hd,hf1]
    ·rename_i hf
     have:=Xq (d:=d) h2 kvs es.toList 0 _ (by simpa using hlen) (fun j k1 v1 e1 a1 a2=>hent j k1 v1 e1 a1 (by simpa using a2)) hf
     simp only at this
     simp only[Ga,Gb]at he
     obtain ⟨_,rfl,rfl⟩:=he
     refine Jl hp.sim ?_ (fin z zv false hzrel)
     simp only[execOp,ho,Instr.lookup,hv,Sem.run_bind,run_underlying hu,Result.andThen_ok,Sem.run_pure,hget,Qj hd htk,Instr.findKey,run_underlying hd,this,hzr]
    ·cases he
   ·cases he
  ·cases he
 ·cases he
theorem Je3 {r:Nat}{es:Array MapEntry}{cl:Nat}{ob:Obj}(h:w.heap[r]? = some (.map es cl)):(setObj r ob).run P w=.ok () (w.putObj r ob):=by simp[setObj,Sem.run,h,World.putObj]
theorem good_map {s:Sem Next}{k:Nat}{kvs kvs':List (CV×CV)}{x:Own}{es es':Array MapEntry}{cl cl':Nat}(hp:Pre E n0 m H w T a) (hk:H[k]? = some (.map kvs)) (hx:m.own[k]? = some x) (hb:w.heap[x.B]? = some (.map es cl)) (hrun:s.run P w=.ok .skip (w.putObj x.B (.map es' cl')))
  (hlen:kvs'.length=es'.size) (hent:∀ (i:Nat) k v e,kvs'[i]? = some (k,v)→es'[i]? = some e→rel m.own m.imm k e.key∧rel m.own m.imm v e.val):Good P E n0 m H w s .un (H.set k (.map kvs')):=by
 have hlt:x.B < w.heap.size:=(Gz.1 hb).1
 refine ⟨m,_,undef,.skip,hrun,.inr ⟨rfl,rfl⟩,Ext.put hk rfl hx World.putObj_size (fun B hB=>World.putObj_heap_other hB) ⟨rfl,rfl,rfl⟩,?_,by simp[rel],Kg.refl _⟩
 refine hp.sim.put hk rfl hx World.putObj_size (fun B hB=>World.putObj_heap_other hB) (fun i hi=>?_) ⟨es',cl',World.putObj_heap_same hlt,hlen,hent⟩ (by intro s b h; cases h)
 simp[World.cell?,hb,World.putObj_heap_same hlt]
theorem Jci {own:List Own}{imm:Nat→Nat→Option Value}{tk:TK}{x y:CV}{u u':Value}(h:XT tk x y=some true) (hx:rel own imm x u) (hy:rel own imm y u'):Instr.sameBits 10000 u' u=true:=by
 rcases Jcx h hx hy with ⟨_,k',p,q,rfl,rfl,hb⟩ | ⟨_,p,q,rfl,rfl,hb⟩ | ⟨_,p,q,rfl,rfl,hb⟩
 ·have:p=q:=by simpa using hb.symm
  subst this; simp[Instr.sameBits]
 ·rw[beq_toListBytes]at hb
  have:p.toList=q.toList:=by simpa using hb.symm
  simp[Instr.sameBits,beq_toListBytes,this]
 ·have:p=q:=by simpa using hb.symm
  subst this; simp[Instr.sameBits]
theorem Je1 {t kt e:TypeId}{d:TypeDesc}{mo ko vo:Operand}{im ik iv:IArg}(ho:o.op=.mapUpdate t mo ko vo∨o.op=.insert t mo ko vo) (hu:P.underlying t=some (.map kt e)) (hd:P.underlying kt=some d) (hm:Jv mo=some im) (hk:Jv ko=some ik) (hv:Jv vo=some iv)
  (htk:QM d=.int∨QM d=.str∨QM d=.bool) (he:exec (.mapset (QM d) im ik iv) T H=some (c,v,H')) (hp:Pre E n0 m H w T a):Good P E n0 m H w (execOp a.eval o) v H':=by
 have h1:=Jy hp.tmps hm
 have h2:=Jy hp.tmps hk
 have h3:=Jy hp.tmps hv
 simp only[exec]at he
 split at he
 ·split at he
  ·rename_i id e1
   rw[e1]at h1; simp only[rel]at h1
   obtain ⟨x',hx',hv'⟩:=h1
   split at he
   ·rename_i kvs hH
    obtain ⟨es,clock,hb,hlen,hent⟩:=hp.sim.obj id _ x' hH hx'
    have hget:(getObj x'.B).run P w=.ok (.map es clock) w:=by simp[getObj,Sem.run,hb]
    split at he
    ·rename_i j v' hf
     have:=Xq (d:=d) h2 kvs es.toList 0 _ (by simpa using hlen) (fun j k1 v1 e1 a1 a2=>hent j k1 v1 e1 a1 (by simpa using a2)) hf
     obtain ⟨u,hf1,hr,_,hjl,en,hen,k'',hke,hkr⟩:=this
     simp only[Ga,Gb]at he
     obtain ⟨_,rfl,rfl⟩:=he
     simp only[Nat.sub_zero]at hen hjl
     have hsb:=Jci hke h2 hkr
     have hen':es[j]? = some en:=by simpa using hen
     refine good_map (es':=es.modify j fun e=>{ e with key:=a.eval ko,val:=a.eval vo }) (cl':=clock) hp hH hx' hb ?_ (by simp[hlen]) ?_
     ·rcases ho with ho | ho <;> simp only[execOp,ho,Instr.mapUpdate,hv',Sem.run_bind,run_underlying hu,Result.andThen_ok,hget,Qj hd htk,Instr.findKey,run_underlying hd,hf1,Sem.run_pure,hen',GV,Gw,Instr.keyThatStays,hsb,if_true,Je3 hb]
     ·intro i k1 v1 e1 a1 a2
      rw[Gf]at a1
      rw[Array.getElem?_modify]at a2
      split at a1
      ·rename_i hij; subst hij
       cases a1
       simp[hen']at a2
       subst a2
       exact ⟨h2,h3⟩
      ·rename_i hij
       rw[if_neg hij]at a2
       exact hent i k1 v1 e1 a1 a2
    ·rename_i hf
     have:=Xq (d:=d) h2 kvs es.toList 0 _ (by simpa using hlen) (fun j k1 v1 e1 a1 a2=>hent j k1 v1 e1 a1 (by simpa using a2)) hf
     simp only at this
     simp only[Ga,Gb]at he
     obtain ⟨_,rfl,rfl⟩:=he
     refine good_map (es':=es.push { key:=a.eval ko,val:=a.eval vo,born:=clock }) (cl':=clock+1) hp hH hx' hb ?_ (by simp[hlen]) ?_
     ·rcases ho with ho | ho <;> simp only[execOp,ho,Instr.mapUpdate,hv',Sem.run_bind,run_underlying hu,Result.andThen_ok,hget,Qj hd htk,Instr.findKey,run_underlying hd,this,Sem.run_pure,Je3 hb]
     ·intro i k1 v1 e1 a1 a2
      by_cases hlt:i < kvs.length
      ·rw[Gc hlt]at a1
       rw[Gr (by omega)]at a2
       exact hent i k1 v1 e1 a1 (by rw[Gn (by omega)]; exact a2)
      ·have hi:i < (kvs++[(JQ T ik,JQ T iv)]).length:=(Gd.1 a1).1
       have:i=kvs.length:=by simp at hi; omega
       subst this
       simp at a1
       rw[hlen]at a2
       simp at a2
       subst a2
       obtain ⟨rfl,rfl⟩:=a1
       exact ⟨h2,h3⟩
    ·cases he
   ·cases he
  ·cases he
 ·cases he
theorem snd_len {t:TypeId}{cl:Call}{x:Operand}{i:IArg}{d:TypeDesc}(ho:o.op=.call cl) (hcal:cl.callee=.builtin .len) (hty:cl.argTypes.toList=[t]) (hargs:cl.args.toList=[x]) (hd:P.underlying t=some d) (hx:Jv x=some i)
  (he:exec (.len (QM d) i) T H=some (c,v,H')) (hp:Pre E n0 m H w T a):Good P E n0 m H w (execOp a.eval o) v H':=by
 have h1:=Jy hp.tmps hx
 have hty':cl.argTypes=#[t]:=by cases hh:cl.argTypes; simp_all
 have hargs':cl.args=#[x]:=by cases hh:cl.args; simp_all
 have hrun:∀ (r:Value),(Builtin.len_ #[t] o.type #[a.eval x]).run P w=.ok r w→(execOp a.eval o).run P w=.ok (.value r) w:=by
  intro r hr
  simp[execOp,ho,resolve,hcal,invoke,builtin,hty',hargs',hr]
 have tkm:QM d=.map→∃ k e,d=.map k e:=by intro h; cases d <;> simp[QM]at h; exact ⟨_,_,rfl⟩
 have tks:QM d=.str→d=.string:=by intro h; cases d <;> simp[QM]at h; rfl
 simp only[exec]at he
 split at he
 ·rename_i s e1
  rw[e1]at h1; simp only[rel]at h1
  split at he
  ·rename_i hk
   simp only[Ga,Gb]at he
   obtain ⟨_,rfl,rfl⟩:=he
   obtain rfl:=tks hk
   exact Jl hp.sim (hrun _ (by simp[Builtin.len_,run_underlying hd,h1,goInt])) rfl
  ·cases he
 ·rename_i e1
  rw[e1]at h1; simp only[rel]at h1
  split at he
  ·rename_i hk
   simp only[Ga,Gb]at he
   obtain ⟨_,rfl,rfl⟩:=he
   obtain ⟨e,rfl⟩:=QV hk
   exact Jl hp.sim (hrun (.int .i64 0) (by simp[Builtin.len_,run_underlying hd,h1,goInt])) rfl
  ·cases he
 ·rename_i id off len cap e1
  rw[e1]at h1; simp only[rel]at h1
  obtain ⟨x',ba,rc,hx',hv,_⟩:=h1
  split at he
  ·rename_i hk
   simp only[Ga,Gb]at he
   obtain ⟨_,rfl,rfl⟩:=he
   obtain ⟨e,rfl⟩:=QV hk
   exact Jl hp.sim (hrun _ (by simp[Builtin.len_,run_underlying hd,hv,goInt])) rfl
  ·cases he
 ·rename_i z els cap e1
  rw[e1]at h1; simp only[rel]at h1
  split at he
  ·rename_i hk
   simp only[Ga,Gb]at he
   obtain ⟨_,rfl,rfl⟩:=he
   obtain ⟨e,rfl⟩:=QV hk
   rcases h1 with ⟨_,rfl,b,hv⟩ | ⟨B,q,rc,hv,_⟩
   ·exact Jl hp.sim (hrun (.int .i64 0) (by simp[Builtin.len_,run_underlying hd,hv,goInt])) rfl
   exact Jl hp.sim (hrun _ (by simp[Builtin.len_,run_underlying hd,hv,goInt])) rfl
  ·cases he
 ·rename_i e1
  rw[e1]at h1; simp only[rel]at h1
  split at he
  ·rename_i hk
   simp only[Ga,Gb]at he
   obtain ⟨_,rfl,rfl⟩:=he
   obtain ⟨k,e,rfl⟩:=tkm hk
   exact Jl hp.sim (hrun (.int .i64 0) (by simp[Builtin.len_,run_underlying hd,h1,goInt])) rfl
  ·cases he
 ·rename_i id e1
  rw[e1]at h1; simp only[rel]at h1
  obtain ⟨x',hx',hv⟩:=h1
  split at he
  ·rename_i kvs hH
   obtain ⟨es,clock,hb,hlen,hent⟩:=hp.sim.obj id _ x' hH hx'
   have hget:(getObj x'.B).run P w=.ok (.map es clock) w:=by simp[getObj,Sem.run,hb]
   split at he
   ·rename_i hk
    simp only[Ga,Gb]at he
    obtain ⟨_,rfl,rfl⟩:=he
    obtain ⟨k,e,rfl⟩:=tkm hk
    refine Jl (r:=.int .i64 es.size) hp.sim (hrun _ (by simp[Builtin.len_,run_underlying hd,hv,hget,goInt])) ?_
    simp only[rel,hlen]
   ·cases he
  ·cases he
 ·cases he
end
end
section
section
variable {P:Program}{E:Env}{n0:Nat}{m:Bk}{H H':List CObj}{w:World}{T:List CV}{a:Act}{c:Cond}{v:CV}{o:Oper}
theorem run_sliceBound {k:IntKind}{i:Int}{y:Nat}{code:BoundsCode}(h0:0≤i) (h1:i≤y):(Instr.sliceBound (.int k i) y code).run P w=.ok i.toNat w:=by
 simp[Instr.sliceBound,asIntOf,h0,h1]
theorem JdC {len cap:Nat}{lo hi mx:Option Value}{l h:Int}{mm:Nat}
  (hlo:(lo=none∧l=0)∨∃ k,lo=some (.int k l)) (hhi:(hi=none∧mx=none∧h=len)∨∃ k,hi=some (.int k h))
  (hmx:(mx=none∧mm=cap)∨∃ k q,mx=some (.int k q)∧mm=q.toNat∧0≤q∧q≤cap) (h0:0≤l) (h1:l≤h) (h2:h≤mm) :
  (Instr.sliceBounds true len cap lo hi mx).run P w=.ok (l.toNat,h.toNat,mm) w:=by
 have hh:(h.toNat:Int)=h:=by omega
 unfold Instr.sliceBounds
 rcases hmx with ⟨rfl,rfl⟩ | ⟨k,q,rfl,rfl,hq0,hq1⟩
 ·rcases hhi with ⟨rfl,_,rfl⟩ | ⟨k,rfl⟩
  ·rcases hlo with ⟨rfl,rfl⟩ | ⟨k,rfl⟩
   ·simp
   ·simp[run_sliceBound h0 h1]
  ·rcases hlo with ⟨rfl,rfl⟩ | ⟨k',rfl⟩
   ·simp[run_sliceBound (show (0:Int)≤h by omega) h2]
   ·simp[run_sliceBound (show (0:Int)≤h by omega) h2,run_sliceBound h0 (show l≤(h.toNat:Int) by omega)]
 ·rcases hhi with ⟨_,hn,_⟩ | ⟨k1,rfl⟩
  ·cases hn
  ·have e1:=run_sliceBound (P:=P) (w:=w) (k:=k) (code:=.slice3Acap) hq0 hq1
   have e2:=run_sliceBound (P:=P) (w:=w) (k:=k1) (code:=.slice3B) (show (0:Int)≤h by omega) h2
   rcases hlo with ⟨rfl,rfl⟩ | ⟨k',rfl⟩
   ·simp[e1,e2]
   ·have e3:=run_sliceBound (P:=P) (w:=w) (k:=k') (code:=.slice3C) h0 (show l≤(h.toNat:Int) by omega)
    simp[e1,e2,e3]
theorem opt_lo {T:List CV}{own:List Own}{imm:Nat→Nat→Option Value}(hT:JE own imm T a.tmps.toList) {lo:Option Operand}{ilo:Option IArg}{l:Int}(h:Qg lo=some ilo) (hl:KT T 0 ilo=some l):(lo.map a.eval=none∧l=0)∨∃ k,lo.map a.eval=some (.int k l):=by
 cases lo with
 |none=>simp[Qg]at h; subst h; simp[KT]at hl; exact .inl ⟨rfl,hl.symm⟩
 |some x=>
  simp only[Qg]at h
  cases hx:Jv x with
  |none=>simp[hx]at h
  |some i=>
   simp[hx]at h; subst h
   have:=Jy hT hx
   simp only[KT]at hl
   unfold Jak at hl
   split at hl
   ·rename_i k n e
    rw[e]at this; simp only[rel]at this
    cases hl
    exact .inr ⟨k,by simp[this]⟩
   ·cases hl
theorem opt_int {T:List CV}{own:List Own}{imm:Nat→Nat→Option Value}(hT:JE own imm T a.tmps.toList) {x:Operand}{i:IArg}{n:Int}(hx:Jv x=some i) (h:Jak (JQ T i)=some n):∃ k,a.eval x=.int k n:=by
 have:=Jy hT hx
 unfold Jak at h
 split at h
 ·rename_i k n' e
  rw[e]at this; simp only[rel]at this
  cases h
  exact ⟨k,this⟩
 ·cases h
theorem slice_sound {z:Nat}{x v:CV}{xv:Value}{own:List Own}{imm:Nat→Nat→Option Value}{l h:Int}{mx:Option Int}(hs:Sim E m H w) (ho:own=m.own) (hi:imm=m.imm) (hx:rel own imm x xv) (he:K6 z H x l h mx=some (c,v)) (hc:c.holds) :
  ∃ ba len cap,xv=.slice ba len cap∧0≤l∧l≤h∧h≤(mx.getD cap).toNat∧h≤len∧(∀ q,mx=some q→0≤q∧q≤cap)∧
   rel own imm v (.slice (if (mx.getD cap).toNat=l.toNat then ba else ba.map (·.add (l.toNat*z))) (h.toNat-l.toNat) ((mx.getD cap).toNat-l.toNat))∧
   exLen x=some len:=by
 subst ho; subst hi
 cases x with
 |nils=>
  simp only[K6]at he
  simp only[rel]at hx
  subst hx
  split at he
  ·cases he
   simp only[Cond.holds]at hc
   obtain ⟨h1,h2,h3⟩:=hc
   refine ⟨none,0,0,rfl,h1,h2,by simp; omega,by simpa using h3,by simp,?_,rfl⟩
   have:l=0:=by omega
   have:h=0:=by omega
   subst l; subst h
   simp[rel]
  ·cases he
 |rslc z' els cap=>
  simp only[K6]at he
  simp only[rel]at hx
  rcases hx with ⟨hc0,rfl,b0,rfl⟩ | ⟨B,q,rc,rfl,hlc,hcap,hrow⟩
  ·rcases hc0 with rfl | rfl
   all_goals
    by_cases hz:z'=z
    ·subst hz
     simp only[if_true]at he
     cases mx with
     |none=>
      simp only at he
      cases he
      simp only[Cond.holds]at hc
      obtain ⟨h1,h2,h3⟩:=hc
      refine ⟨b0,0,0,rfl,h1,h2,by simp at h3 ⊢; omega,by simpa using h3,by simp,?_,rfl⟩
      have:l=0:=by simp at h3; omega
      have:h=0:=by simp at h3; omega
      subst l; subst h
      simp[rel]
     |some mq=>
      simp only at he
      cases he
      simp only[Cond.holds]at hc
      obtain ⟨h1,h2,h3,h4,h5⟩:=hc
      simp at h4 h5
      refine ⟨b0,0,0,rfl,h1,h2,by simp; omega,by simpa using h4,by intro q' hq'; cases hq'; omega,?_,rfl⟩
      have:l=0:=by omega
      have:h=0:=by omega
      have:mq=0:=by omega
      subst l; subst h; subst mq
      simp[rel]
    ·simp[hz]at he
  by_cases hz:z'=z
  ·subst hz
   simp only[if_true]at he
   have hrow':=(KC _ _).1 hrow
   have sub:∀ (k:Nat),k≠l.toNat→(h.toNat≤els.length)→Qv m.imm z' ((els.drop l.toNat).take (h.toNat-l.toNat)) (m.imm B) (q+l.toNat*z'):=by
    intro k _ _
    rw[KC]
    intro j e hj
    have hj1:j < h.toNat-l.toNat:=by have:=(Gd.1 hj).1; simp at this; omega
    rw[GD hj1,Gx]at hj
    have:=hrow' _ _ hj
    rw[Gg]at this
    refine ⟨this.1,fun t c hc=>?_⟩
    have:=this.2 t c hc
    rw[show q+l.toNat*z' + j*z' + t=q+(l.toNat*z' + j*z')+t by omega]; exact this
   cases mx with
   |none=>
    simp only at he
    cases he
    simp only[Cond.holds]at hc
    obtain ⟨h1,h2,h3⟩:=hc
    refine ⟨some ⟨B,q,none⟩,els.length,rc,rfl,h1,h2,by simp; omega,h3,by simp,?_,rfl⟩
    simp only[Hl,Int.toNat_natCast,rel]
    have hlen:((els.drop l.toNat).take (h.toNat-l.toNat)).length=h.toNat-l.toNat:=by simp; omega
    have hcap':∀ n,GX (fun x=>x-l.toNat) cap=some n→rc-l.toNat=n:=by
     intro n hn
     cases cap with
     |none=>simp at hn
     |some c0=>simp at hn; rw[hcap c0 rfl]; exact hn
    by_cases hm:rc=l.toNat
    ·rw[if_pos hm]
     refine .inr ⟨B,q,rc-l.toNat,by rw[hlen],by rw[hlen]; omega,hcap',?_⟩
     have:((els.drop l.toNat).take (h.toNat-l.toNat))=[]:=G5 (by rw[hlen]; omega)
     rw[this]; simp[Qv]
    ·rw[if_neg hm]
     refine .inr ⟨B,q+l.toNat*z',rc-l.toNat,by rw[hlen]; simp[addr_add],by rw[hlen]; omega,hcap',sub rc hm (by omega)⟩
   |some mq=>
    simp only at he
    cases he
    simp only[Cond.holds]at hc
    obtain ⟨h1,h2,h3,h4,h5⟩:=hc
    have hq:mq≤rc:=by
     cases cap with
     |none=>simp at h5; omega
     |some c0=>simp at h5; have:=hcap c0 rfl; omega
    refine ⟨some ⟨B,q,none⟩,els.length,rc,rfl,h1,h2,by simp; omega,h4,by intro q' hq'; cases hq'; omega,?_,rfl⟩
    simp only[Gw,rel]
    have hlen:((els.drop l.toNat).take (h.toNat-l.toNat)).length=h.toNat-l.toNat:=by simp; omega
    by_cases hm:mq.toNat=l.toNat
    ·rw[if_pos hm]
     refine .inr ⟨B,q,mq.toNat-l.toNat,by rw[hlen],by rw[hlen]; omega,by intro n hn; cases cap <;> simp at hn; exact hn,?_⟩
     have:((els.drop l.toNat).take (h.toNat-l.toNat))=[]:=G5 (by rw[hlen]; omega)
     rw[this]; simp[Qv]
    ·rw[if_neg hm]
     refine .inr ⟨B,q+l.toNat*z',mq.toNat-l.toNat,by rw[hlen]; simp[addr_add],by rw[hlen]; omega,by intro n hn; cases cap <;> simp at hn; exact hn,sub mq.toNat hm (by omega)⟩
  ·simp[hz]at he
 |slc id off len cap=>
  simp only[K6]at he
  simp only[rel]at hx
  obtain ⟨x',ba,rc,hx',rfl,hlc,hcap,hba,hle⟩:=hx
  split at he
  ·rename_i z' els hH
   by_cases hz:z'=z
   ·subst hz
    simp only[if_true]at he
    have hz2:x'.z=z':=(hs.obj id _ x' hH hx').1
    have addr:∀ mm:Nat,mm≤rc→l.toNat≤mm→(mm-l.toNat≠0→(if mm=l.toNat then some ba else GX (fun x=>x.add (l.toNat*z')) (some ba))=some ⟨x'.B,x'.o+(off+l.toNat)*x'.z,none⟩):=by
     intro mm h1 h2 h3
     rw[if_neg (by omega)]
     have:=hba (by omega)
     subst this
     simp only[GV,addr_add,hz2,Gg,GK]
    have bnd:∀ mm:Nat,mm≤rc→l.toNat≤mm→x'.o+(off+l.toNat)*x'.z+(mm-l.toNat)*x'.z≤x'.n:=by
     intro mm h1 h2
     have:off*x'.z+rc*x'.z=(off+rc)*x'.z:=(Gg _ _ _).symm
     have h3:(off+l.toNat)*x'.z+(mm-l.toNat)*x'.z=(off+mm)*x'.z:=by rw[← Gg]; congr 1; omega
     have h4:(off+mm)*x'.z≤(off+rc)*x'.z:=Gt _ (by omega)
     omega
    have some_addr:∀ mm:Nat,∃ a',(if mm=l.toNat then some ba else GX (fun x=>x.add (l.toNat*z')) (some ba))=some a':=by
     intro mm; split
     ·exact ⟨_,rfl⟩
     ·exact ⟨_,rfl⟩
    cases mx with
    |none=>
     simp only at he
     cases he
     simp only[Cond.holds]at hc
     obtain ⟨h1,h2,h3⟩:=hc
     refine ⟨some ba,len,rc,rfl,h1,h2,by simp; omega,h3,by simp,?_,rfl⟩
     simp only[Hl,Int.toNat_natCast,rel]
     obtain ⟨a',ha'⟩:=some_addr rc
     refine ⟨x',a',rc-l.toNat,hx',by rw[ha'],by omega,?_,fun h=>?_,bnd rc (Gu _) (by omega)⟩
     ·intro n hn
      cases cap with
      |none=>simp at hn
      |some c0=>simp at hn; rw[hcap c0 rfl]; exact hn
     ·have:=addr rc (Gu _) (by omega) h
      rw[ha']at this; cases this; rfl
    |some mq=>
     simp only at he
     cases he
     simp only[Cond.holds]at hc
     obtain ⟨h1,h2,h3,h4,h5⟩:=hc
     have hq:mq≤rc:=by
      cases cap with
      |none=>simp at h5; omega
      |some c0=>simp at h5; have:=hcap c0 rfl; omega
     refine ⟨some ba,len,rc,rfl,h1,h2,by simp; omega,h4,by intro q' hq'; cases hq'; omega,?_,rfl⟩
     simp only[Gw,rel]
     obtain ⟨a',ha'⟩:=some_addr mq.toNat
     refine ⟨x',a',mq.toNat-l.toNat,hx',by rw[ha'],by omega,by simp,fun h=>?_,bnd mq.toNat (by omega) (by omega)⟩
     have:=addr mq.toNat (by omega) (by omega) h
     rw[ha']at this; cases this; rfl
   ·simp[hz]at he
  ·cases he
 |_=>simp[K6]at he
theorem snd_slice {t e:TypeId}{z:Nat}{x:Operand}{lo hi mx:Option Operand}{ix:IArg}{ilo ihi imx:Option IArg}(ho:o.op=.slice t x lo hi mx) (hd:P.underlying t=some (.slice e)) (hz:JcD P e=some z) (hx:Jv x=some ix) (hlo:Qg lo=some ilo) (hhi:Qg hi=some ihi) (hmx:Qg mx=some imx) (hno:¬ (hi.isNone=true∧mx.isSome=true))
  (he:exec (.slice z ix ilo ihi imx) T H=some (c,v,H')) (hc:c.holds) (hp:Pre E n0 m H w T a):Good P E n0 m H w (execOp a.eval o) v H':=by
 have h1:=Jy hp.tmps hx
 simp only[exec]at he
 split at he
 ·rename_i l h q hl hh hq
  split at he
  ·rename_i c' v' hs
   simp only[Ga,Gb]at he
   obtain ⟨rfl,rfl,rfl⟩:=he
   obtain ⟨ba,len,cap,hxv,b0,b1,b2,b3,b4,hr,hkind⟩:=slice_sound hp.sim rfl rfl h1 hs hc
   have plo:=opt_lo (a:=a) hp.tmps hlo hl
   have phi:((hi.map a.eval=none)∧(mx.map a.eval=none)∧h=len)∨∃ k,hi.map a.eval=some (.int k h):=by
    cases hi with
    |none=>
     simp[Qg]at hhi; subst hhi
     refine .inl ⟨rfl,?_,?_⟩
     ·cases mx with
      |none=>rfl
      |some _=>simp at hno
     ·simp only[exHi,hkind,Ga]at hh
      exact hh.symm
    |some y=>
     simp only[Qg]at hhi
     cases hy:Jv y with
     |none=>simp[hy]at hhi
     |some j=>
      simp[hy]at hhi; subst hhi
      simp only[exHi]at hh
      obtain ⟨k,hk⟩:=opt_int (a:=a) hp.tmps hy hh
      exact .inr ⟨k,by simp[hk]⟩
   have pmx:((mx.map a.eval=none)∧(q.getD cap).toNat=cap)∨∃ k r,mx.map a.eval=some (.int k r)∧(q.getD cap).toNat=r.toNat∧0≤r∧r≤cap:=by
    cases mx with
    |none=>simp[Qg]at hmx; subst hmx; simp[exMx]at hq; subst hq; exact .inl ⟨rfl,by simp⟩
    |some y=>
     simp only[Qg]at hmx
     cases hy:Jv y with
     |none=>simp[hy]at hmx
     |some j=>
      simp[hy]at hmx; subst hmx
      simp only[exMx]at hq
      cases hj:Jak (JQ T j) with
      |none=>simp[hj]at hq
      |some r=>
       simp[hj]at hq; subst hq
       obtain ⟨k,hk⟩:=opt_int (a:=a) hp.tmps hy hj
       have:=b4 r rfl
       exact .inr ⟨k,r,by simp[hk],by simp,this.1,this.2⟩
   have hb:=JdC (P:=P) (w:=w) (len:=len) plo phi pmx b0 b1 (by omega)
   refine Jl hp.sim ?_ hr
   simp only[execOp,ho,Instr.sliceAt,Sem.run_bind,run_underlying hd,Result.andThen_ok,Instr.slice,hxv,hb,JcF hz,Sem.run_pure]
  ·cases he
 ·cases he
theorem Q3 {own:List Own}{imm:Nat→Nat→Option Value}{z:List CV}{zv:Array Value}(hz:JE own imm z zv.toList) (n N:Nat) (h0:z.length≠0) (hle:n≤N):relO own imm z.length (GI n z) (fun i=>((GA (N*z.length)).map (fun i=>zv[i % zv.size]!))[i]?) 0:=by
 have hl:=Ju hz
 have hs:zv.size=z.length:=by simpa using hl.symm
 intro j e he
 have hj:j < n:=by have:=(Gd.1 he).1; simpa using this
 have:e=z:=by rw[List.getElem?_replicate,if_pos hj]at he; cases he; rfl
 subst this
 refine ⟨rfl,fun t c hc=>?_⟩
 have ht:t < e.length:=(Gd.1 hc).1
 obtain ⟨r,hr1,hr2⟩:=Xj hz hc
 refine ⟨r,?_,hr2⟩
 have hlt:0+j*e.length+t < N*e.length:=by
  have:(j+1)*e.length≤N*e.length:=Gt _ (by omega)
  rw[Gg,Gy]at this; omega
 have hmod:(0+j*e.length+t) % e.length=t:=by rw[Nat.zero_add,Nat.mul_comm,Nat.mul_add_mod]; exact Nat.mod_eq_of_lt ht
 have ht2:t < zv.size:=by omega
 have:zv[t]! = r:=by
  have h3:zv[t]? = some r:=by simpa using hr1
  simp[getElem!_def,h3]
 simp only[GZ,Array.getElem?_range,hs,hmod,hlt,if_true,GV,this]
theorem JbQ {own:List Own}{imm:Nat→Nat→Option Value}{z:List CV}{zv:Array Value}(hz:JE own imm z zv.toList) (h1:KX z=true) (h0:z.length≠0) {N:Nat}:∀ (i:Nat) v,((GA N).map (fun i=>zv[i % zv.size]!))[i]? = some v→v.oneCell'=true:=by
 intro i v hv
 have hl:=Ju hz
 have hs:zv.size=z.length:=by simpa using hl.symm
 simp only[GZ]at hv
 cases hr:(GA N)[i]? with
 |none=>simp[hr]at hv
 |some j=>
  simp[hr]at hv
  have hlt:j % zv.size < zv.size:=Nat.mod_lt _ (by omega)
  subst hv
  exact QS hz h1 _ (by simp[getElem!_def,Gn hlt])
theorem snd_mkslice {t e:TypeId}{z:List CV}{i:TypeInfo}{lo co:Operand}{il ic:IArg}(ho:o.op=.makeSlice t lo co) (hd:P.underlying t=some (.slice e)) (hz:zeroOf P e=some z) (hi:P.info? e=some i) (hl:Jv lo=some il) (hco:Jv co=some ic) (h0:z.length≠0)
  (he:exec (.mkslice z.length i.bytes z il ic) T H=some (c,v,H')) (hc:c.holds) (hp:Pre E n0 m H w T a):Good P E n0 m H w (execOp a.eval o) v H':=by
 have h1:=Jy hp.tmps hl
 have h2:=Jy hp.tmps hco
 obtain ⟨i',zv,hi',_,hrun,hrel,hlen,h1z⟩:=QW (w:=w) hz
 rw[hi]at hi'; cases hi'
 simp only[exec]at he
 split at he
 ·rename_i l cc e1 e2
  rw[e1]at h1; rw[e2]at h2
  simp only[rel]at h1 h2
  simp only[Ga,Gb]at he
  obtain ⟨rfl,rfl,rfl⟩:=he
  simp only[Cond.holds]at hc
  obtain ⟨hc0,hc1,hc2,hc3⟩:=hc
  have hlw:IntKind.i64.wrap l=l:=InR.wrap (k:=.i64) ⟨by simp[IntKind.min,IntKind.signed,IntKind.bits]; omega,by simp[IntKind.max,IntKind.signed,IntKind.bits]; omega⟩
  have hcw:IntKind.i64.wrap cc=cc:=InR.wrap (k:=.i64) ⟨by simp[IntKind.min,IntKind.signed,IntKind.bits]; omega,by simp[IntKind.max,IntKind.signed,IntKind.bits]; omega⟩
  have t1:¬ (cc < 0∨281474976710656 < (i.bytes:Int)*cc):=by omega
  have hzl:=Ju (hrel m.own m.imm)
  have hzn:zv.cells.size=z.length:=by simpa using hzl.symm
  have hil:i.size=z.length:=hlen.symm
  refine good_row (r:=.slice (some ⟨w.heap.size,0,none⟩) l.toNat cc.toNat) (cells:=(GA (cc.toNat*z.length)).map (fun j=>zv.cells[j % zv.cells.size]!)) (elem:=e) (z:=z.length) hp.sim ?_ ?_ (Q3 (hrel _ _) _ _ h0 (by omega)) (JbQ (hrel m.own m.imm) h1z h0) ?_
  ·have hsz:(sizeOf e).run P w=.ok z.length w:=by simp[sizeOf,typeInfo,hi,hil]
   have t2:((decide (cc < 0) || decide ((i.bytes:Int)*cc > 2 ^ 48)) || decide (l < 0) || decide (l > cc))=false:=by
    simp only[Bool.or_eq_false_iff,decide_eq_false_iff_not]
    have:(2:Int) ^ 48=281474976710656:=rfl
    rw[this]; omega
   simp only[execOp,ho,Instr.makeSlice,Sem.run_bind,run_underlying hd,Result.andThen_ok,h1,h2,asInt,asIntOf,Sem.run_pure,typeInfo,run_program,hi,hlw,hcw,t2]
   simp only[Gq,if_false,Sem.run_bind,run_askRoom,Result.andThen_ok,hsz,newRow,run_newObj,Sem.run_pure]
   by_cases hn:cc.toNat*z.length=0
   ·simp[hn]; congr 2; exact Array.ext (by simp) (fun i h1 _=>by simp at h1)
   ·simp[hn,hrun]
  ·simp; exact Gt _ (by omega)
  ·simp only[rel]
   refine ⟨_,_,_,JdN hp.sim _,rfl,by omega,by simp,fun _=>by simp,by simp⟩
 ·cases he
end
end
end Go.Cm
end
end
