/-
  A part of the proof. Conditions: none.
-/
import Derived.RangeFuncWrites
import Derived.KernelRfl
import Derived.Laws.Sem
import Derived.Laws.World
import Derived.OrdersIn
import Derived.Lib.ItoaNum
import Derived.Laws.StructEq
import Derived.Laws.CopyRow
import Derived.Laws.Rows
import Derived.ChangeKeysEq
import Derived.Laws.BitsLemmas
set_option linter.unusedSimpArgs false
set_option linter.unusedVariables false
open Array renaming getElem?_eq_getElem->Gv,length_toList->Gw,getElem?_push_lt->GA,getElem?_eq_some_iff->GN,mem_of_getElem?->GQ,range->GH,getElem?_toList->G9,mem_toList_iff->Ha,getElem?_map->Hw,ext'->Hd,replicate->Hy
open Option.some renaming injEq->Ga,inj->Hz
open List renaming getElem?_append_left->Gc,getElem?_eq_some_iff->Gd,getElem?_eq_getElem->Gg,getElem?_append_right->Gm,length_append->Gj,getElem?_set->Gl,getElem?_take_of_lt->Gq,length_take->Gn,eq_nil_of_length_eq_zero->Gx,getElem?_drop->Gr,getElem?_of_mem->Gy,getElem?_toArray->GD,replicate->Gs,append_assoc->Gz,take_of_length_le->GR,mem_append->GG,getElem?_eq_none->GU,getD->Gp,flatten_cons->GV,mem_of_mem_take->GZ,getElem?_take->G5,drop_eq_getElem_cons->He,length_drop->G6,mem_of_mem_drop->Hf,map_cons->G7,size_toArray->Hg,range->GX,ext_getElem?->Hl,length_cons->Hm,take_zero->Ho,getElem?_cons_zero->HV,take_append_drop->HY,length_replicate->HZ,mem_of_getElem?->H5,take_succ_cons->H6,mem_replicate->H7,mapM_toArray->H8,getElem?_map->H9,cons_append->La,mapM_cons->Lb,drop_drop->Lc,length->Ld
open Nat renaming mul_le_mul_right->Gh,add_mul->Gf,le_refl->Gi,one_mul->Gt,zero_add->GI,le_trans->GJ,add_zero->GK,add_assoc->GY,strongRecOn->Le,zero_mul->Lf,lt_or_ge->Lg
open Int renaming not_lt->G8,toNat_natCast->Lh,ofNat_lt->Li
open BitVec renaming ofInt->GL
open Prod.mk renaming injEq->Gb
open Bool renaming false_eq_true->Gu,false_or->Hq,and_eq_true->Lj
open Option renaming getD_some->GM,bind_some->Hr,map_some->Ht,isSome_iff_ne_none->Ll,map->Hu,getD_none->Lm
noncomputable section
section
namespace Go.Cm
def gN:Nat:=6
def gTab:Nat:=3
def gErr:List Nat:=[1,2]
def glP (f:Nat->Option Obj):Prop:=
 (∀B,B<gN->∃c e q,f B=some (.cells c e q))/\(∃e q,f gTab=some (.cells (Lib.pow10Tab.map λz=>Value.int .u64 z).toArray e q))/\∀B∈gErr,∃te pe e q,f B=some (.cells #[.iface te pe] e q)
def GLw (w:World):Prop:=glP λB=>if B<gN then w.heap[B]? else none
theorem GLw.mono {w w':World}(h:GLw w)(hf:∀B,B<gN->w'.heap[B]? = w.heap[B]?):GLw w':=by
 unfold GLw at h|-;have e:(λB=>if B<gN then w'.heap[B]? else none)=λB=>if B<gN then w.heap[B]? else none:=by
  funext B
  split
  ·rename_i hB;exact hf B hB
  ·rfl
 rw[e];exact h
theorem GLw.lt {w:World}(h:GLw w){B:Nat}(hB:B<gN):B<w.heap.size:=by
 obtain⟨c,e,q,ho⟩:=h.1 B hB;simp only[if_pos hB]at ho;exact(GN.1 ho).1
theorem GLw.cells {w:World}(h:GLw w){B:Nat}(hB:B<gN){x:Obj}(hx:w.heap[B]? = some x):∃c e q,x=.cells c e q:=by
 obtain⟨c,e,q,ho⟩:=h.1 B hB;simp only[if_pos hB]at ho;rw[hx]at ho;exact⟨c,e,q,Hz ho⟩
theorem Kl {p:Prop}(h:p:=by omega):p=True:=eq_true h
theorem Ki {p:Prop}(h:¬p:=by omega):p=False:=eq_false h
inductive CV where
 |un
 |bool (b:Bool)
 |int (k:IntKind) (n:Int)
 |str (s:ByteArray)
 |nilp
 |ptr (id i off:Nat)
 |rptr (cs:List CV)
 |nils
 |slc (id off len:Nat) (cap:Option Nat)
 |rslc (z:Nat) (els:List (List CV)) (cap:Option Nat)
 |nilm
 |map (id:Nat)
 |fn (f:Nat) (first captured:List CV)
 |yld (l:Nat)
 |nilf
 |iface (t:Nat) (v:CV)
 |nili
 |agg (l:List CV)
 |tup (l:List CV)
 deriving Inhabited
structure Own where
 B:Nat
 o:Nat
 n:Nat
 z:Nat
structure Bk where
 own:List Own
 imm:Nat->Nat->Option Value
 ext:Nat->Prop
mutual
def rel (own:List Own)(imm:Nat->Nat->Option Value):CV->Value->Prop
 |.un,_=>True
 |.bool b,v=>v=.bool b
 |.int k n,v=>v=.int k n
 |.str s,v=>v=.string s
 |.nilp,v=>v=.pointer none
 |.ptr id i off,v=>∃x,own[id]? = some x/\v=.pointer (some ⟨x.B,x.o+i*x.z+off,none⟩)
 |.rptr cs,v=>∃B o,v=.pointer (some ⟨B,o,none⟩)/\Jfl imm cs (imm B) o
 |.nils,v=>v=.slice none 0 0
 |.slc id off len cap,v=>∃x a c,own[id]? = some x/\v=.slice (some a) len c/\len<=c/\(∀n,cap=some n->c=n)/\
   (c≠0->a=⟨x.B,x.o+off*x.z,none⟩)/\x.o+off*x.z+c*x.z<=x.n
 |.rslc z els cap,v=>((cap=none\/cap=some 0)/\els=[]/\∃b,v=.slice b 0 0)\/∃B o c,v=.slice (some ⟨B,o,none⟩) els.length c/\els.length<=c/\(∀n,cap=some n->c=n)/\XC imm z els (imm B) o
 |.nilm,v=>v=.map none
 |.map id,v=>∃x,own[id]? = some x/\v=.map (some x.B)
 |.fn f l1 l2,v=>∃vs1 vs2,v=.func (.func f) vs1 vs2/\JS own imm l1 vs1.toList/\JS own imm l2 vs2.toList
 |.yld l,v=>v=.func (.yield l) #[] #[]
 |.nilf,v=>v=.nilFunc
 |.iface t c,v=>∃r,v=.iface t r/\rel own imm c r
 |.nili,v=>v=.nilIface
 |.agg l,v=>∃vs,v=.agg vs/\JS own imm l vs.toList
 |.tup l,v=>∃vs,v=.tuple vs/\JS own imm l vs.toList
def JS (own:List Own)(imm:Nat->Nat->Option Value):List CV->List Value->Prop
 |[],vs=>vs=[]
 |c::cs,vs=>∃r rs,vs=r::rs/\rel own imm c r/\JS own imm cs rs
def Jfl (imm:Nat->Nat->Option Value):List CV->(Nat->Option Value)->Nat->Prop
 |[],_,_=>True
 |c::cs,R,o=>(∃r,R o=some r/\rel [] imm c r)/\Jfl imm cs R (o+1)
def XC (imm:Nat->Nat->Option Value)(z:Nat):List (List CV)->(Nat->Option Value)->Nat->Prop
 |[],_,_=>True
 |e::es,R,o=>e.length=z/\Jfl imm e R o/\XC imm z es R (o+z)
end
def KN (a b:List Own):Prop:=∀(i:Nat) x,a[i]? = some x->b[i]? = some x
def Kw (f g:Nat->Nat->Option Value):Prop:=∀B i v,f B i=some v->g B i=some v
theorem KN.refl (a:List Own):KN a a:=λ_ _ h=>h
theorem KN.trans {a b c:List Own}(h:KN a b)(k:KN b c):KN a c:=λi x e=>k i x (h i x e)
theorem KN.nil (a:List Own):KN [] a:=λi x e=>by simp at e
theorem KN.append (a b:List Own):KN a (a++b):=λi x e=>by
 rw[Gc (Gd.1 e).1];exact e
theorem Kw.refl (f:Nat->Nat->Option Value):Kw f f:=λ_ _ _ h=>h
theorem Kw.trans {f g h:Nat->Nat->Option Value}(a:Kw f g)(b:Kw g h):Kw f h:=λB i v e=>b B i v (a B i v e)
mutual
theorem Xg {own own':List Own}{imm imm':Nat->Nat->Option Value}(ho:KN own own')(hi:Kw imm imm'):∀(c:CV) (v:Value),rel own imm c v->rel own' imm' c v
 |.un,_,h=>by simp only[rel]
 |.bool _,_,h=>by simp only[rel]at h|-;exact h
 |.int _ _,_,h=>by simp only[rel]at h|-;exact h
 |.str _,_,h=>by simp only[rel]at h|-;exact h
 |.nilp,_,h=>by simp only[rel]at h|-;exact h
 |.ptr _ _ _,_,h=>by
  simp only[rel]at h|-;obtain⟨x,hx,e⟩:=h;exact⟨x,ho _ _ hx,e⟩
 |.rptr cs,_,h=>by
  simp only[rel]at h|-;obtain⟨B,o,e,r⟩:=h;exact⟨B,o,e,JcV hi cs _ _ o (λi v=>hi B i v) r⟩
 |.nils,_,h=>by simp only[rel]at h|-;exact h
 |.slc _ _ _ _,_,h=>by
  simp only[rel]at h|-;obtain⟨x,a,c,hx,e⟩:=h;exact⟨x,a,c,ho _ _ hx,e⟩
 |.rslc z els _,_,h=>by
  simp only[rel]at h|-;rcases h with h|⟨B,o,c,e,h1,h2,r⟩
  ·exact .inl h
  ·exact .inr ⟨B,o,c,e,h1,h2,Jem hi z els _ _ o (λi v=>hi B i v) r⟩
 |.nilm,_,h=>by simp only[rel]at h|-;exact h
 |.map _,_,h=>by
  simp only[rel]at h|-;obtain⟨x,hx,e⟩:=h;exact⟨x,ho _ _ hx,e⟩
 |.fn _ l1 l2,_,h=>by
  simp only[rel]at h|-;obtain⟨vs1,vs2,e,h1,h2⟩:=h;exact⟨vs1,vs2,e,KM ho hi l1 _ h1,KM ho hi l2 _ h2⟩
 |.yld _,_,h=>by simp only[rel]at h|-;exact h
 |.nilf,_,h=>by simp only[rel]at h|-;exact h
 |.iface _ c,_,h=>by
  simp only[rel]at h|-;obtain⟨r,e,h1⟩:=h;exact⟨r,e,Xg ho hi c _ h1⟩
 |.nili,_,h=>by simp only[rel]at h|-;exact h
 |.agg l,_,h=>by
  simp only[rel]at h|-;obtain⟨vs,e,h1⟩:=h;exact⟨vs,e,KM ho hi l _ h1⟩
 |.tup l,_,h=>by
  simp only[rel]at h|-;obtain⟨vs,e,h1⟩:=h;exact⟨vs,e,KM ho hi l _ h1⟩
theorem KM {own own':List Own}{imm imm':Nat->Nat->Option Value}(ho:KN own own')(hi:Kw imm imm'):∀(l:List CV) (vs:List Value),JS own imm l vs->JS own' imm' l vs
 |[],_,h=>by simp only[JS]at h|-;exact h
 |c::cs,_,h=>by
  simp only[JS]at h|-;obtain⟨r,rs,e,h1,h2⟩:=h;exact⟨r,rs,e,Xg ho hi c _ h1,KM ho hi cs _ h2⟩
theorem JcV {imm imm':Nat->Nat->Option Value}(hi:Kw imm imm'):∀(cs:List CV) (R R':Nat->Option Value) (o:Nat),(∀i v,R i=some v->R' i=some v)->Jfl imm cs R o->Jfl imm' cs R' o
 |[],_,_,_,_,_=>by simp only[Jfl]
 |c::cs,R,R',o,hR,h=>by
  simp only[Jfl]at h|-;obtain⟨⟨r,e,h1⟩,h2⟩:=h;exact⟨⟨r,hR _ _ e,Xg (KN.nil _) hi c _ h1⟩,JcV hi cs R R' _ hR h2⟩
theorem Jem {imm imm':Nat->Nat->Option Value}(hi:Kw imm imm'):∀(z:Nat) (els:List (List CV)) (R R':Nat->Option Value) (o:Nat),(∀i v,R i=some v->R' i=some v)->XC imm z els R o->XC imm' z els R' o
 |_,[],_,_,_,_,_=>by simp only[XC]
 |z,e::es,R,R',o,hR,h=>by
  simp only[XC]at h|-;obtain⟨h0,h1,h2⟩:=h;exact⟨h0,JcV hi e R R' _ hR h1,Jem hi z es R R' _ hR h2⟩
end
theorem Y1 {imm:Nat->Nat->Option Value}{R:Nat->Option Value}:∀(cs:List CV) (o:Nat),Jfl imm cs R o↔∀(t:Nat) c,cs[t]? = some c->∃r,R (o+t)=some r/\rel [] imm c r
 |[],o=>by simp[Jfl]
 |c::cs,o=>by
  simp only[Jfl,Y1 cs]
  constructor
  ·rintro⟨h1,h2⟩ t d hd
   cases t with
   |zero=>simp at hd;subst hd;simpa using h1
   |succ t=>simp at hd;have:=h2 t d hd;rw[show o+(t+1)=o+1+t by omega];exact this
  ·intro h;refine⟨by simpa using h 0 c rfl,λt d hd=>?_⟩;have:=h (t+1) d (by simpa using hd);rw[show o+(t+1)=o+1+t by omega]at this;exact this
theorem Qh {imm:Nat->Nat->Option Value}{R:Nat->Option Value}{z:Nat}:∀(els:List (List CV)) (o:Nat),XC imm z els R o↔
  ∀(j:Nat) e,els[j]? = some e->e.length=z/\∀(t:Nat) c,e[t]? = some c->∃r,R (o+j*z+t)=some r/\rel [] imm c r
 |[],o=>by simp[XC]
 |e::es,o=>by
  simp only[XC,Qh es,Y1]
  constructor
  ·rintro⟨h0,h1,h2⟩ j d hd
   cases j with
   |zero=>simp at hd;subst hd;simpa using ⟨h0,h1⟩
   |succ j=>simp at hd;have:=h2 j d hd;rw[show o+(j+1)*z=o+z+j*z by rw[Gf];omega];exact this
  ·intro h;have h0:=h 0 e rfl;refine⟨h0.1,by simpa using h0.2,λj d hd=>?_⟩;have:=h (j+1) d (by simpa using hd);rw[show o+(j+1)*z=o+z+j*z by rw[Gf];omega]at this;exact this
theorem XB {own:List Own}{imm:Nat->Nat->Option Value}:∀(l:List CV) (vs:List Value),JS own imm l vs↔l.length=vs.length/\∀(i:Nat) c v,l[i]? = some c->vs[i]? = some v->rel own imm c v
 |[],vs=>by
  cases vs <;> simp[JS]
 |c::cs,vs=>by
  cases vs with
  |nil=>simp[JS]
  |cons v vs=>
   simp only[JS,List.cons.injEq]
   constructor
   ·rintro⟨r,rs,⟨rfl,rfl⟩,h1,h2⟩;obtain⟨hl,h2⟩:=(XB cs vs).1 h2;refine⟨by simp[hl],λi d e hd he=>?_⟩
    cases i with
    |zero=>simp at hd he;subst hd;subst he;exact h1
    |succ i=>simp at hd he;exact h2 i d e hd he
   ·rintro⟨hl,h⟩;refine⟨v,vs,⟨rfl,rfl⟩,h 0 c v rfl rfl,(XB cs vs).2 ⟨by simpa using hl,λi d e hd he=>h (i+1) d e (by simpa using hd) (by simpa using he)⟩⟩
theorem JK {own:List Own}{imm:Nat->Nat->Option Value}{l:List CV}{vs:List Value}(h:JS own imm l vs):l.length=vs.length:=((XB _ _).1 h).1
theorem XW {own:List Own}{imm:Nat->Nat->Option Value}{l:List CV}{vs:List Value}(h:JS own imm l vs){i:Nat}{c:CV}(hc:l[i]? = some c):∃v,vs[i]? = some v/\rel own imm c v:=by
 obtain⟨hl,h⟩:=(XB _ _).1 h;have hi:i<vs.length:=hl▸(Gd.1 hc).1;exact⟨vs[i],Gg hi,h i c _ hc (Gg hi)⟩
theorem QQ {own:List Own}{imm:Nat->Nat->Option Value}{l l':List CV}{vs vs':List Value}(h:JS own imm l vs)(h':JS own imm l' vs'):JS own imm (l++l') (vs++vs'):=by
 induction l generalizing vs with
 |nil=>simp only[JS]at h;subst h;simpa using h'
 |cons c cs ih=>
  simp only[JS]at h;obtain⟨r,rs,rfl,h1,h2⟩:=h;simp only[La,JS];exact⟨r,rs++vs',rfl,h1,ih h2⟩
theorem rels_set {own:List Own}{imm:Nat->Nat->Option Value}{l:List CV}{vs:List Value}(h:JS own imm l vs)(i:Nat){c:CV}{v:Value}(hc:rel own imm c v):JS own imm (l.set i c) (vs.set i v):=by
 rw[XB]at h|-;refine⟨by simpa using h.1,λj d e hd he=>?_⟩;rw[Gl]at hd he
 split at hd
 ·rename_i Cw;subst Cw;rw[if_pos rfl]at he
  split at hd <;> simp at hd
  split at he <;> simp at he
  subst hd;subst he;exact hc
 ·rename_i Cw;rw[if_neg Cw]at he;exact h.2 j d e hd he
theorem Jcg {own:List Own}{imm:Nat->Nat->Option Value}{l:List CV}{vs:List Value}(h:JS own imm l vs)(n:Nat):JS own imm (l.take n) (vs.take n):=by
 rw[XB]at h|-;refine⟨by simp[h.1],λj d e hd he=>?_⟩;rw[G5]at hd he
 split at hd <;> simp_all
 exact h.2 j d e hd he
theorem Jch {own:List Own}{imm:Nat->Nat->Option Value}{l:List CV}{vs:List Value}(h:JS own imm l vs)(n:Nat):JS own imm (l.drop n) (vs.drop n):=by
 rw[XB]at h|-;refine⟨by simp[h.1],λj d e hd he=>?_⟩;rw[Gr]at hd he;exact h.2 _ d e hd he
inductive CObj where
 |arr (z:Nat) (els:List (List CV))
 |map (kvs:List (CV×CV))
 |dead
 |ext (s:Nat) (b:Bool)
 deriving Inhabited
def CObj.alive:CObj->Bool
 |.arr _ _=>true
 |.map _=>true
 |_=>false
def relO (own:List Own)(imm:Nat->Nat->Option Value)(z:Nat)(els:List (List CV))(R:Nat->Option Value)(o:Nat):Prop:=
 ∀(j:Nat) e,els[j]? = some e->e.length=z/\∀(t:Nat) c,e[t]? = some c->∃r,R (o+j*z+t)=some r/\rel own imm c r
def YK (own:List Own)(imm:Nat->Nat->Option Value)(x:Own)(o:CObj)(w:World):Prop:=
 match o with
 |.arr z els=>x.z=z/\∃c elem,w.heap[x.B]? = some (.cells c elem (0,0))/\c.size=x.n/\x.o+els.length*x.z<=x.n/\relO own imm x.z els (λi=>c[i]?) x.o/\∀(i:Nat) v,c[i]? = some v->v.oneCell'=true
 |.map kvs=>∃es clock,w.heap[x.B]? = some (.map es clock)/\kvs.length=es.size/\∀(i:Nat) k v e,kvs[i]? = some (k,v)->es[i]? = some e->rel own imm k e.key/\rel own imm v e.val
 |.dead=>True
 |.ext _ _=>True
theorem JaT {own own':List Own}{imm imm':Nat->Nat->Option Value}(ho:KN own own')(hi:Kw imm imm'){z:Nat}{els:List (List CV)}{R:Nat->Option Value}{o:Nat}(h:relO own imm z els R o):relO own' imm' z els R o:=
 λj e he=>⟨(h j e he).1,λt c hc=>let ⟨r,h1,h2⟩:=(h j e he).2 t c hc;⟨r,h1,Xg ho hi c r h2⟩⟩
theorem KD {own own':List Own}{imm imm':Nat->Nat->Option Value}(ho:KN own own')(hi:Kw imm imm'){x:Own}{o:CObj}{w w':World}(hw:o.alive=true->w'.heap[x.B]? = w.heap[x.B]?)(h:YK own imm x o w):YK own' imm' x o w':=by
 cases o with
 |arr z els=>
  obtain⟨hz,c,elem,h1,h2,h3,h4,h5⟩:=h;exact⟨hz,c,elem,(hw rfl).trans h1,h2,h3,JaT ho hi h4,h5⟩
 |map kvs=>
  obtain⟨es,clock,h1,h2,h3⟩:=h;exact⟨es,clock,(hw rfl).trans h1,h2,λi k v e hk he=>⟨Xg ho hi _ _ (h3 i k v e hk he).1,Xg ho hi _ _ (h3 i k v e hk he).2⟩⟩
 |dead=>trivial
 |ext s b=>trivial
structure Env where
 X:Nat->Bool->(Nat->Prop)->(Nat->Nat->Option Value)->World->Prop
 stable:∀s b bs imm imm' w w',X s b bs imm w->(∀B,bs B\/B<gN->w'.heap[B]? = w.heap[B]?)->w.heap.size<=w'.heap.size->Kw imm imm'->
  (∀B i v,imm' B i=some v->imm B i=some v\/¬bs B)->(∀B i v,imm' B i=some v->w'.cell? ⟨B,i,none⟩=some v)->(∀B i v,imm' B i=some v->v.oneCell'=true)->X s b bs imm' w'
def Env.none:Env:={ X:=λ_ _ _ _ _=>False,stable:=λ_ _ _ _ _ _ _ h=>h.elim }
structure Sim (E:Env)(m:Bk)(H:List CObj)(w:World):Prop where
 len:m.own.length=H.length
 obj:∀(k:Nat) o x,H[k]? = some o->m.own[k]? = some x->YK m.own m.imm x o w
 imm:∀B i v,m.imm B i=some v->w.cell? ⟨B,i,none⟩=some v
 one:∀B i v,m.imm B i=some v->v.oneCell'=true
 sep:∀(k k':Nat) o o' x x',H[k]? = some o->H[k']? = some o'->o.alive=true->o'.alive=true->m.own[k]? = some x->m.own[k']? = some x'->x.B=x'.B->k=k'
 ro:∀(k:Nat) o x,H[k]? = some o->o.alive=true->m.own[k]? = some x->∀i,x.o<=i->m.imm x.B i=none
 ext:∀(k:Nat) s b,H[k]? = some (.ext s b)->E.X s b m.ext m.imm w
 extsep:∀(k:Nat) o x,H[k]? = some o->o.alive=true->m.own[k]? = some x->¬(m.ext x.B\/x.B<gN)
 extlt:∀B,m.ext B\/B<gN->B<w.heap.size
 gl:GLw w/\∀B,m.ext B->¬B<gN
def owned (m:Bk)(H:List CObj)(B:Nat):Prop:=m.ext B\/∃(k:Nat) (o:CObj) (x:Own),H[k]? = some o/\o.alive=true/\m.own[k]? = some x/\x.B=B
structure Ext (n0:Nat)(m:Bk)(H:List CObj)(w:World)(m':Bk)(H':List CObj)(w':World):Prop where
 size:w.heap.size<=w'.heap.size
 frame:∀B,B<w.heap.size->¬owned m H B->w'.heap[B]? = w.heap[B]?
 imm:Kw m.imm m'.imm
 newOwn:∀B,owned m' H' B->owned m H B\/w.heap.size<=B
 newImm:∀B i v,m'.imm B i=some v->m.imm B i=some v\/owned m H B\/w.heap.size<=B
 base:∀(k:Nat) x,k<n0->m.own[k]? = some x->m'.own[k]? = some x
 long:n0<=m.own.length->n0<=m'.own.length
 same:w'.os=w.os/\w'.output=w.output/\w'.tape=w.tape
theorem Ext.refl (n0:Nat)(m:Bk)(H:List CObj)(w:World):Ext n0 m H w m H w:=
 ⟨Gi _,λ_ _ _=>rfl,Kw.refl _,λ_ h=>.inl h,λ_ _ _ h=>.inl h,λ_ _ _ h=>h,id,rfl,rfl,rfl⟩
theorem Ext.trans {n0:Nat}{m m1 m2:Bk}{H H1 H2:List CObj}{w w1 w2:World}(h:Ext n0 m H w m1 H1 w1)(k:Ext n0 m1 H1 w1 m2 H2 w2):Ext n0 m H w m2 H2 w2 where
 size:=GJ h.size k.size
 frame B hB hn:=by
  have h1:=h.frame B hB hn;have Ru:¬owned m1 H1 B:=λho=>by
   rcases h.newOwn B ho with h'|h'
   ·exact hn h'
   ·omega
  exact(k.frame B (Nat.lt_of_lt_of_le hB h.size) Ru).trans h1
 imm:=h.imm.trans k.imm
 newOwn B ho:=by
  rcases k.newOwn B ho with h'|h'
  ·exact h.newOwn B h'
  ·exact .inr (GJ h.size h')
 newImm B i v hv:=by
  rcases k.newImm B i v hv with h'|h'|h'
  ·exact h.newImm B i v h'
  ·exact .inr (h.newOwn B h')
  ·exact .inr (.inr (GJ h.size h'))
 base j x hj hx:=k.base j x hj (h.base j x hj hx)
 long hl:=k.long (h.long hl)
 same:=⟨k.same.1.trans h.same.1,k.same.2.1.trans h.same.2.1,k.same.2.2.trans h.same.2.2⟩
theorem dtT (a b:Nat)(h:a<b:=by omega):((a:Int)<(b:Int))=True:=eq_true (Li.2 h)
theorem dfF (a b:Nat)(h:¬a<b:=by omega):((a:Int)<(b:Int))=False:=eq_false (λe=>h (Li.1 e))
theorem iN7 {c:Prop}[Decidable c]{α:Sort _}{a b:α}(h:¬c:=by omega):(if c then a else b)=b:=if_neg h
theorem iP7 {c:Prop}[Decidable c]{α:Sort _}{a b:α}(h:c:=by omega):(if c then a else b)=a:=if_pos h
theorem anO {a b:Prop}(h:b)(h2:a:=by first|omega|exact⟨by omega,by omega⟩):a/\b:=⟨h2,h⟩
theorem cell?_congr {w w':World}{a:Addr}(h:w'.heap[a.block]? = w.heap[a.block]?):w'.cell? a=w.cell? a:=by
 simp only[World.cell?,h]
theorem Sim.congr {E:Env}{m:Bk}{H:List CObj}{w w':World}(hs:Sim E m H w)(h:w'.heap=w.heap):Sim E m H w' where
 len:=hs.len
 obj k o x hk hx:=KD (KN.refl _) (Kw.refl _) (λ_=>by rw[h]) (hs.obj k o x hk hx)
 imm B i v hv:=(cell?_congr (by rw[h])).trans (hs.imm B i v hv)
 one:=hs.one
 sep:=hs.sep
 ro:=hs.ro
 ext k s b hk:=E.stable _ _ _ _ _ _ _ (hs.ext k s b hk) (λB _=>by rw[h]) (by rw[h];exact Gi _) (Kw.refl _) (λB i v h=>.inl h) (λB i v hv=>(cell?_congr (by rw[h])).trans (hs.imm B i v hv)) hs.one
 extsep:=hs.extsep
 extlt B hB:=by rw[h];exact hs.extlt B hB
 gl:=⟨hs.gl.1.mono λB _=>by rw[h],hs.gl.2⟩
theorem Ext.congr {n0:Nat}{m:Bk}{H:List CObj}{w w':World}(h:w'.heap=w.heap)(hs:w'.os=w.os/\w'.output=w.output/\w'.tape=w.tape):Ext n0 m H w m H w' where
 size:=by rw[h];exact Gi _
 frame B hB hn:=by rw[h]
 imm:=Kw.refl _
 newOwn B h:=.inl h
 newImm B i v h:=.inl h
 base _ _ _ h:=h
 long:=id
 same:=hs
theorem Yf {E:Env}{m:Bk}{H:List CObj}{w:World}(hs:Sim E m H w){k:Nat}{o:CObj}{x:Own}(hk:H[k]? = some o)(ha:o.alive=true)(hx:m.own[k]? = some x):x.B<w.heap.size:=by
 have h:=hs.obj k o x hk hx
 cases o with
 |arr z els=>obtain⟨_,c,elem,h1,_⟩:=h;exact(GN.1 h1).1
 |map kvs=>obtain⟨es,clock,h1,_⟩:=h;exact(GN.1 h1).1
 |dead=>cases ha
 |ext s b=>cases ha
theorem JfW {E:Env}{m:Bk}{H:List CObj}{w:World}(hs:Sim E m H w){B i:Nat}{v:Value}(h:m.imm B i=some v):B<w.heap.size:=
 World.block_lt_of_cell? w _ (hs.imm B i v h)
theorem owned_lt {E:Env}{m:Bk}{H:List CObj}{w:World}(hs:Sim E m H w){B:Nat}(h:owned m H B):B<w.heap.size:=by
 rcases h with h|⟨k,o,x,hk,ha,hx,rfl⟩
 ·exact hs.extlt B (.inl h)
 ·exact Yf hs hk ha hx
theorem owned_gl {E:Env}{m:Bk}{H:List CObj}{w:World}(hs:Sim E m H w){B:Nat}(h:owned m H B):¬B<gN:=by
 rcases h with h|⟨k,o,x,hk,ha,hx,rfl⟩
 ·exact hs.gl.2 B h
 ·exact λhb=>hs.extsep k o x hk ha hx (.inr hb)
theorem Sim.alloc {E:Env}{m:Bk}{H:List CObj}{w w':World}(hs:Sim E m H w){ob:Obj}(hw:w'.heap=w.heap.push ob)(x:Own)(o:CObj)(hB:x.B=w.heap.size)
  (ho:o.alive=true->YK (m.own++[x]) m.imm x o w') (Ai:∀s b,o≠.ext s b):Sim E { m with own:=m.own++[x] } (H++[o]) w' where
 len:=by simp[hs.len]
 obj k o' x' hk hx:=by
  simp only at hx;by_cases Ab:k<H.length
  ·rw[Gc Ab]at hk;rw[Gc (by rw[hs.len];exact Ab)]at hx;refine KD (KN.append _ _) (Kw.refl _) (λha=>?_) (hs.obj k o' x' hk hx);have:=Yf hs hk ha hx;rw[hw,GA this,Gv this]
  ·have Du:k<(H++[o]).length:=(Gd.1 hk).1;have:k=H.length:=by simp at Du;omega
   subst this;simp at hk;rw[<-hs.len]at hx;simp at hx;obtain rfl:o'=o:=hk.symm;obtain rfl:x'=x:=hx.symm
   cases o' with
   |arr z els=>exact ho rfl
   |map kvs=>exact ho rfl
   |dead=>trivial
   |ext s b=>exact(Ai s b rfl).elim
 imm B i v hv:=by
  have Ab:=JfW hs hv;refine(cell?_congr ?_).trans (hs.imm B i v hv);rw[hw,GA Ab,Gv Ab]
 one:=hs.one
 sep k k' o1 o2 x1 x2 hk AA ha AX hx Aq he:=by
  simp only at hx Aq;have key:∀(k:Nat) o1 x1,(H++[o])[k]? = some o1->o1.alive=true->(m.own++[x])[k]? = some x1->(k<H.length/\x1.B<w.heap.size/\H[k]? = some o1/\m.own[k]? = some x1)\/(k=H.length/\x1.B=w.heap.size):=by
   intro k o1 x1 hk ha hx;by_cases Ab:k<H.length
   ·rw[Gc Ab]at hk;rw[Gc (by rw[hs.len];exact Ab)]at hx;exact .inl ⟨Ab,Yf hs hk ha hx,hk,hx⟩
   ·have Du:k<(H++[o]).length:=(Gd.1 hk).1;have:k=H.length:=by simp at Du;omega
    subst this;rw[<-hs.len]at hx;simp at hx;subst hx;exact .inr ⟨rfl,hB⟩
  rcases key k o1 x1 hk ha hx with ⟨_,h1,h2,h3⟩|⟨h1,h2⟩ <;> rcases key k' o2 x2 AA AX Aq with ⟨_,DI,FC,CP⟩|⟨DI,FC⟩
  ·exact hs.sep k k' o1 o2 x1 x2 h2 FC ha AX h3 CP he
  ·omega
  ·omega
  ·omega
 ro k o1 x1 hk ha hx i hi:=by
  simp only at hx|-;by_cases Ab:k<H.length
  ·rw[Gc Ab]at hk;rw[Gc (by rw[hs.len];exact Ab)]at hx;exact hs.ro k o1 x1 hk ha hx i hi
  ·have Du:k<(H++[o]).length:=(Gd.1 hk).1;have:k=H.length:=by simp at Du;omega
   subst this;rw[<-hs.len]at hx;simp at hx;subst hx;rw[hB]
   cases hv:m.imm w.heap.size i with
   |none=>rfl
   |some v=>have:=JfW hs hv;omega
 ext k s b hk:=by
  by_cases Ab:k<H.length
  ·rw[Gc Ab]at hk;refine E.stable _ _ _ _ _ _ _ (hs.ext k s b hk) (λB hB=>?_) (by rw[hw];simp) (Kw.refl _) (λB i v h=>.inl h) (λB i v hv=>?_) hs.one
   ·have:=hs.extlt B hB;rw[hw,GA this,Gv this]
   ·have Ab:=JfW hs hv;refine(cell?_congr ?_).trans (hs.imm B i v hv);rw[hw,GA Ab,Gv Ab]
  ·have Du:k<(H++[o]).length:=(Gd.1 hk).1;have:k=H.length:=by simp at Du;omega
   subst this;simp at hk;exact(Ai s b hk).elim
 extsep k o1 x1 hk ha hx:=by
  simp only at hx|-;by_cases Ab:k<H.length
  ·rw[Gc Ab]at hk;rw[Gc (by rw[hs.len];exact Ab)]at hx;exact hs.extsep k o1 x1 hk ha hx
  ·have Du:k<(H++[o]).length:=(Gd.1 hk).1;have:k=H.length:=by simp at Du;omega
   subst this;rw[<-hs.len]at hx;simp at hx;subst hx;rw[hB];exact λh=>by have:=hs.extlt _ h;omega
 extlt B hB:=by
  have:=hs.extlt B hB;rw[hw];simp;omega
 gl:=⟨hs.gl.1.mono λB hB=>by rw[hw,GA (hs.gl.1.lt hB),Gv (hs.gl.1.lt hB)],hs.gl.2⟩
theorem Ext.alloc {E:Env}{n0:Nat}{m:Bk}{H:List CObj}{w w':World}(hs:Sim E m H w){ob:Obj}(hw:w'.heap=w.heap.push ob)(AR:w'.os=w.os/\w'.output=w.output/\w'.tape=w.tape)(x:Own)(o:CObj)(hB:x.B=w.heap.size) :
  Ext n0 m H w { m with own:=m.own++[x] } (H++[o]) w' where
 size:=by rw[hw];simp
 frame B hB hn:=by rw[hw,GA hB,Gv hB]
 imm:=Kw.refl _
 newOwn B ho:=by
  rcases ho with h|⟨k,o1,x1,hk,ha,hx,rfl⟩
  ·exact .inl (.inl h)
  ·simp only at hx;by_cases Ab:k<H.length
   ·rw[Gc Ab]at hk;rw[Gc (by rw[hs.len];exact Ab)]at hx;exact .inl (.inr ⟨k,o1,x1,hk,ha,hx,rfl⟩)
   ·have Du:k<(H++[o]).length:=(Gd.1 hk).1;have:k=H.length:=by simp at Du;omega
    subst this;rw[<-hs.len]at hx;simp at hx;subst hx;exact .inr (by omega)
 newImm B i v h:=.inl h
 base k x1 hk hx:=by
  simp only;rw[Gc (Gd.1 hx).1];exact hx
 long h:=by simp;omega
 same:=AR
theorem Sim.put {E:Env}{m:Bk}{H:List CObj}{w w':World}(hs:Sim E m H w){k:Nat}{o o':CObj}{x:Own}(hk:H[k]? = some o)(ha:o.alive=true)(hx:m.own[k]? = some x)
  (BA:w'.heap.size=w.heap.size) (AU:∀B,B≠x.B->w'.heap[B]? = w.heap[B]?) (MF:∀i,i<x.o->w'.cell? ⟨x.B,i,none⟩=w.cell? ⟨x.B,i,none⟩)
  (ho:YK m.own m.imm x o' w') (Ai:∀s b,o'≠.ext s b):Sim E m (H.set k o') w' where
 len:=by simp[hs.len]
 obj j o1 x1 hj Be:=by
  rw[Gl]at hj
  split at hj
  ·rename_i e;subst e
   split at hj
   ·simp at hj;subst hj;rw[hx]at Be;cases Be;exact ho
   ·cases hj
  ·rename_i OE;refine KD (KN.refl _) (Kw.refl _) (λDf=>?_) (hs.obj j o1 x1 hj Be);exact AU _ λe=>OE (hs.sep k j o o1 x x1 hk hj ha Df hx Be e.symm)
 imm B i v hv:=by
  by_cases hB:B=x.B
  ·subst hB;by_cases hi:i<x.o
   ·exact(MF i hi).trans (hs.imm _ i v hv)
   ·have:=hs.ro k o x hk ha hx i (by omega);rw[this]at hv;cases hv
  ·exact(cell?_congr (AU B hB)).trans (hs.imm B i v hv)
 one:=hs.one
 sep j j' o1 o2 x1 x2 hj M4 Df Dl Be Bd he:=by
  have key:∀(j:Nat) o1,(H.set k o')[j]? = some o1->o1.alive=true->∃o2,H[j]? = some o2/\o2.alive=true:=by
   intro j o1 hj h1;rw[Gl]at hj
   split at hj
   ·rename_i e;subst e;exact⟨o,hk,ha⟩
   ·exact⟨o1,hj,h1⟩
  obtain⟨p,hp,CQ⟩:=key j o1 hj Df;obtain⟨q,hq,fA⟩:=key j' o2 M4 Dl;exact hs.sep j j' p q x1 x2 hp hq CQ fA Be Bd he
 ro j o1 x1 hj Df Be i hi:=by
  rw[Gl]at hj
  split at hj
  ·rename_i e;subst e;rw[hx]at Be;cases Be;exact hs.ro k o x hk ha hx i hi
  ·exact hs.ro j o1 x1 hj Df Be i hi
 ext j s b hj:=by
  rw[Gl]at hj
  split at hj
  ·split at hj
   ·simp at hj;exact(Ai s b hj).elim
   ·cases hj
  ·refine E.stable _ _ _ _ _ _ _ (hs.ext j s b hj) (λB hB=>AU B λe=>?_) (by omega) (Kw.refl _) (λB i v h=>.inl h) (λB i v hv=>?_) hs.one
   ·subst e;exact hs.extsep k o x hk ha hx hB
   ·by_cases hB:B=x.B
    ·subst hB;by_cases hi:i<x.o
     ·exact(MF i hi).trans (hs.imm _ i v hv)
     ·have:=hs.ro k o x hk ha hx i (by omega);rw[this]at hv;cases hv
    ·exact(cell?_congr (AU B hB)).trans (hs.imm B i v hv)
 extsep j o1 x1 hj Df Be:=by
  rw[Gl]at hj
  split at hj
  ·rename_i e;subst e;rw[hx]at Be;cases Be;exact hs.extsep k o x hk ha hx
  ·exact hs.extsep j o1 x1 hj Df Be
 extlt B hB:=by rw[BA];exact hs.extlt B hB
 gl:=⟨hs.gl.1.mono λB hB=>AU B λe=>hs.extsep k o x hk ha hx (.inr (e▸hB)),hs.gl.2⟩
theorem Ext.put {n0:Nat}{m:Bk}{H:List CObj}{w w':World}{k:Nat}{o o':CObj}{x:Own}(hk:H[k]? = some o)(ha:o.alive=true)(hx:m.own[k]? = some x)
  (BA:w'.heap.size=w.heap.size) (AU:∀B,B≠x.B->w'.heap[B]? = w.heap[B]?) (AR:w'.os=w.os/\w'.output=w.output/\w'.tape=w.tape) :
  Ext n0 m H w m (H.set k o') w' where
 size:=by omega
 frame B hB hn:=AU B λe=>hn (e▸.inr ⟨k,o,x,hk,ha,hx,rfl⟩)
 imm:=Kw.refl _
 newOwn B h:=by
  rcases h with h|⟨j,o1,x1,hj,Df,Be,rfl⟩
  ·exact .inl (.inl h)
  ·rw[Gl]at hj
   split at hj
   ·rename_i e;subst e;rw[hx]at Be;cases Be;exact .inl (.inr ⟨k,o,x,hk,ha,hx,rfl⟩)
   ·exact .inl (.inr ⟨j,o1,x1,hj,Df,Be,rfl⟩)
 newImm B i v h:=.inl h
 base _ _ _ h:=h
 long:=id
 same:=AR
theorem Sim.kill {E:Env}{m:Bk}{H:List CObj}{w:World}(hs:Sim E m H w)(k:Nat)(Ai:∀s b,H[k]?≠some (.ext s b)):Sim E m (H.set k .dead) w where
 len:=by simp[hs.len]
 obj j o1 x1 hj Be:=by
  rw[Gl]at hj
  split at hj
  ·split at hj
   ·simp at hj;subst hj;trivial
   ·cases hj
  ·exact hs.obj j o1 x1 hj Be
 imm:=hs.imm
 one:=hs.one
 sep j j' o1 o2 x1 x2 hj M4 Df Dl Be Bd he:=by
  have key:∀(j:Nat) o1,(H.set k .dead)[j]? = some o1->o1.alive=true->H[j]? = some o1:=by
   intro j o1 hj h1;rw[Gl]at hj
   split at hj
   ·split at hj
    ·simp at hj;subst hj;cases h1
    ·cases hj
   ·exact hj
  exact hs.sep j j' o1 o2 x1 x2 (key j o1 hj Df) (key j' o2 M4 Dl) Df Dl Be Bd he
 ro j o1 x1 hj Df Be i hi:=by
  rw[Gl]at hj
  split at hj
  ·split at hj
   ·simp at hj;subst hj;cases Df
   ·cases hj
  ·exact hs.ro j o1 x1 hj Df Be i hi
 ext j s b hj:=by
  rw[Gl]at hj
  split at hj
  ·split at hj
   ·simp at hj
   ·cases hj
  ·exact hs.ext j s b hj
 extsep j o1 x1 hj Df Be:=by
  rw[Gl]at hj
  split at hj
  ·split at hj
   ·simp at hj;subst hj;cases Df
   ·cases hj
  ·exact hs.extsep j o1 x1 hj Df Be
 extlt:=hs.extlt
 gl:=hs.gl
theorem owned_kill {m:Bk}{H:List CObj}{k B:Nat}(h:owned m (H.set k .dead) B):owned m H B:=by
 rcases h with h|⟨j,o1,x1,hj,Df,Be,rfl⟩
 ·exact .inl h
 ·rw[Gl]at hj
  split at hj
  ·split at hj
   ·simp at hj;subst hj;cases Df
   ·cases hj
  ·exact .inr ⟨j,o1,x1,hj,Df,Be,rfl⟩
theorem Ext.kill (n0:Nat)(m:Bk)(H:List CObj)(w:World)(k:Nat):Ext n0 m H w m (H.set k .dead) w:=
 ⟨Gi _,λ_ _ _=>rfl,Kw.refl _,λ_ h=>.inl (owned_kill h),λ_ _ _ h=>.inl h,λ_ _ _ h=>h,id,rfl,rfl,rfl⟩
inductive Cond where
 |tt
 |rng (k:IntKind) (n:Int)
 |idx (i:Int) (n:Nat)
 |ile (a b:Int)
 |le (a b:Nat)
 |nz (n:Int)
 |and (a b:Cond)
structure InR (k:IntKind)(n:Int):Prop where
 lo:k.min<=n
 hi:n<=k.max
def Cond.holds:Cond->Prop
 |.tt=>True
 |.rng k n=>InR k n
 |.idx i n=>0<=i/\i<n
 |.ile a b=>a<=b
 |.le a b=>a<=b
 |.nz n=>n≠0
 |.and a b=>a.holds/\b.holds
def Cond.check:Cond->Bool
 |.tt=>true
 |.rng k n=>decide (k.min<=n) && decide (n<=k.max)
 |.idx i n=>decide (0<=i) && decide (i<n)
 |.ile a b=>decide (a<=b)
 |.le a b=>Nat.ble a b
 |.nz n=>n != 0
 |.and a b=>a.check && b.check
inductive IArg where
 |s (n:Nat)
 |c (v:CV)
 deriving Inhabited
inductive TK where
 |bool|int|str|slice|map|ptr|func|other
 deriving DecidableEq,Inhabited
inductive IOp where
 |mv (a:IArg)
 |pick (c a b:IArg)
 |alloc (zero:List CV)
 |box (a:IArg)
 |build (zero:List CV) (parts:List (Nat×Nat×IArg))
 |bslice (z n:Nat) (zero:List CV) (parts:List (Nat×IArg))
 |load (agg:Bool) (n:Nat) (a:IArg)
 |store (n:Nat) (a v:IArg)
 |bin (op:BinOp) (tk:TK) (x y:IArg)
 |eqs (ks:List TK) (neg:Bool) (x y:IArg)
 |not (x:IArg)
 |neg (x:IArg)
 |conv (k:IntKind) (x:IArg)
 |mkfn (f:Nat) (first captured:List IArg)
 |mkmap
 |mkslice (z bytes:Nat) (zero:List CV) (l c:IArg)
 |slice (z:Nat) (x:IArg) (lo hi mx:Option IArg)
 |faddr (off:Nat) (x:IArg)
 |field (agg:Bool) (off n:Nat) (x:IArg)
 |iaddr (z:Nat) (x i:IArg)
 |indexS (x i:IArg)
 |lookup (tk:TK) (zero:CV) (ok:Bool) (m k:IArg)
 |mapset (tk:TK) (m k v:IArg)
 |len (tk:TK) (x:IArg)
 |append (z bytes:Nat) (s x:IArg)
 |clear (zero:List CV) (x:IArg)
 |extract (x:IArg) (i:Nat)
 |nchk (x:IArg)
 |sliceS (x:IArg) (lo hi:Option IArg)
 |mmx (big:Bool) (x y:IArg)
 |copy (z:Nat) (x y:IArg)
 |call (f:Nat) (args:List IArg)
 |callv (x:IArg) (args:List IArg)
 deriving Inhabited
structure IOper where
 dst:Option Nat
 op:IOp
 guard:Option (Nat×Bool)
 deriving Inhabited
inductive ICode where
 |skip
 |reg (ops:List IOper)
 |dreg (ops:List IOper) (edges:List (List Nat))
 |seq (a b:ICode)
 |cond (c:IArg) (a b:ICode)
 |block (id:Nat) (a:ICode)
 |loop (a:ICode)
 |rfunc (f:IArg) (ps:List Nat) (a b:ICode)
 |exit (id:Nat)
 |ret
 |bad
 deriving Inhabited
inductive RVar where
 |tmp (t:Nat)
 |cell (agg:Bool) (n t:Nat)
 deriving Inhabited
structure IFunc where
 body:ICode
 ntmps:Nat
 results:List RVar
 deriving Inhabited
def Ka (T:List CV):IArg->CV
 |.s n=>T.getD n .un
 |.c v=>v
def CV.cells:CV->Option (List CV)
 |.agg l=>some l
 |.un=>none
 |.tup _=>none
 |v=>some [v]
def CV.oneCell:CV->Bool
 |.un=>false
 |.agg _=>false
 |.tup _=>false
 |_=>true
def Q5:List CV->Bool
 |[]=>true
 |c::cs=>c.oneCell && Q5 cs
def splice (e:List CV)(off:Nat)(l:List CV):List CV:=e.take off++(l++e.drop (off+l.length))
def QE (T:List CV):List CV->List (Nat×Nat×IArg)->Option (List CV)
 |cells,[]=>some cells
 |cells,(off,n,x)::ps=>
  match (Ka T x).cells with
  |none=>none
  |some l=>if l.length=n/\off+n<=cells.length then QE T (splice cells off l) ps else none
def XQ (T:List CV)(z:Nat):List (List CV)->List (Nat×IArg)->Option (List (List CV))
 |els,[]=>some els
 |els,(i,x)::ps=>
  match (Ka T x).cells with
  |none=>none
  |some l=>if l.length=z/\i<els.length/\Q5 l=true then XQ T z (els.set i l) ps else none
def Jhr (H:List CObj)(z:Nat):CV->Option (List (List CV))
 |.nils=>some []
 |.slc id off len _=>match H[id]? with
  |some (.arr z' els)=>if z'=z/\off+len<=els.length then some ((els.drop off).take len) else none
  |_=>none
 |.rslc z' els _=>if z'=z then some els else none
 |.str s=>if z=1 then some (s.data.toList.map λb=>[.int .u8 b.toNat]) else none
 |_=>none
def YE (tk:TK)(x y:CV):Option Bool:=
 match tk with
 |.int=>match x,y with
  |.int j a,.int k b=>if j=k then some (a == b) else none
  |_,_=>none
 |.str=>match x,y with
  |.str a,.str b=>some (a == b)
  |_,_=>none
 |.bool=>match x,y with
  |.bool a,.bool b=>some (a == b)
  |_,_=>none
 |_=>none
def QL (tk:TK)(k:CV):List (CV×CV)->Nat->Option (Option (Nat×CV))
 |[],_=>some none
 |(k',v)::kvs,i=>match YE tk k k' with
  |some true=>some (some (i,v))
  |some false=>QL tk k kvs (i+1)
  |none=>none
def isKey (tk:TK)(k:CV):Bool:=
 match tk with
 |.int=>match k with
  |.int _ _=>true
  |_=>false
 |.str=>match k with
  |.str _=>true
  |_=>false
 |.bool=>match k with
  |.bool _=>true
  |_=>false
 |_=>false
def XU:List TK->List CV->List CV->Option Bool
 |[],[],[]=>some true
 |k::ks,a::as,b::bs=>match YE k a b with
  |some true=>XU ks as bs
  |some false=>some false
  |none=>none
 |_,_,_=>none
def binI (op:BinOp)(k:IntKind)(x y:Int):Option (Cond×CV):=
 match op with
 |.add=>some (.rng k (x+y),.int k (x+y))
 |.sub=>some (.rng k (x-y),.int k (x-y))
 |.mul=>some (.rng k (x*y),.int k (x*y))
 |.quo=>some (.and (.nz y) (.rng k (x.tdiv y)),.int k (x.tdiv y))
 |.rem=>some (.nz y,.int k (x.tmod y))
 |.eql=>some (.tt,.bool (x == y))
 |.neq=>some (.tt,.bool (x != y))
 |.lss=>some (.tt,.bool (decide (x<y)))
 |.leq=>some (.tt,.bool (decide (x<=y)))
 |.gtr=>some (.tt,.bool (decide (y<x)))
 |.geq=>some (.tt,.bool (decide (y<=x)))
 |.and=>some (.tt,.int k (k.wrap (GL k.bits x &&& GL k.bits y).toNat))
 |.or=>some (.tt,.int k (k.wrap (GL k.bits x ||| GL k.bits y).toNat))
 |.xor=>some (.tt,.int k (k.wrap (GL k.bits x ^^^ GL k.bits y).toNat))
 |.shl=>some (.ile 0 y,.int k (k.wrap (x*2 ^ (min y.toNat k.bits))))
 |.shr=>some (.ile 0 y,.int k (x.fdiv (2 ^ (min y.toNat k.bits))))
 |_=>none
def binK (op:BinOp)(k k':IntKind)(x y:Int):Option (Cond×CV):=
 if k=k' then binI op k x y else match op with
  |.shl=>binI .shl k x y
  |.shr=>binI .shr k x y
  |_=>none
def binS (op:BinOp)(x y:ByteArray):Option (Cond×CV):=
 match op with
 |.add=>some (.ile ((x.size+y.size:Nat):Int) 9223372036854775807,.str (x++y))
 |.eql=>some (.tt,.bool (x.toList == y.toList))
 |.neq=>some (.tt,.bool (!(x.toList == y.toList)))
 |.lss=>some (.tt,.bool (Op.bytesLess x.toList y.toList))
 |.leq=>some (.tt,.bool (Op.bytesLess x.toList y.toList || x.toList == y.toList))
 |.gtr=>some (.tt,.bool (!(Op.bytesLess x.toList y.toList || x.toList == y.toList)))
 |.geq=>some (.tt,.bool (!Op.bytesLess x.toList y.toList))
 |_=>none
def JbB (op:BinOp)(b:Bool):Option CV:=
 match op with
 |.eql=>some (.bool b)
 |.neq=>some (.bool !b)
 |_=>none
def exBin (op:BinOp)(tk:TK)(x y:CV):Option (Cond×CV):=
 match x,y with
 |.int k a,.int k' b=>binK op k k' a b
 |.str a,.str b=>binS op a b
 |.bool a,.bool b=>if tk=.bool then(JbB op (a == b)).map λv=>(.tt,v) else none
 |.nils,.nils=>if tk=.slice then(JbB op true).map λv=>(.tt,v) else none
 |.nils,.slc _ _ _ _=>if tk=.slice then(JbB op false).map λv=>(.tt,v) else none
 |.nils,.rslc _ (_::_) (some _)=>if tk=.slice then(JbB op false).map λv=>(.tt,v) else none
 |.slc _ _ _ _,.nils=>if tk=.slice then(JbB op false).map λv=>(.tt,v) else none
 |.rslc _ (_::_) (some _),.nils=>if tk=.slice then(JbB op false).map λv=>(.tt,v) else none
 |.nils,.rslc _ (_::_) none=>if tk=.slice then(JbB op false).map λv=>(.tt,v) else none
 |.rslc _ (_::_) none,.nils=>if tk=.slice then(JbB op false).map λv=>(.tt,v) else none
 |.nilp,.nilp=>if tk=.ptr then(JbB op true).map λv=>(.tt,v) else none
 |.nilp,.ptr _ _ _=>if tk=.ptr then(JbB op false).map λv=>(.tt,v) else none
 |.nilp,.rptr _=>if tk=.ptr then(JbB op false).map λv=>(.tt,v) else none
 |.ptr _ _ _,.nilp=>if tk=.ptr then(JbB op false).map λv=>(.tt,v) else none
 |.rptr _,.nilp=>if tk=.ptr then(JbB op false).map λv=>(.tt,v) else none
 |_,_=>none
def Ja6 (v:CV):Option Int:=
 match v with
 |.int _ n=>some n
 |_=>none
def XT (T:List CV)(d:Int):Option IArg->Option Int
 |none=>some d
 |some x=>Ja6 (Ka T x)
def exLen:CV->Option Nat
 |.nils=>some 0
 |.rslc _ els _=>some els.length
 |.slc _ _ len _=>some len
 |_=>none
def exHi (T:List CV)(x:CV):Option IArg->Option Int
 |some h=>Ja6 (Ka T h)
 |none=>match exLen x with
  |some n=>some (n:Int)
  |none=>none
def exMx (T:List CV):Option IArg->Option (Option Int)
 |some h=>(Ja6 (Ka T h)).map some
 |none=>some none
def XR (z:Nat)(H:List CObj)(x:CV)(lo hi:Int)(mx:Option Int):Option (Cond×CV):=
 match x with
 |.nils=>match mx with
  |none=>some (.and (.ile 0 lo) (.and (.ile lo hi) (.ile hi 0)),.nils)
  |some _=>none
 |.rslc z' els cap=>if z'=z then
   match mx with
   |none=>some (.and (.ile 0 lo) (.and (.ile lo hi) (.ile hi els.length)),.rslc z ((els.drop lo.toNat).take (hi.toNat-lo.toNat)) (cap.map (· - lo.toNat)))
   |some m=>some (.and (.ile 0 lo) (.and (.ile lo hi) (.and (.ile hi m) (.and (.ile hi els.length) (.ile m (cap.getD els.length))))),.rslc z ((els.drop lo.toNat).take (hi.toNat-lo.toNat)) (cap.map λ_=>m.toNat-lo.toNat))
  else none
 |.slc id off len cap=>match H[id]? with
  |some (.arr z' _)=>if z'=z then
   match mx with
   |none=>some (.and (.ile 0 lo) (.and (.ile lo hi) (.ile hi len)),.slc id (off+lo.toNat) (hi.toNat-lo.toNat) (cap.map (· - lo.toNat)))
   |some m=>some (.and (.ile 0 lo) (.and (.ile lo hi) (.and (.ile hi m) (.and (.ile hi len) (.ile m (cap.getD len))))),.slc id (off+lo.toNat) (hi.toNat-lo.toNat) (some (m.toNat-lo.toNat)))
   else none
  |_=>none
 |_=>none
def Jy (n bytes:Nat):Cond:=.and (.le n 140737488355328) (.le (n*bytes) 140737488355328)
def KU (z bytes:Nat)(H:List CObj)(s:CV)(xs:List (List CV)):Option (Cond×CV×List CObj):=
 match xs with
 |[]=>match s with
  |.nils=>some (.tt,s,H)
  |.slc _ _ _ _=>some (.tt,s,H)
  |.rslc _ _ _=>some (.tt,s,H)
  |_=>none
 |x0::xs'=>match s with
  |.nils=>some (Jy (x0::xs').length bytes,.slc H.length 0 (x0::xs').length none,H++[.arr z (x0::xs')])
  |.rslc z' els (some c)=>if z'=z then
    some (.and (.le (c+1) (els.length+(x0::xs').length)) (Jy (els.length+(x0::xs').length) bytes),.slc H.length 0 (els.length+(x0::xs').length) none,H++[.arr z (els++(x0::xs'))])
   else none
  |.slc id off len cap=>match H[id]? with
   |some (.arr z' els)=>if z'=z/\off+len=els.length then
     match cap with
     |none=>some (Jy (len+(x0::xs').length) bytes,.slc H.length 0 (len+(x0::xs').length) none,(H.set id .dead)++[.arr z (els.drop off++(x0::xs'))])
     |some c=>some (.and (.le (c+1) (len+(x0::xs').length)) (Jy (len+(x0::xs').length) bytes),.slc H.length 0 (len+(x0::xs').length) none,H++[.arr z (els.drop off++(x0::xs'))])
    else if z'=z/\off+len<=els.length/\cap=none then
     some (Jy (len+(x0::xs').length) bytes,.slc H.length 0 (len+(x0::xs').length) none,(H.set id .dead)++[.arr z ((els.take (off+len)).drop off++(x0::xs'))])
    else none
   |_=>none
  |_=>none
def exec (o:IOp)(T:List CV)(H:List CObj):Option (Cond×CV×List CObj):=
 match o with
 |.mv a=>some (.tt,Ka T a,H)
 |.pick c a b=>match Ka T c with
  |.bool true=>some (.tt,Ka T a,H)
  |.bool false=>some (.tt,Ka T b,H)
  |_=>none
 |.alloc zero=>some (.tt,.ptr H.length 0 0,H++[.arr zero.length [zero]])
 |.box a=>match (Ka T a).cells with
  |some l=>if Q5 l=true then some (.tt,.ptr H.length 0 0,H++[.arr l.length [l]]) else none
  |none=>none
 |.build zero parts=>match QE T zero parts with
  |some l=>some (.tt,.agg l,H)
  |none=>none
 |.bslice z n zero parts=>match XQ T z (Gs n zero) parts with
  |some els=>some (.tt,.slc H.length 0 n (some n),H++[.arr z els])
  |none=>none
 |.load ag n a=>match Ka T a with
  |.ptr id i off=>match H[id]? with
   |some (.arr _ els)=>if ag then some (.and (.le (i+1) els.length) (.le (off+n) (els.getD i []).length),.agg (((els.getD i []).drop off).take n),H)
    else some (.and (.le (i+1) els.length) (.le (off+1) (els.getD i []).length),(els.getD i []).getD off .un,H)
   |_=>none
  |.rptr cs=>if ag then some (.le n cs.length,.agg (cs.take n),H) else match cs with
   |c::_=>some (.tt,c,H)
   |[]=>none
  |_=>none
 |.store n a v=>match Ka T a,(Ka T v).cells with
  |.ptr id i off,some l=>match H[id]? with
   |some (.arr z els)=>if l.length=n/\Q5 l=true then
     some (.and (.le (i+1) els.length) (.le (off+n) (els.getD i []).length),.un,H.set id (.arr z (els.set i (splice (els.getD i []) off l))))
    else none
   |_=>none
  |_,_=>none
 |.bin op tk x y=>match exBin op tk (Ka T x) (Ka T y) with
  |some (c,v)=>some (c,v,H)
  |none=>none
 |.eqs ks ng x y=>match Ka T x,Ka T y with
  |.agg l,.agg l'=>match (if l.length=ks.length/\l'.length=ks.length then XU ks l l' else none) with
   |some b=>some (.tt,.bool (if ng then !b else b),H)
   |none=>none
  |_,_=>none
 |.not x=>match Ka T x with
  |.bool b=>some (.tt,.bool !b,H)
  |_=>none
 |.neg x=>match Ka T x with
  |.int k n=>some (.rng k (0-n),.int k (0-n),H)
  |_=>none
 |.conv k x=>match Ka T x with
  |.int _ n=>some (.rng k n,.int k n,H)
  |_=>none
 |.mkfn f l1 l2=>some (.tt,.fn f (l1.map (Ka T)) (l2.map (Ka T)),H)
 |.mkmap=>some (.tt,.map H.length,H++[.map []])
 |.mkslice z bytes zero l c=>match Ka T l,Ka T c with
  |.int .i64 l,.int .i64 c=>some (.and (.ile 0 l) (.and (.ile l c) (.and (.ile c 281474976710656) (.ile (bytes*c) 281474976710656))),.slc H.length 0 l.toNat (some c.toNat),H++[.arr z (Gs l.toNat zero)])
  |_,_=>none
 |.slice z x lo hi mx=>
  match XT T 0 lo,exHi T (Ka T x) hi,exMx T mx with
  |some l,some h,some m=>match XR z H (Ka T x) l h m with
   |some (c,v)=>some (c,v,H)
   |none=>none
  |_,_,_=>none
 |.faddr off x=>match Ka T x with
  |.ptr id i o=>some (.tt,.ptr id i (o+off),H)
  |.rptr cs=>some (.le off cs.length,.rptr (cs.drop off),H)
  |_=>none
 |.field ag off n x=>match Ka T x with
  |.agg l=>if ag then some (.le (off+n) l.length,.agg ((l.drop off).take n),H) else some (.le (off+1) l.length,l.getD off .un,H)
  |_=>none
 |.iaddr z x i=>match Ka T x,Ka T i with
  |.slc id off len _,.int _ n=>match H[id]? with
   |some (.arr z' _)=>if z'=z then some (.idx n len,.ptr id (off+n.toNat) 0,H) else none
   |_=>none
  |.rslc z' els _,.int _ n=>if z'=z then some (.idx n els.length,.rptr (els.getD n.toNat []),H) else none
  |_,_=>none
 |.indexS x i=>match Ka T x,Ka T i with
  |.str s,.int _ n=>some (.idx n s.size,.int .u8 ((s.data.getD n.toNat 0).toNat:Int),H)
  |_,_=>none
 |.lookup tk zero ok m k=>if isKey tk (Ka T k) then match Ka T m with
  |.nilm=>some (.tt,(if ok then .tup [zero,.bool false] else zero),H)
  |.map id=>match H[id]? with
   |some (.map kvs)=>match QL tk (Ka T k) kvs 0 with
    |some (some (_,v))=>some (.tt,(if ok then .tup [v,.bool true] else v),H)
    |some none=>some (.tt,(if ok then .tup [zero,.bool false] else zero),H)
    |none=>none
   |_=>none
  |_=>none else none
 |.mapset tk m k v=>if isKey tk (Ka T k) then match Ka T m with
  |.map id=>match H[id]? with
   |some (.map kvs)=>match QL tk (Ka T k) kvs 0 with
    |some (some (i,_))=>some (.tt,.un,H.set id (.map (kvs.set i (Ka T k,Ka T v))))
    |some none=>some (.tt,.un,H.set id (.map (kvs++[(Ka T k,Ka T v)])))
    |none=>none
   |_=>none
  |_=>none else none
 |.len tk x=>match Ka T x with
  |.str s=>if tk=.str then some (.tt,.int .i64 s.size,H) else none
  |.nils=>if tk=.slice then some (.tt,.int .i64 0,H) else none
  |.slc _ _ len _=>if tk=.slice then some (.tt,.int .i64 len,H) else none
  |.rslc _ els _=>if tk=.slice then some (.tt,.int .i64 els.length,H) else none
  |.nilm=>if tk=.map then some (.tt,.int .i64 0,H) else none
  |.map id=>match H[id]? with
   |some (.map kvs)=>if tk=.map then some (.tt,.int .i64 kvs.length,H) else none
   |_=>none
  |_=>none
 |.append z bytes s x=>match Jhr H z (Ka T x) with
  |some xs=>KU z bytes H (Ka T s) xs
  |none=>none
 |.clear zero x=>match Ka T x with
  |.nils=>some (.tt,.tup [],H)
  |.slc id off len _=>match H[id]? with
   |some (.arr z els)=>if zero.length=z/\Q5 zero=true then
     some (.le (off+len) els.length,.tup [],H.set id (.arr z (els.take off++(Gs len zero++els.drop (off+len)))))
    else none
   |_=>none
  |.rslc _ [] _=>some (.tt,.tup [],H)
  |_=>none
 |.extract x i=>match Ka T x with
  |.tup l=>if i<l.length then some (.tt,l.getD i .un,H) else none
  |_=>none
 |.nchk x=>match Ka T x with
  |.ptr id i o=>some (.tt,.ptr id i o,H)
  |.rptr cs=>some (.tt,.rptr cs,H)
  |.fn f l1 l2=>some (.tt,.fn f l1 l2,H)
  |_=>none
 |.sliceS x lo hi=>match Ka T x with
  |.str s=>match XT T 0 lo,XT T s.size hi with
   |some l,some h=>some (.and (.ile 0 l) (.and (.ile l h) (.ile h s.size)),.str (s.extract l.toNat h.toNat),H)
   |_,_=>none
  |_=>none
 |.mmx big x y=>match Ka T x,Ka T y with
  |.int k a,.int k' b=>if k=k' then some (.tt,.int k (if big then(if b > a then b else a) else(if b<a then b else a)),H) else none
  |_,_=>none
 |.copy z x y=>match Jhr H z (Ka T y) with
  |none=>none
  |some xs=>match Ka T x with
   |.nils=>some (.tt,.int .i64 0,H)
   |.slc id off len _=>match H[id]? with
    |some (.arr z' els)=>if z'=z then
      some (.le (off+len) els.length,.int .i64 (min xs.length len:Nat),H.set id (.arr z (els.take off++(xs.take (min xs.length len)++els.drop (off+min xs.length len)))))
     else none
    |_=>none
   |.rslc _ [] _=>some (.tt,.int .i64 0,H)
   |_=>none
 |.call _ _=>none
 |.callv _ _=>none
def ofCell:Value->Option CV
 |.bool b=>some (.bool b)
 |.int k n=>some (.int k n)
 |.string s=>some (.str s)
 |.pointer none=>some .nilp
 |.slice none 0 0=>some .nils
 |.map none=>some .nilm
 |.nilFunc=>some .nilf
 |.nilIface=>some .nili
 |_=>none
def JaZ:List Value->Option (List CV)
 |[]=>some []
 |v::vs=>match ofCell v,JaZ vs with
  |some c,some cs=>some (c::cs)
  |_,_=>none
def ofVal:Value->Option CV
 |.agg cs=>(JaZ cs.toList).map .agg
 |v=>ofCell v
def JD:Operand->Option IArg
 |.tmp t=>some (.s t)
 |.const v=>(ofVal v).map .c
 |.func f=>some (.c (.fn f [] []))
 |.global _=>none
def JaE:List Operand->Option (List IArg)
 |[]=>some []
 |x::xs=>match JD x,JaE xs with
  |some a,some as=>some (a::as)
  |_,_=>none
def JeD:TypeDesc->Bool
 |.struct _=>true
 |.array _ _=>true
 |_=>false
def zeroOf (P:Program)(t:TypeId):Option (List CV):=
 match P.info? t with
 |some i=>match i.zero with
  |some v=>match JaZ v.cells.toList with
   |some l=>if l.length=i.size/\Q5 l=true then some l else none
   |none=>none
  |none=>none
 |none=>none
def zeroVal (P:Program)(t:TypeId):Option CV:=
 match P.info? t with
 |some i=>match i.zero with
  |some v=>ofVal v
  |none=>none
 |none=>none
def Jdi (P:Program)(t:TypeId):Option Nat:=(P.info? t).map (·.size)
def Jbh (P:Program)(t:TypeId):Option Bool:=(P.underlying t).map JeD
def JcT (P:Program):List Field->Option (List (Nat×Nat))
 |[]=>some []
 |f::fs=>match Jdi P f.type,JcT P fs with
  |some n,some l=>some ((f.offset,n)::l)
  |_,_=>none
def partsOf (places:List (Nat×Nat)):List (Nat×Operand)->Option (List (Nat×Nat×IArg))
 |[]=>some []
 |(i,x)::ps=>match places[i]?,JD x,partsOf places ps with
  |some (off,n),some a,some l=>some ((off,n,a)::l)
  |_,_,_=>none
def Jbn:List (Nat×Operand)->Option (List (Nat×IArg))
 |[]=>some []
 |(i,x)::ps=>match JD x,Jbn ps with
  |some a,some l=>some ((i,a)::l)
  |_,_=>none
def Xr:TypeDesc->TK
 |.bool=>.bool
 |.int _=>.int
 |.string=>.str
 |.slice _=>.slice
 |.map _ _=>.map
 |.pointer _=>.ptr
 |.func _ _ _=>.func
 |_=>.other
def JbY (P:Program)(rc:TypeId->Option (List TK)):List Field->Nat->Option (List TK)
 |[],_=>some []
 |f::fs,off=>
  if f.name = "_" \/f.offset≠off then none else
  match rc f.type with
  |some ks=>if Jdi P f.type=some ks.length/\ks≠[] then(JbY P rc fs (off+ks.length)).map (ks ++ ·) else none
  |none=>none
def Xe (P:Program):Nat->TypeId->Option (List TK)
 |0,_=>none
 |d+1,t=>
  match P.underlying t with
  |some .bool=>some [.bool]
  |some (.int _)=>some [.int]
  |some .string=>some [.str]
  |some (.struct fs)=>if P.stoodInHeld t then none else JbY P (Xe P d) fs.toList 0
  |_=>none
def Y8 (P:Program)(d:Nat)(fs:List Field)(off:Nat):Option (List TK):=JbY P (Xe P d) fs off
theorem Jfo {P:Program}{d off:Nat}:Y8 P d [] off=some []:=rfl
theorem JeP {P:Program}{d off:Nat}{f:Field}{fs:List Field}:Y8 P d (f::fs) off =
  if f.name = "_" \/f.offset≠off then none else
  match Xe P d f.type with
  |some ks=>if Jdi P f.type=some ks.length/\ks≠[] then(Y8 P d fs (off+ks.length)).map (ks ++ ·) else none
  |none=>none:=rfl
def QR:Option Operand->Option (Option IArg)
 |none=>some none
 |some x=>(JD x).map some
def XJ (P:Program)(o:Op):Option IOp:=
 match o with
 |.move x=>(JD x).map .mv
 |.assign x=>(JD x).map .mv
 |.pick c a b=>match JD c,JD a,JD b with
  |some c,some a,some b=>some (.pick c a b)
  |_,_,_=>none
 |.alloc t=>(zeroOf P t).map .alloc
 |.box _ x=>(JD x).map .box
 |.build t ps=>match zeroOf P t,P.underlying t with
  |some z,some (.struct fs)=>match JcT P fs.toList with
   |some places=>(partsOf places ps.toList).map (.build z)
   |none=>none
  |some z,some (.array n e)=>match Jdi P e with
   |some k=>(partsOf ((GX n).map λi=>(i*k,k)) ps.toList).map (.build z)
   |none=>none
  |_,_=>none
 |.buildSlice t n ps=>match P.underlying t with
  |some (.slice e)=>match zeroOf P e,Jbn ps.toList with
   |some z,some l=>if z.length≠0/\n*z.length<=2 ^ 24 then some (.bslice z.length n z l) else none
   |_,_=>none
  |_=>none
 |.load t a=>match Jbh P t,Jdi P t,JD a with
  |some ag,some n,some a=>some (.load ag n a)
  |_,_,_=>none
 |.store t a v=>match Jdi P t,JD a,JD v with
  |some n,some a,some v=>some (.store n a v)
  |_,_,_=>none
 |.binOp op t x y _=>match P.underlying t,JD x,JD y with
  |some (.struct _),some x,some y=>match Xe P 50 t with
   |some ks=>if P.eqGuardType P.depth t then none else
     (match op with | .eql=>some (.eqs ks false x y) | .neq=>some (.eqs ks true x y)|_=>none)
   |none=>none
  |some d,some x,some y=>some (.bin op (Xr d) x y)
  |_,_,_=>none
 |.unOp .not _ x=>(JD x).map .not
 |.unOp .neg _ x=>(JD x).map .neg
 |.convert s d x=>match P.underlying s,P.underlying d,JD x with
  |some (.int _),some (.int k),some x=>some (.conv k x)
  |_,_,_=>none
 |.makeFunc (.func f) l1 l2=>match JaE l1.toList,JaE l2.toList with
  |some a,some b=>some (.mkfn f a b)
  |_,_=>none
 |.makeMap _ none=>some .mkmap
 |.makeSlice t l c=>match P.underlying t with
  |some (.slice e)=>match zeroOf P e,P.info? e,JD l,JD c with
   |some z,some i,some l,some c=>if z.length≠0 then some (.mkslice z.length i.bytes z l c) else none
   |_,_,_,_=>none
  |_=>none
 |.slice t x lo hi mx=>match P.underlying t with
  |some (.slice e)=>match Jdi P e,JD x,QR lo,QR hi,QR mx with
   |some z,some x,some lo,some hi,some mx=>if hi.isNone && mx.isSome then none else some (.slice z x lo hi mx)
   |_,_,_,_,_=>none
  |some .string=>match JD x,QR lo,QR hi,mx with
   |some x,some lo,some hi,none=>some (.sliceS x lo hi)
   |_,_,_,_=>none
  |_=>none
 |.fieldAddr t x f=>match P.underlying t with
  |some (.struct fs)=>match fs[f]? with
   |some fd=>match Jdi P fd.type,JD x with
    |some n,some x=>if n≠0 then some (.faddr fd.offset x) else none
    |_,_=>none
   |none=>none
  |_=>none
 |.field t x f=>match P.underlying t with
  |some (.struct fs)=>match fs[f]? with
   |some fd=>match Jdi P fd.type,Jbh P fd.type,JD x with
    |some n,some ag,some x=>some (.field ag fd.offset n x)
    |_,_,_=>none
   |none=>none
  |_=>none
 |.indexAddr t x i=>match P.underlying t with
  |some (.slice e)=>match Jdi P e,JD x,JD i with
   |some z,some x,some i=>some (.iaddr z x i)
   |_,_,_=>none
  |_=>none
 |.index t x i=>match P.underlying t with
  |some .string=>match JD x,JD i with
   |some x,some i=>some (.indexS x i)
   |_,_=>none
  |_=>none
 |.lookup t m k ok=>match P.underlying t with
  |some (.map kt e)=>match P.underlying kt,zeroVal P e,JD m,JD k with
   |some d,some z,some m,some k=>if Xr d=.int\/Xr d=.str\/Xr d=.bool then some (.lookup (Xr d) z ok m k) else none
   |_,_,_,_=>none
  |_=>none
 |.mapUpdate t m k v=>match P.underlying t with
  |some (.map kt _)=>match P.underlying kt,JD m,JD k,JD v with
   |some d,some m,some k,some v=>if Xr d=.int\/Xr d=.str\/Xr d=.bool then some (.mapset (Xr d) m k v) else none
   |_,_,_,_=>none
  |_=>none
 |.insert t m k v=>match P.underlying t with
  |some (.map kt _)=>match P.underlying kt,JD m,JD k,JD v with
   |some d,some m,some k,some v=>if Xr d=.int\/Xr d=.str\/Xr d=.bool then some (.mapset (Xr d) m k v) else none
   |_,_,_,_=>none
  |_=>none
 |.nilCheck x=>(JD x).map .nchk
 |.extract x i=>(JD x).map λa=>.extract a i
 |.call c=>match c.callee with
  |.value (.func f)=>match P.funcs[f]? with
   |some fn=>if fn.body.isSome && fn.name != "runtime.NumGoroutine" then(JaE c.args.toList).map (.call f) else none
   |none=>none
  |.value x=>match JD x,JaE c.args.toList with
   |some x,some l=>some (.callv x l)
   |_,_=>none
  |.builtin .len=>match c.argTypes.toList,c.args.toList with
   |[t],[x]=>match P.underlying t with
    |some d=>(JD x).map (.len (Xr d))
    |none=>none
   |_,_=>none
  |.builtin .append=>match c.argTypes.toList,c.args.toList with
   |[t,u],[s,x]=>match P.underlying t,P.underlying u with
    |some (.slice e),some (.slice _)=>match zeroOf P e,P.info? e,JD s,JD x with
     |some z,some i,some s,some x=>if z.length≠0 then some (.append z.length i.bytes s x) else none
     |_,_,_,_=>none
    |some (.slice e),some .string=>match zeroOf P e,P.info? e,JD s,JD x with
     |some z,some i,some s,some x=>if z.length≠0 then some (.append z.length i.bytes s x) else none
     |_,_,_,_=>none
    |_,_=>none
   |_,_=>none
  |.builtin .max=>match c.args.toList with
   |[x,y]=>match JD x,JD y with
    |some x,some y=>some (.mmx true x y)
    |_,_=>none
   |_=>none
  |.builtin .min=>match c.args.toList with
   |[x,y]=>match JD x,JD y with
    |some x,some y=>some (.mmx false x y)
    |_,_=>none
   |_=>none
  |.builtin .copy=>match c.argTypes.toList,c.args.toList with
   |[t,_],[x,y]=>match P.underlying t with
    |some (.slice e)=>match zeroOf P e,JD x,JD y with
     |some z,some x,some y=>if z.length≠0 then some (.copy z.length x y) else none
     |_,_,_=>none
    |_=>none
   |_,_=>none
  |.builtin .clear=>match c.argTypes.toList,c.args.toList with
   |[t],[x]=>match P.underlying t with
    |some (.slice e)=>match zeroOf P e,JD x with
     |some z,some x=>some (.clear z x)
     |_,_=>none
    |_=>none
   |_,_=>none
  |_=>none
 |_=>none
def Ja7 (o:Oper):List Nat:=(o.after.toList.filter λe=>Region.binds .any e).map (·.on)
def XI (P:Program)(ops:Array Oper)(o:Oper):Option IOper:=
 match XJ P o.op with
 |none=>none
 |some i=>match o.guard with
  |none=>some ⟨o.dst,i,none⟩
  |some (j,want)=>match (ops[j]?).bind (·.dst) with
   |some d=>some ⟨o.dst,i,some (d,want)⟩
   |none=>none
def Yw (P:Program)(ops:Array Oper):List Oper->Option (List IOper)
 |[]=>some []
 |o::os=>match XI P ops o,Yw P ops os with
  |some i,some is=>some (i::is)
  |_,_=>none
def JC (P:Program):Code->Option ICode
 |.skip=>some .skip
 |.region _ ops dr=>match Yw P ops ops.toList with
  |some is=>if dr then some (.dreg is (ops.toList.map Ja7)) else some (.reg is)
  |none=>some .bad
 |.seq a b=>match JC P a,JC P b with
  |some a,some b=>some (.seq a b)
  |_,_=>none
 |.cond c a b=>match JD c,JC P a,JC P b with
  |some c,some a,some b=>some (.cond c a b)
  |_,_,_=>some .bad
 |.block id a=>match JC P a with
  |some a=>some (.block id a)
  |none=>none
 |.loop a=>match JC P a with
  |some a=>some (.loop a)
  |none=>none
 |.rangeFunc f ps a b=>match JD f,JC P a,JC P b with
  |some f,some a,some b=>some (.rfunc f ps.toList a b)
  |_,_,_=>some .bad
 |.exit id=>some (.exit id)
 |.ret=>some .ret
 |_=>some .bad
def Jai (P:Program):List ResultVar->Option (List RVar)
 |[]=>some []
 |.tmp t::l=>match Jai P l with
  |some ts=>some (.tmp t::ts)
  |none=>none
 |.cell a t::l=>match Jbh P t,Jdi P t,Jai P l with
  |some ag,some n,some ts=>some (.cell ag n a::ts)
  |_,_,_=>none
def Je (P:Program)(f:Nat):Option IFunc:=
 match P.funcs[f]? with
 |some fn=>match fn.body with
  |some c=>match JC P c,Jai P fn.results.toList with
   |some ic,some ts=>some ⟨ic,fn.ntmps,ts⟩
   |_,_=>none
  |none=>none
 |none=>none
@[reducible] def Zo (d : Nat)(x : IOp) : IOper := ⟨some d, x, none⟩
@[reducible] def Zg (d : Nat)(x : IOp)(g : Nat)(b : Bool) : IOper := ⟨some d, x, some (g, b)⟩
@[reducible] def Zm (d a : Nat) : IOper := ⟨some d, .mv (.s a), none⟩
@[reducible] def Zx (d a g : Nat)(b : Bool) : IOper := ⟨some d, .mv (.s a), some (g, b)⟩
@[reducible] def Zl (d a : Nat) : IOper := ⟨some d, .load false 1 (.s a), none⟩
@[reducible] def Zk (d n a : Nat) : IOper := ⟨some d, .load true n (.s a), none⟩
@[reducible] def Za (d i a : Nat) : IOper := ⟨some d, .faddr i (.s a), none⟩
@[reducible] def Zq (d a : Nat)(k : Int) : IOper := ⟨some d, .bin .eql .int (.s a) (.c (.int .u8 k)), none⟩
@[reducible] def Zi (d z a i : Nat) : IOper := ⟨some d, .iaddr z (.s a) (.s i), none⟩
@[reducible] def Zz (d a : Nat) : IOper := ⟨some d, .len .slice (.s a), none⟩
@[reducible] def Zc (k : Int) : IArg := .c (.int .i64 k)
@[reducible] def Zu (k : Int) : IArg := .c (.int .u8 k)
@[reducible] def Zb (o : BinOp)(d a b : Nat) : IOper := ⟨some d, .bin o .int (.s a) (.s b), none⟩
@[reducible] def Zh (o : BinOp)(d a : Nat)(k : Int) : IOper := ⟨some d, .bin o .int (.s a) (.c (.int .i64 k)), none⟩
@[reducible] def Zv (o : BinOp)(d a : Nat)(k : Int) : IOper := ⟨some d, .bin o .int (.s a) (.c (.int .u8 k)), none⟩
@[reducible] def Zd (d c a : Nat) : IOper := ⟨some d, .pick (.s c) (.s a) (.c (.bool false)), none⟩
@[reducible] def Ze (d c a : Nat) : IOper := ⟨some d, .pick (.s c) (.c (.bool true)) (.s a), none⟩
@[reducible] def Zt (d : Nat)(b : Bool) : IOper := ⟨some d, .mv (.c (.bool b)), none⟩
@[reducible] def Zn (d : Nat)(k : Int) : IOper := ⟨some d, .mv (.c (.int .i64 k)), none⟩
@[reducible] def Zw (d a : Nat) : IOper := ⟨some d, .not (.s a), none⟩
@[reducible] def Zj (d a i : Nat) : IOper := ⟨some d, .extract (.s a) i, none⟩
@[reducible] def Zf (d i a g : Nat)(b : Bool) : IOper := ⟨some d, .faddr i (.s a), some (g, b)⟩
@[reducible] def Zy (d a g : Nat)(b : Bool) : IOper := ⟨some d, .load false 1 (.s a), some (g, b)⟩
@[reducible] def ZN (d f : Nat) : IOper := ⟨some d, .call f [], none⟩
@[reducible] def Zp (d f a : Nat) : IOper := ⟨some d, .call f [.s a], none⟩
@[reducible] def Zr (d f a b : Nat) : IOper := ⟨some d, .call f [.s a, .s b], none⟩
@[reducible] def ZR (d f a b c : Nat) : IOper := ⟨some d, .call f [.s a, .s b, .s c], none⟩
@[reducible] def ZV (d f a : Nat)(x : UInt8) : IOper := ⟨some d, .call f [.s a, .c (.str ⟨#[x]⟩)], none⟩
@[reducible] def ZP (d x y a : Nat) : IOper := ⟨some d, .bslice x y [.int .i64 0] [(0, .s a)], none⟩
@[reducible] def ZE (d x y a b : Nat) : IOper := ⟨some d, .append x y (.s a) (.s b), none⟩
@[reducible] def ZK (d : Nat) : IOper := ⟨some d, .alloc [.int .u8 0, .str ⟨#[]⟩, .int .i64 0, .nils, .int .i64 0], none⟩
@[reducible] def ZX (d a : Nat) : IOper := ⟨some d, .box (.s a), none⟩
@[reducible] def ZY (d a : Nat) : IOper := ⟨some d, .nchk (.s a), none⟩
@[reducible] def ZM (d : Nat) : IOper := ⟨some d, .mv (.c .nils), none⟩
@[reducible] def ZF (d a : Nat) : IOper := ⟨some d, .len .str (.s a), none⟩
@[reducible] def ZL (d n a g : Nat)(b : Bool) : IOper := ⟨some d, .load true n (.s a), some (g, b)⟩
@[reducible] def ZI (d z a i g : Nat)(b : Bool) : IOper := ⟨some d, .iaddr z (.s a) (.s i), some (g, b)⟩
@[reducible] def ZC (d f a g : Nat)(b : Bool) : IOper := ⟨some d, .call f [.s a], some (g, b)⟩
@[reducible] def ZW (d f a c g : Nat)(b : Bool) : IOper := ⟨some d, .call f [.s a, .s c], some (g, b)⟩
@[reducible] def ZZ (d a g : Nat)(b : Bool) : IOper := ⟨some d, .len .slice (.s a), some (g, b)⟩
@[reducible] def ZB (o : BinOp)(d a c g : Nat)(b : Bool) : IOper := ⟨some d, .bin o .int (.s a) (.s c), some (g, b)⟩
@[reducible] def ZH (o : BinOp)(d a : Nat)(k : Int)(g : Nat)(b : Bool) : IOper := ⟨some d, .bin o .int (.s a) (.c (.int .i64 k)), some (g, b)⟩
@[reducible] def ZU (o : BinOp)(d a : Nat)(k : Int)(g : Nat)(b : Bool) : IOper := ⟨some d, .bin o .int (.s a) (.c (.int .u8 k)), some (g, b)⟩
@[reducible] def ZT (z a b : Nat) : IOper := ⟨none, .store z (.s a) (.s b), none⟩
@[reducible] def ZQ (n : Nat)(a b : ICode) : ICode := .cond (.s n) a b
@[reducible] def Zs (l : List IOper)(x : ICode) : ICode := .seq (.reg l) x
section
theorem JfK {own:List Own}{imm:Nat->Nat->Option Value}:∀(v:Value) (c:CV),ofCell v=some c->rel own imm c v:=by
 intro v c h;unfold ofCell at h
 split at h <;> (try cases h) <;> simp[rel]
theorem JbU {own:List Own}{imm:Nat->Nat->Option Value}:∀(vs:List Value) (cs:List CV),JaZ vs=some cs->JS own imm cs vs
 |[],cs,h=>by simp[JaZ]at h;subst h;simp[JS]
 |v::vs,cs,h=>by
  simp only[JaZ]at h
  split at h
  ·rename_i c cs' h1 h2
   cases h
   simp only[JS];exact⟨v,vs,rfl,JfK v c h1,JbU vs cs' h2⟩
  ·cases h
theorem ofVal_rel {own:List Own}{imm:Nat->Nat->Option Value}(v:Value)(c:CV)(h:ofVal v=some c):rel own imm c v:=by
 unfold ofVal at h
 split at h
 ·rename_i cs
  cases h1:JaZ cs.toList with
  |none=>simp[h1]at h
  |some l=>simp[h1]at h;subst h;simp only[rel];exact⟨cs,rfl,JbU _ _ h1⟩
 ·exact JfK v c h
theorem getD_rel {own:List Own}{imm:Nat->Nat->Option Value}{T:List CV}{tmps:Array Value}(h:JS own imm T tmps.toList)(t:Nat):rel own imm (T.getD t .un) (tmps.getD t undef):=by
 have hl:=JK h;by_cases ht:t<T.length
 ·obtain⟨v,hv,hr⟩:=XW h (Gg ht);have e1:T.getD t .un=T[t]:=by simp[Gp,Gg ht]
  have e2:tmps.getD t undef=v:=by
   have:tmps[t]? = some v:=by simpa using hv
   simp[this]
  rw[e1,e2];exact hr
 ·have e1:T.getD t .un=.un:=by simp[Gp,GU (Nat.le_of_not_lt ht)]
  rw[e1];simp[rel]
theorem JJ {own:List Own}{imm:Nat->Nat->Option Value}{T:List CV}{a:Act}(h:JS own imm T a.tmps.toList){x:Operand}{i:IArg}(hx:JD x=some i):rel own imm (Ka T i) (a.eval x):=by
 cases x with
 |tmp t=>simp[JD]at hx;subst hx;exact getD_rel h t
 |const v=>
  simp only[JD]at hx
  cases hv:ofVal v with
  |none=>simp[hv]at hx
  |some c=>simp[hv]at hx;subst hx;exact ofVal_rel v c hv
 |global g=>simp[JD]at hx
 |func f=>simp[JD]at hx;subst hx;simp[Ka,rel,Act.eval,JS]
theorem Jby {own:List Own}{imm:Nat->Nat->Option Value}{T:List CV}{a:Act}(h:JS own imm T a.tmps.toList):∀{xs:List Operand}{is:List IArg},JaE xs=some is->JS own imm (is.map (Ka T)) (xs.map a.eval)
 |[],is,hx=>by simp[JaE]at hx;subst hx;simp[JS]
 |x::xs,is,hx=>by
  simp only[JaE]at hx
  split at hx
  ·rename_i b bs h1 h2
   cases hx
   simp only[G7,JS];exact⟨_,_,rfl,JJ h h1,Jby h h2⟩
  ·cases hx
theorem Jbf {own:List Own}{imm:Nat->Nat->Option Value}{c:CV}{v:Value}{l:List CV}(h:rel own imm c v)(hc:c.cells=some l):JS own imm l v.cells.toList:=by
 cases c <;> simp[CV.cells]at hc <;> (try subst hc) <;> (try (simp only[rel]at h))
 case agg l'=>obtain⟨vs,rfl,h⟩:=h;simpa [Value.cells]using h
 case bool=>subst h;simp[Value.cells,JS,rel]
 case int=>subst h;simp[Value.cells,JS,rel]
 case str=>subst h;simp[Value.cells,JS,rel]
 case nilp=>subst h;simp[Value.cells,JS,rel]
 case ptr=>obtain⟨x,hx,rfl⟩:=h;simp[Value.cells,JS,rel,hx]
 case rptr=>obtain⟨B,o,rfl,h⟩:=h;simp only[Value.cells,JS,rel];exact⟨_,[],by simp,⟨B,o,rfl,h⟩,rfl⟩
 case nils=>subst h;simp[Value.cells,JS,rel]
 case slc=>obtain⟨x,a,c,hx,rfl,h⟩:=h;simp only[Value.cells,JS,rel];exact⟨_,[],by simp,⟨x,a,c,hx,rfl,h⟩,rfl⟩
 case rslc=>
  rcases h with ⟨h1,h2,b,rfl⟩|⟨B,o,c,rfl,h⟩
  ·simp only[Value.cells,JS,rel];exact⟨_,[],by simp,.inl ⟨h1,h2,b,rfl⟩,rfl⟩
  ·simp only[Value.cells,JS,rel];exact⟨_,[],by simp,.inr ⟨B,o,c,rfl,h⟩,rfl⟩
 case nilm=>subst h;simp[Value.cells,JS,rel]
 case map=>obtain⟨x,hx,rfl⟩:=h;simp[Value.cells,JS,rel,hx]
 case fn=>obtain⟨v1,v2,rfl,h⟩:=h;simp only[Value.cells,JS,rel];exact⟨_,[],by simp,⟨v1,v2,rfl,h⟩,rfl⟩
 case yld=>subst h;simp[Value.cells,JS,rel]
 case nilf=>subst h;simp[Value.cells,JS,rel]
 case iface=>obtain⟨r,rfl,h⟩:=h;simp only[Value.cells,JS,rel];exact⟨_,[],by simp,⟨r,rfl,h⟩,rfl⟩
 case nili=>subst h;simp[Value.cells,JS,rel]
theorem oneCell_rel {own:List Own}{imm:Nat->Nat->Option Value}{c:CV}{v:Value}(h:rel own imm c v)(hc:c.oneCell=true):v.oneCell'=true:=by
 cases c <;> simp[CV.oneCell]at hc <;> simp only[rel]at h
 case bool=>subst h;rfl
 case int=>subst h;rfl
 case str=>subst h;rfl
 case nilp=>subst h;rfl
 case ptr=>obtain⟨x,hx,rfl⟩:=h;rfl
 case rptr=>obtain⟨B,o,rfl,h⟩:=h;rfl
 case nils=>subst h;rfl
 case slc=>obtain⟨x,a,c,hx,rfl,h⟩:=h;rfl
 case rslc=>rcases h with ⟨_,_,b,rfl⟩|⟨B,o,c,rfl,h⟩ <;> rfl
 case nilm=>subst h;rfl
 case map=>obtain⟨x,hx,rfl⟩:=h;rfl
 case fn=>obtain⟨v1,v2,rfl,h⟩:=h;rfl
 case yld=>subst h;rfl
 case nilf=>subst h;rfl
 case iface=>obtain⟨r,rfl,h⟩:=h;rfl
 case nili=>subst h;rfl
theorem Ym {own:List Own}{imm:Nat->Nat->Option Value}:∀{l:List CV}{vs:List Value},JS own imm l vs->Q5 l=true->∀v∈vs,v.oneCell'=true
 |[],vs,h,_,v,hv=>by simp[JS]at h;subst h;cases hv
 |c::cs,vs,h,ha,v,hv=>by
  simp only[JS]at h;obtain⟨r,rs,rfl,h1,h2⟩:=h;simp[Q5]at ha
  cases hv with
  |head=>exact oneCell_rel h1 ha.1
  |tail _ hv=>exact Ym h2 ha.2 v hv
def Good (P:Program)(E:Env)(n0:Nat)(m:Bk)(H:List CObj)(w:World)(s:Sem Next)(v:CV)(H':List CObj):Prop:=
 ∃m' w' r nx,s.run P w=.ok nx w'/\(nx=.value r\/(nx=.skip/\r=undef))/\Ext n0 m H w m' H' w'/\Sim E m' H' w'/\rel m'.own m'.imm v r/\KN m.own m'.own
section
variable {P:Program}{E:Env}{n0:Nat}{m:Bk}{H:List CObj}{w:World}{s:Sem Next}{v:CV}
theorem Jr {r:Value}(hs:Sim E m H w)(h:s.run P w=.ok (.value r) w)(hr:rel m.own m.imm v r):Good P E n0 m H w s v H:=
 ⟨m,w,r,_,h,.inl rfl,Ext.refl _ _ _ _,hs,hr,KN.refl _⟩
theorem JfY {r:Value}{ob:Obj}{x:Own}{o:CObj}(hs:Sim E m H w)(h:s.run P w=.ok (.value r) (w.alloc ob))(hB:x.B=w.heap.size)
  (ho:o.alive=true->YK (m.own++[x]) m.imm x o (w.alloc ob)) (Ai:∀s b,o≠.ext s b) (hr:rel (m.own++[x]) m.imm v r):Good P E n0 m H w s v (H++[o]):=
 ⟨{ m with own:=m.own++[x] },w.alloc ob,r,_,h,.inl rfl,Ext.alloc (w':=w.alloc ob) hs rfl ⟨rfl,rfl,rfl⟩ x o hB,hs.alloc (w':=w.alloc ob) rfl x o hB ho Ai,hr,KN.append _ _⟩
theorem good_row {r:Value}{cells:Array Value}{elem:TypeId}{z:Nat}{els:List (List CV)}(hs:Sim E m H w)(h:s.run P w=.ok (.value r) (w.alloc (.cells cells elem)))
  (hz:els.length*z<=cells.size) (hc:relO m.own m.imm z els (λi=>cells[i]?) 0) (h1:∀(i:Nat) v,cells[i]? = some v->v.oneCell'=true) (hr:rel (m.own++[⟨w.heap.size,0,cells.size,z⟩]) m.imm v r):Good P E n0 m H w s v (H++[.arr z els]):=by
 refine JfY (x:=⟨w.heap.size,0,cells.size,z⟩) (o:=.arr z els) hs h rfl (λ_=>?_) (by intro s b h;cases h) hr;refine⟨rfl,cells,elem,heap_alloc_new w _,rfl,by simpa using hz,?_,h1⟩;exact JaT (KN.append _ _) (Kw.refl _) hc
theorem last_own (hs:Sim E m H w)(x:Own):(m.own++[x])[H.length]? = some x:=by rw[<-hs.len];simp
end
theorem relO_one {own:List Own}{imm:Nat->Nat->Option Value}{l:List CV}{cells:Array Value}(h:JS own imm l cells.toList):relO own imm l.length [l] (λi=>cells[i]?) 0:=by
 intro j e he
 cases j with
 |succ j=>simp at he
 |zero=>
  simp at he;subst he;refine⟨rfl,λt c hc=>?_⟩;obtain⟨v,hv,hr⟩:=XW h hc;exact⟨v,by simpa using hv,hr⟩
theorem relO_flat {own:List Own}{imm:Nat->Nat->Option Value}{z:Nat}:∀(els:List (List CV)) (o:Nat) (R:Nat->Option Value),(∀e∈els,e.length=z)->(∀(i:Nat) c,els.flatten[i]? = some c->∃r,R (o+i)=some r/\rel own imm c r)->relO own imm z els R o
 |[],_,_,_,_=>by intro j e he;simp at he
 |e::es,o,R,hz,h=>by
  have he:e.length=z:=hz e (by simp);have ih:=relO_flat es (o+z) R (λx hx=>hz x (by simp[hx])) (λi c hc=>by
   have:=h (z+i) c (by simp only[GV];rw[Gm (by omega),he];simpa using hc);rw[show o+z+i=o+(z+i) by omega];exact this)
  intro j d hd
  cases j with
  |zero=>
   simp at hd;subst hd;refine⟨he,λt c hc=>?_⟩;have:=h t c (by simp only[GV];rw[Gc (Gd.1 hc).1];exact hc);simpa using this
  |succ j=>
   simp at hd;have:=ih j d hd;rw[show o+(j+1)*z=o+z+j*z by rw[Gf];omega];exact this
theorem flat_relO {own:List Own}{imm:Nat->Nat->Option Value}{z:Nat}:∀(els:List (List CV)) (o:Nat) (R:Nat->Option Value),relO own imm z els R o->(∀e∈els,e.length=z)/\(∀(i:Nat) c,els.flatten[i]? = some c->∃r,R (o+i)=some r/\rel own imm c r)
 |[],_,_,_=>by simp
 |e::es,o,R,h=>by
  have h0:=h 0 e rfl;have ih:=flat_relO es (o+z) R (λj d hd=>by
   have:=h (j+1) d (by simpa using hd);rw[show o+(j+1)*z=o+z+j*z by rw[Gf];omega]at this;exact this)
  refine⟨λx hx=>?_,λi c hc=>?_⟩
  ·cases hx with
   |head=>exact h0.1
   |tail _ hx=>exact ih.1 x hx
  ·simp only[GV]at hc;by_cases hi:i<e.length
   ·rw[Gc hi]at hc;simpa using h0.2 i c hc
   ·rw[Gm (by omega)]at hc;have:=ih.2 (i-e.length) c hc;rw[h0.1]at this hi;rw[show o+z+(i-z)=o+i by omega]at this;exact this
theorem JbL {z:Nat}:∀(els:List (List CV)),(∀e∈els,e.length=z)->els.flatten.length=els.length*z
 |[],_=>by simp
 |e::es,h=>by
  simp only[GV,Gj,Hm];rw[JbL es (λx hx=>h x (by simp[hx])),h e (by simp),Gf];omega
theorem YJ {P:Program}{w:World}{t:TypeId}{l:List CV}(h:zeroOf P t=some l):∃i zv,P.info? t=some i/\i.zero=some zv/\(zeroValue t).run P w=.ok zv w/\(∀own imm,JS own imm l zv.cells.toList)/\l.length=i.size/\Q5 l=true:=by
 unfold zeroOf at h
 cases hi:P.info? t with
 |none=>simp[hi]at h
 |some i=>
  simp only[hi]at h
  cases hz:i.zero with
  |none=>simp[hz]at h
  |some zv=>
   simp only[hz]at h
   cases hc:JaZ zv.cells.toList with
   |none=>simp[hc]at h
   |some l'=>
    simp only[hc]at h
    split at h
    ·rename_i Ad
     cases h
     exact⟨i,zv,rfl,hz,by simp[zeroValue,typeInfo,hi,hz],λown imm=>JbU _ _ hc,Ad.1,Ad.2⟩
    ·cases h
theorem Jdk {P:Program}{w:World}{t:TypeId}{n:Nat}(h:Jdi P t=some n):(sizeOf t).run P w=.ok n w:=by
 unfold Jdi at h
 cases hi:P.info? t with
 |none=>simp[hi]at h
 |some i=>simp[hi]at h;subst h;simp[sizeOf,typeInfo,hi]
theorem JbQ {P:Program}{w:World}{t:TypeId}{b:Bool}(h:Jbh P t=some b):(isAgg t).run P w=.ok b w:=by
 unfold Jbh at h
 cases hi:P.underlying t with
 |none=>simp[hi]at h
 |some d=>simp[hi]at h;subst h;cases d <;> simp[isAgg,underlying,hi,JeD]
theorem InR.wrap {k:IntKind}{n:Int}(h:InR k n):k.wrap n=n:=by
 have h1:=h.lo;have h2:=h.hi
 cases k <;> simp[IntKind.min,IntKind.max,IntKind.signed,IntKind.bits]at h1 h2 <;> simp[IntKind.wrap,IntKind.signed,IntKind.bits] <;> (try split) <;> omega
theorem addr_add (B o n:Nat):(⟨B,o,none⟩:Addr).add n=⟨B,o+n,none⟩:=by unfold Addr.add;split <;> simp_all
end
section
section
variable {P:Program}{E:Env}{n0:Nat}{m:Bk}{H H':List CObj}{w:World}{T:List CV}{a:Act}{c:Cond}{v:CV}{o:Oper}
structure Pre (E:Env)(n0:Nat)(m:Bk)(H:List CObj)(w:World)(T:List CV)(a:Act):Prop where
 sim:Sim E m H w
 tmps:JS m.own m.imm T a.tmps.toList
 long:n0<=H.length
theorem snd_mv {x:Operand}{i:IArg}(ho:o.op=.move x\/o.op=.assign x)(hx:JD x=some i)(he:exec (.mv i) T H=some (c,v,H'))(hp:Pre E n0 m H w T a):Good P E n0 m H w (execOp a.eval o) v H':=by
 simp only[exec,Ga,Gb]at he;obtain⟨_,rfl,rfl⟩:=he;refine Jr (r:=a.eval x) hp.sim ?_ (JJ hp.tmps hx);rcases ho with ho|ho <;> simp[execOp,ho]
theorem snd_pick {x y z:Operand}{i j k:IArg}(ho:o.op=.pick x y z)(hx:JD x=some i)(hy:JD y=some j)(hz:JD z=some k)(he:exec (.pick i j k) T H=some (c,v,H'))(hp:Pre E n0 m H w T a):Good P E n0 m H w (execOp a.eval o) v H':=by
 have h1:=JJ hp.tmps hx;have h2:=JJ hp.tmps hy;have h3:=JJ hp.tmps hz;simp only[exec]at he
 split at he
 ·rename_i e;rw[e]at h1;simp only[rel]at h1;simp only[Ga,Gb]at he;obtain⟨_,rfl,rfl⟩:=he;exact Jr (r:=a.eval y) hp.sim (by simp[execOp,ho,h1,asBool]) h2
 ·rename_i e;rw[e]at h1;simp only[rel]at h1;simp only[Ga,Gb]at he;obtain⟨_,rfl,rfl⟩:=he;exact Jr (r:=a.eval z) hp.sim (by simp[execOp,ho,h1,asBool]) h3
 ·cases he
theorem Jep (hs:Sim E m H w)(x:Own):(m.own++[x])[H.length]? = some x:=last_own hs x
theorem snd_alloc {t:TypeId}{z:List CV}(ho:o.op=.alloc t)(hz:zeroOf P t=some z)(he:exec (.alloc z) T H=some (c,v,H'))(hp:Pre E n0 m H w T a):Good P E n0 m H w (execOp a.eval o) v H':=by
 simp only[exec,Ga,Gb]at he;obtain⟨_,rfl,rfl⟩:=he;obtain⟨i,zv,_,_,Ag,Ao,Ad,Mi⟩:=YJ (w:=w) hz;have hr:=Ao m.own m.imm;refine good_row (r:=.pointer (some ⟨w.heap.size,0,none⟩)) (cells:=zv.cells) (elem:=t) hp.sim ?_ ?_ (relO_one hr) (λi v hv=>Ym hr Mi v (Ha.2 (GQ hv))) ?_
 ·simp[execOp,ho,Instr.alloc,Ag,newVar,newRow]
 ·have:=JK hr;simp at this;simp[this]
 ·simp only[rel];exact⟨_,Jep hp.sim _,by simp⟩
theorem snd_box {t:TypeId}{x:Operand}{i:IArg}(ho:o.op=.box t x)(hx:JD x=some i)(he:exec (.box i) T H=some (c,v,H'))(hp:Pre E n0 m H w T a):Good P E n0 m H w (execOp a.eval o) v H':=by
 have h1:=JJ hp.tmps hx;simp only[exec]at he
 split at he
 ·rename_i l hl
  split at he
  ·rename_i jc;simp only[Ga,Gb]at he;obtain⟨_,rfl,rfl⟩:=he;have hr:=Jbf h1 hl;refine good_row (r:=.pointer (some ⟨w.heap.size,0,none⟩)) (cells:=(a.eval x).cells) (elem:=t) hp.sim ?_ ?_ (relO_one hr) (λi v hv=>Ym hr jc v (Ha.2 (GQ hv))) ?_
   ·simp[execOp,ho,Instr.box,newVar,newRow]
   ·have:=JK hr;simp at this;simp[this]
   ·simp only[rel];exact⟨_,Jep hp.sim _,by simp⟩
  ·cases he
 ·cases he
theorem Jdl {t:TypeId}{ag:Bool}{n:Nat}{B o':Nat}{vs:List Value}(BN:Jbh P t=some ag)(hn:Jdi P t=some n)
  (hc:∀(j:Nat) v,(vs.take n)[j]? = some v->w.cell? ⟨B,o' + j,none⟩=some v) (Ad:n<=vs.length) (h1:ag=false->1<=vs.length) (DI:ag=false->∀v,vs[0]? = some v->w.cell? ⟨B,o',none⟩=some v) :
  (loadVar t ⟨B,o',none⟩).run P w=.ok (if ag then .agg (vs.take n).toArray else vs.headD undef) w:=by
 unfold loadVar
 cases ag with
 |true=>
  have hl:=run_loadCells_list (P:=P) w ⟨B,o',none⟩ (vs.take n) (λj v hv=>by rw[addr_add];exact hc j v hv);have:(vs.take n).length=n:=by simp;omega
  rw[this]at hl;simp[JbQ BN,Jdk hn,hl]
 |false=>
  have h2:=h1 rfl
  cases vs with
  |nil=>simp at h2
  |cons v vs=>
   have:=DI rfl v rfl;simp[JbQ BN,this]
theorem rel_taken {own:List Own}{imm:Nat->Nat->Option Value}{e:List CV}{off n:Nat}{R:Nat->Option Value}{b:Nat}(h:∀(t:Nat) c,e[t]? = some c->∃r,R (b+t)=some r/\rel own imm c r)(hn:off+n<=e.length) :
  ∃vs:List Value,vs.length=n/\JS own imm ((e.drop off).take n) vs/\∀(j:Nat) v,vs[j]? = some v->R (b+off+j)=some v:=by
 induction n generalizing off with
 |zero=>exact⟨[],rfl,by simp[JS],λj v hv=>by simp at hv⟩
 |succ n ih=>
  obtain⟨vs,hl,hr,hR⟩:=ih (off:=off+1) (by omega);have Ab:off<e.length:=by omega
  obtain⟨r,Rf,Ao⟩:=h off e[off] (Gg Ab);refine⟨r::vs,by simp[hl],?_,λj v hv=>?_⟩
  ·rw[He Ab];simp only[H6,JS];exact⟨r,vs,rfl,Ao,hr⟩
  ·cases j with
   |zero=>simp at hv;subst hv;simpa using Rf
   |succ j=>simp at hv;have:=hR j v hv;rw[show b+off+(j+1)=b+(off+1)+j by omega];exact this
theorem rel_weak {own:List Own}{imm:Nat->Nat->Option Value}{c:CV}{v:Value}(h:rel [] imm c v):rel own imm c v:=Xg (KN.nil _) (Kw.refl _) c v h
theorem load_val {t:TypeId}{x:Operand}{i:IArg}{ag:Bool}{n:Nat}(BN:Jbh P t=some ag)(hn:Jdi P t=some n)(hx:JD x=some i)(he:exec (.load ag n i) T H=some (c,v,H'))(hc:c.holds)(hp:Pre E n0 m H w T a) :
  H'=H/\∃ad r,a.eval x=.pointer (some ad)/\(loadVar t ad).run P w=.ok r w/\rel m.own m.imm v r:=by
 have h1:=JJ hp.tmps hx;simp only[exec]at he
 split at he
 ·rename_i id i' off e;rw[e]at h1;simp only[rel]at h1;obtain⟨x',Aq,hv⟩:=h1
  split at he
  ·rename_i z els hH;obtain⟨hz,cells,elem,hb,BA,A9,AB,BQ⟩:=hp.sim.obj id _ x' hH Aq;have key:∀k,i' + 1<=els.length/\off+k<=(els.getD i' []).length->∃vs:List Value,vs.length=k/\JS m.own m.imm (((els.getD i' []).drop off).take k) vs/\∀(j:Nat) v,vs[j]? = some v->w.cell? ⟨x'.B,x'.o+i' * x'.z+off+j,none⟩=some v:=by
    rintro k ⟨Du,Av⟩;have Ba:els[i']? = some (els.getD i' []):=by simp[Gp,Gg (show i' < els.length by omega)]
    obtain⟨_,Eo⟩:=AB i' _ Ba;obtain⟨vs,hl,hr,hR⟩:=rel_taken Eo Av;exact⟨vs,hl,hr,λj v hv=>by simp[World.cell?,hb,hR j v hv]⟩
   cases ag with
   |true=>
    simp only[if_true,Ga,Gb]at he;obtain⟨rfl,rfl,rfl⟩:=he;obtain⟨vs,hl,hr,hR⟩:=key n hc;have:=Jdl (w:=w) (B:=x'.B) (o':=x'.o+i' * x'.z+off) (vs:=vs) BN hn (λj v hv=>hR j v (by rw[GR (by omega)]at hv;exact hv)) (by omega) (by simp) (by simp);refine⟨rfl,_,_,hv,this,?_⟩;simp only[if_true,rel];have et:vs.take n=vs:=GR (by omega);exact⟨_,rfl,by rw[et];exact hr⟩
   |false=>
    simp only[Gu,if_false,Ga,Gb]at he;obtain⟨rfl,rfl,rfl⟩:=he;obtain⟨vs,hl,hr,hR⟩:=key 1 hc;obtain⟨v0,rfl⟩:∃v0,vs=[v0]:=by
     cases vs with
     |nil=>simp at hl
     |cons v0 vs=>cases vs with
      |nil=>exact⟨v0,rfl⟩
      |cons _ _=>simp at hl
    have h0:=hR 0 v0 rfl;refine⟨rfl,_,v0,hv,?_,?_⟩
    ·rw[GK]at h0;simp only[loadVar,Sem.run_bind,JbQ BN,Result.andThen_ok,Gu,if_false,run_load,h0]
    ·have Ab:off<(els.getD i' []).length:=hc.2;rw[He Ab]at hr;simp only[H6,Ho,JS]at hr;obtain⟨r,rs,e1,hr,_⟩:=hr
     cases e1
     have:(els.getD i' []).getD off .un=(els.getD i' [])[off]:=by
      generalize els.getD i' []=e0 at Ab;simp only[Gp,Gg Ab,GM]
     rw[this];exact hr
  ·cases he
 ·rename_i cs e;rw[e]at h1;simp only[rel]at h1;obtain⟨B,o',hv,hat⟩:=h1;have Sa:=(Y1 _ _).1 hat
  cases ag with
  |true=>
   simp only[if_true,Ga,Gb]at he;obtain⟨rfl,rfl,rfl⟩:=he;obtain⟨vs,hl,hr,hR⟩:=rel_taken (off:=0) (n:=n) (b:=o') Sa (by simpa [Cond.holds]using hc);have:=Jdl (w:=w) (B:=B) (o':=o') (vs:=vs) BN hn (λj v hv=>hp.sim.imm _ _ _ (by have:=hR j v (by rw[GR (by omega)]at hv;exact hv);rw[GK]at this;exact this)) (by omega) (by simp) (by simp);refine⟨rfl,_,_,hv,this,?_⟩;simp only[if_true,rel];refine⟨_,rfl,?_⟩;have et:vs.take n=vs:=GR (by omega);rw[et];rw[List.drop_zero]at hr;exact KM (KN.nil _) (Kw.refl _) _ _ hr
  |false=>
   simp only[Gu,if_false]at he
   split at he
   ·rename_i c0 cs';simp only[Ga,Gb]at he;obtain⟨rfl,rfl,rfl⟩:=he;obtain⟨r,hr,Ao⟩:=Sa 0 _ rfl;have h0:=hp.sim.imm B o' r (by simpa using hr);exact⟨rfl,_,r,hv,by simp only[loadVar,Sem.run_bind,JbQ BN,Result.andThen_ok,Gu,if_false,run_load,h0],rel_weak Ao⟩
   ·cases he
 ·cases he
theorem snd_load {t:TypeId}{x:Operand}{i:IArg}{ag:Bool}{n:Nat}(ho:o.op=.load t x)(BN:Jbh P t=some ag)(hn:Jdi P t=some n)(hx:JD x=some i)(he:exec (.load ag n i) T H=some (c,v,H'))(hc:c.holds)(hp:Pre E n0 m H w T a) :
  Good P E n0 m H w (execOp a.eval o) v H':=by
 obtain⟨rfl,ad,r,hv,hr,Ao⟩:=load_val BN hn hx he hc hp;exact Jr hp.sim (by simp[execOp,ho,Instr.loadAt,hv,Instr.sureAddr,hr]) Ao
theorem spliced {own:List Own}{imm:Nat->Nat->Option Value}{z i off base:Nat}{els:List (List CV)}{cells:Array Value}{l:List CV}{vs:List Value}
  (h:relO own imm z els (λi=>cells[i]?) base) (hi:i<els.length) (IC:off+l.length<=(els.getD i []).length) (hr:JS own imm l vs) (hb:base+els.length*z<=cells.size) :
  relO own imm z (els.set i (splice (els.getD i []) off l)) (λj=>(cells.toList.take (base+i*z+off)++vs++cells.toList.drop (base+i*z+off+vs.length)).toArray[j]?) base:=by
 have Ad:=JK hr;have Ba:els[i]? = some (els.getD i []):=by simp[Gp,Gg hi]
 have hz:(els.getD i []).length=z:=(h i _ Ba).1;have Dq:(i+1)*z<=els.length*z:=Gh z hi;rw[Gf,Gt]at Dq;have rd:∀p,(cells.toList.take (base+i*z+off)++vs++cells.toList.drop (base+i*z+off+vs.length)).toArray[p]? =
   if base+i*z+off<=p/\p<base+i*z+off+vs.length then vs[p-(base+i*z+off)]? else cells[p]?:=by
  intro p;simp only[GD];have hA:(cells.toList.take (base+i*z+off)).length=base+i*z+off:=by simp only[Gn,Gw];omega
  by_cases h1:p<base+i*z+off
  ·rw[Gz,Gc (by omega),Gq h1,iN7];simp
  ·by_cases h2:p<base+i*z+off+vs.length
   ·rw[Gc (by simp only[Gn,Gj,Gw];omega),Gm (by omega),hA,if_pos ⟨by omega,h2⟩]
   ·rw[Gm (by simp only[Gn,Gj,Gw];omega),iN7,Gr];simp only[Gj,hA];rw[show base+i*z+off+vs.length+(p-(base+i*z+off+vs.length))=p by omega];simp
 intro j e he;rw[Gl]at he
 split at he
 ·rename_i Cw;subst Cw;obtain rfl:splice (els.getD i []) off l=e:=by simpa using he
  have DU:(splice (els.getD i []) off l).length=z:=by simp only[splice,Gj,Gn,G6];omega
  refine⟨DU,λt c hc=>?_⟩;have ht:t<z:=DU▸(Gd.1 hc).1;show ∃r,(_:Array Value)[base+i*z+t]? = some r/\_;rw[rd];simp only[splice]at hc;by_cases h1:t<off
  ·rw[iN7];rw[Gc (by simp only[Gn];omega),Gq h1]at hc;exact(h i _ Ba).2 t c hc
  ·by_cases h2:t<off+l.length
   ·rw[iP7];rw[Gm (by simp only[Gn];omega)]at hc;have e1:((els.getD i []).take off).length=off:=by simp only[Gn];omega
    rw[e1,Gc (by omega)]at hc;obtain⟨v,hv,Ao⟩:=XW hr hc;exact⟨v,by rw[show base+i*z+t-(base+i*z+off)=t-off by omega];exact hv,Ao⟩
   ·rw[iN7];rw[Gm (by simp only[Gn];omega)]at hc;have e1:((els.getD i []).take off).length=off:=by simp only[Gn];omega
    rw[e1,Gm (by omega),Gr,show off+l.length+(t-off-l.length)=t by omega]at hc;exact(h i _ Ba).2 t c hc
 ·rename_i Cw;have hj:=h j e he;refine⟨hj.1,λt c hc=>?_⟩;have ht:t<z:=hj.1▸(Gd.1 hc).1;obtain⟨r,BU,Bf⟩:=hj.2 t c hc;refine⟨r,?_,Bf⟩;show (_:Array Value)[base+j*z+t]? = some r;rw[rd,if_neg]
  ·exact BU
  ·rintro⟨h1,h2⟩;rcases Nat.lt_or_gt_of_ne Cw with Ab|Po
   ·have:(i+1)*z<=j*z:=Gh z Ab;rw[Gf,Gt]at this;omega
   ·have:(j+1)*z<=i*z:=Gh z Po;rw[Gf,Gt]at this;omega
theorem Jal {cells:Array Value}{vs:List Value}{p q:Nat}(h:∀(i:Nat) v,cells[i]? = some v->v.oneCell'=true)(h1:∀v∈vs,v.oneCell'=true):∀(i:Nat) v,(cells.toList.take p++vs++cells.toList.drop q).toArray[i]? = some v->v.oneCell'=true:=by
 intro i v hv;have hm:v∈cells.toList.take p++vs++cells.toList.drop q:=by
  have:=GQ hv;simpa using this
 have hc:∀v∈cells.toList,v.oneCell'=true:=by
  intro v hv;obtain⟨j,hj⟩:=Gy hv;exact h j v (by simpa using hj)
 rcases GG.1 hm with h2|h2
 ·rcases GG.1 h2 with h3|h3
  ·exact hc v (GZ h3)
  ·exact h1 v h3
 ·exact hc v (Hf h2)
theorem Jdj (w:World)(g:Nat)(cs:Array Value):(w.setRow g cs).os=w.os/\(w.setRow g cs).output=w.output/\(w.setRow g cs).tape=w.tape:=⟨rfl,rfl,rfl⟩
theorem JdV {s:Sem Next}{k:Nat}{z:Nat}{els els':List (List CV)}{x:Own}{cells cs:Array Value}{elem:TypeId}{nx:Next}{r:Value}(hp:Pre E n0 m H w T a)(hk:H[k]? = some (.arr z els))(hx:m.own[k]? = some x)
  (hb:w.heap[x.B]? = some (.cells cells elem (0,0))) (hz:x.z=z) (Ag:s.run P w=.ok nx (w.setRow x.B cs)) (Dp:nx=.value r\/(nx=.skip/\r=undef)) (BA:cs.size=x.n) (A9:x.o+els'.length*x.z<=x.n)
  (OL:∀i,i<x.o->cs[i]? = cells[i]?) (AB:relO m.own m.imm x.z els' (λi=>cs[i]?) x.o) (Db:∀(i:Nat) v,cs[i]? = some v->v.oneCell'=true) (hv:rel m.own m.imm v r):Good P E n0 m H w s v (H.set k (.arr z els')):=by
 refine⟨m,_,r,nx,Ag,Dp,Ext.put hk rfl hx (setRow_size _ _ _) (λB hB=>setRow_other w x.B B cs hB) (Jdj _ _ _),?_,hv,KN.refl _⟩;refine hp.sim.put hk rfl hx (setRow_size _ _ _) (λB hB=>setRow_other w x.B B cs hB) (λi hi=>?_) ⟨hz,cs,elem,setRow_heap w x.B cells cs elem (0,0) hb,BA,A9,AB,Db⟩ (by intro s b h;cases h);rw[cell_setRow_same w x.B i cells cs elem (0,0) hb,OL i hi];simp[World.cell?,hb]
theorem snd_store {t:TypeId}{x y:Operand}{i j:IArg}{n:Nat}(ho:o.op=.store t x y)(hn:Jdi P t=some n)(hx:JD x=some i)(hy:JD y=some j)(he:exec (.store n i j) T H=some (c,v,H'))(hc:c.holds)(hp:Pre E n0 m H w T a) :
  Good P E n0 m H w (execOp a.eval o) v H':=by
 have h1:=JJ hp.tmps hx;have h2:=JJ hp.tmps hy;simp only[exec]at he
 split at he
 ·rename_i id i' off l e el;rw[e]at h1;simp only[rel]at h1;obtain⟨x',Aq,hv⟩:=h1
  split at he
  ·rename_i z els hH
   split at he
   ·rename_i hl;simp only[Ga,Gb]at he;obtain⟨rfl,rfl,rfl⟩:=he;obtain⟨hz,cells,elem,hb,BA,A9,AB,BQ⟩:=hp.sim.obj id _ x' hH Aq;have hr:=Jbf h2 el;obtain⟨vs,BI⟩:∃vs,(a.eval y).cells.toList=vs:=⟨_,rfl⟩;rw[BI]at hr;have Ad:=JK hr;have Bo:=Ym hr hl.2;have ji:(a.eval y).cells.size=vs.length:=by rw[<-BI];simp
    simp only[Cond.holds]at hc;have Da:i' < els.length:=by omega
    have Ba:els[i']? = some (els.getD i' []):=by simp[Gp,Gg Da]
    have Bh:(els.getD i' []).length=x'.z:=(AB i' _ Ba).1;have Dq:(i' + 1)*x'.z<=els.length*x'.z:=Gh _ Da;rw[Gf,Gt]at Dq;have Al:=run_storeCells_at P x'.B (x'.o+i' * x'.z+off) elem vs 0 cells w hb (by omega) Bo;refine JdV (r:=undef) (nx:=.skip) (cs:=(cells.toList.take (x'.o+i' * x'.z+off+0)++vs++cells.toList.drop (x'.o+i' * x'.z+off+0+vs.length)).toArray) hp hH Aq hb hz ?_ (.inr ⟨rfl,rfl⟩) ?_ (by simpa using A9) ?_ ?_ ?_ (by simp[rel])
    ·have OC:(a.eval y).cells.size=n:=by omega
     simp only[execOp,ho,Instr.storeAt,hv,Instr.sureAddr,storeVar,Sem.run_bind,Sem.run_pure,Result.andThen_ok,Jdk hn,OC,ne_eq,not_true_eq_false,if_false,BI,Al]
    ·simp only[Hg,Gj,Gn,G6,Gw];omega
    ·intro q hq;have e1:q<(cells.toList.take (x'.o+i' * x'.z+off+0)).length:=by simp only[Gn,Gw];omega
     have e2:q<x'.o+i' * x'.z+off+0:=by omega
     simp only[GD,Gz];rw[Gc e1,Gq e2,G9]
    ·have:=spliced (l:=l) (off:=off) AB Da (by omega) hr (by omega);simpa using this
    ·exact Jal BQ Bo
   ·cases he
  ·cases he
 ·cases he
end
end
section
section
variable {P:Program}{E:Env}{n0:Nat}{m:Bk}{H H':List CObj}{w:World}{T:List CV}{a:Act}{c:Cond}{v:CV}{o:Oper}
theorem JfZ (off:Nat):∀(l:List Value) (k:Nat) (cells:Array Value),off+k+l.length<=cells.size->
  ((l.zipIdx k).foldl (λcs (p:Value×Nat)=>cs.setIfInBounds (off+p.2) p.1) cells).toList=cells.toList.take (off+k)++l++cells.toList.drop (off+k+l.length)
 |[],k,cells,_=>by simp
 |v::l,k,cells,h=>by
  simp only[List.zipIdx_cons,List.foldl_cons];rw[JfZ off l (k+1) _ (by simp at h|-;omega)];simp only[Array.toList_setIfInBounds,Hm];have:=list_seg_step cells.toList (off+k) v l (by simp at h|-;omega);rw[show off+(k+1)=off+k+1 by omega];rw[this]
theorem JbS {own:List Own}{imm:Nat->Nat->Option Value}{e l:List CV}{vs lv:List Value}(h:JS own imm e vs)(hl:JS own imm l lv)(off:Nat):JS own imm (splice e off l) (vs.take off++lv++vs.drop (off+lv.length)):=by
 have Ad:=JK hl;simp only[splice,Gz];rw[Ad];exact QQ (Jcg h _) (QQ hl (Jch h _))
theorem Jhm {off n:Nat}{cells:Array Value}{x:Value}(hx:x.cells.size=n)(A9:off+n<=cells.size) :
  (x.cells.zipIdx.foldl (λcs (c,j)=>cs.setIfInBounds (off+j) c) cells).toList=cells.toList.take off++x.cells.toList++cells.toList.drop (off+n):=by
 have:=JfZ off x.cells.toList 0 cells (by simp;omega);simp only[GK,Gw,hx]at this;rw[<-this];rw[<-Array.foldl_toList];simp
theorem Jf6 {places:List (Nat×Nat)}{pf:Nat->Option (Nat×Nat)}(bD:∀i,places[i]? = pf i){own:List Own}{imm:Nat->Nat->Option Value}(hT:JS own imm T a.tmps.toList):∀(ps:List (Nat×Operand)) (l:List (Nat×Nat×IArg)) (cs out:List CV) (vs:Array Value),
  partsOf places ps=some l->QE T cs l=some out->JS own imm cs vs.toList->
  ∃vs',Instr.fill pf vs (ps.map λp=>(p.1,a.eval p.2))=some vs'/\JS own imm out vs'.toList
 |[],l,cs,out,vs,hl,hf,hr=>by
  simp[partsOf]at hl;subst hl;simp[QE]at hf;subst hf;exact⟨vs,by simp[Instr.fill],hr⟩
 |(i,x)::ps,l,cs,out,vs,hl,hf,hr=>by
  simp only[partsOf]at hl
  split at hl
  ·rename_i off n ia l' h1 h2 h3
   cases hl
   simp only[QE]at hf
   split at hf
   ·cases hf
   ·rename_i lc C9
    split at hf
    ·rename_i Ad;have hx:=Jbf (JJ hT h2) C9;have Bz:=JK hx;have FD:=JK hr;have Ee:(a.eval x).cells.size=n:=by have:=Ad.1;simp at Bz;omega
     have A9:off+n<=vs.size:=by have:=Ad.2;simp at FD;omega
     have hs:=JbS hr hx off;simp only[Gw,Ee]at hs;rw[<-Jhm Ee A9]at hs;obtain⟨vs',hv,EJ⟩:=Jf6 bD hT ps l' _ out _ h3 hf hs;refine⟨vs',?_,EJ⟩;simp only[G7,Instr.fill];rw[<-bD i,h1];simp only[Ee,ne_eq,not_true_eq_false,decide_false,Hq,decide_eq_true_eq];rw[iN7];exact hv
    ·cases hf
  ·cases hl
theorem run_places (w:World):∀(fs:List Field) (l:List (Nat×Nat)),JcT P fs=some l->(fs.mapM (λf=>do pure (f.offset,<-sizeOf f.type)):Sem (List (Nat×Nat))).run P w=.ok l w
 |[],l,h=>by simp[JcT]at h;subst h;simp
 |f::fs,l,h=>by
  simp only[JcT]at h
  split at h
  ·rename_i n l' h1 h2
   cases h
   have ih:=run_places w fs l' h2;simp only[Lb,Sem.run_bind,Jdk h1,Result.andThen_ok,Sem.run_pure];rw[ih];rfl
  ·cases h
theorem snd_build {t:TypeId}{ps:Array (Nat×Operand)}{z:List CV}{fs:Array Field}{places:List (Nat×Nat)}{l:List (Nat×Nat×IArg)}(ho:o.op=.build t ps)(hz:zeroOf P t=some z)(hu:P.underlying t=some (.struct fs))(FL:JcT P fs.toList=some places)(hl:partsOf places ps.toList=some l)
  (he:exec (.build z l) T H=some (c,v,H')) (hp:Pre E n0 m H w T a):Good P E n0 m H w (execOp a.eval o) v H':=by
 simp only[exec]at he
 split at he
 ·rename_i out AV;simp only[Ga,Gb]at he;obtain⟨_,rfl,rfl⟩:=he;obtain⟨i,zv,_,_,Ag,Ao,Ad,_⟩:=YJ (w:=w) hz;obtain⟨vs',hv,hr⟩:=Jf6 (places:=places) (pf:=λi=>places.toArray[i]?) (λi=>by simp) hp.tmps ps.toList l z out zv.cells hl AV (Ao _ _);refine Jr (r:=.agg vs') hp.sim ?_ (by simp only[rel];exact⟨vs',rfl,hr⟩);have hm:=run_places w fs.toList places FL;have bJ:(fs.mapM (λf=>do pure (f.offset,<-sizeOf f.type)):Sem (Array (Nat×Nat))).run P w=.ok places.toArray w:=by
   have e:fs=fs.toList.toArray:=by simp
   rw[e,H8,Sem.run_map,hm];rfl
  have Eg:(ps.map (λ(p:Nat×Operand)=>(p.1,a.eval p.2))).toList=ps.toList.map λp=>(p.1,a.eval p.2):=by simp
  simp only[execOp,ho,Instr.build,Sem.run_bind,Ag,Result.andThen_ok,run_underlying hu,bJ,Eg,hv,Sem.run_pure]
 ·cases he
theorem snd_buildA {t e:TypeId}{N k:Nat}{ps:Array (Nat×Operand)}{z:List CV}{l:List (Nat×Nat×IArg)}(ho:o.op=.build t ps)(hz:zeroOf P t=some z)(hu:P.underlying t=some (.array N e))(hk:Jdi P e=some k)(hl:partsOf ((GX N).map λi=>(i*k,k)) ps.toList=some l)
  (he:exec (.build z l) T H=some (c,v,H')) (hp:Pre E n0 m H w T a):Good P E n0 m H w (execOp a.eval o) v H':=by
 simp only[exec]at he
 split at he
 ·rename_i out AV;simp only[Ga,Gb]at he;obtain⟨_,rfl,rfl⟩:=he;obtain⟨i,zv,_,_,Ag,Ao,Ad,_⟩:=YJ (w:=w) hz;have key:∀(ps:List (Nat×Operand)) (l:List (Nat×Nat×IArg)) (cs out:List CV) (vs:Array Value),partsOf ((GX N).map λi=>(i*k,k)) ps=some l->QE T cs l=some out->JS m.own m.imm cs vs.toList->
    ∃vs',Instr.fill (λi=>some (i*k,k)) vs (ps.map λp=>(p.1,a.eval p.2))=some vs'/\JS m.own m.imm out vs'.toList:=by
   intro ps
   induction ps with
   |nil=>
    intro l cs out vs hl hf hr;simp[partsOf]at hl;subst hl;simp[QE]at hf;subst hf;exact⟨vs,by simp[Instr.fill],hr⟩
   |cons p ps ih=>
    obtain⟨i,x⟩:=p;intro l cs out vs hl hf hr;simp only[partsOf]at hl
    split at hl
    ·rename_i off n ia l' h1 h2 h3
     cases hl
     simp only[QE]at hf
     split at hf
     ·cases hf
     ·rename_i lc C9
      split at hf
      ·rename_i Ad;have hx:=Jbf (JJ hp.tmps h2) C9;have Bz:=JK hx;have FD:=JK hr;have AQ:off=i*k/\n=k:=by
        rw[H9]at h1
        cases UR:(GX N)[i]? with
        |none=>simp[UR]at h1
        |some q=>
         have:q=i:=by have:=Gd.1 UR;simpa using this.2.symm
         simp[UR,this]at h1;exact⟨h1.1.symm,h1.2.symm⟩
       obtain⟨rfl,rfl⟩:=AQ;have Ee:(a.eval x).cells.size=n:=by have:=Ad.1;simp at Bz;omega
       have A9:i*n+n<=vs.size:=by have:=Ad.2;simp at FD;omega
       have hs:=JbS hr hx (i*n);simp only[Gw,Ee]at hs;rw[<-Jhm Ee A9]at hs;obtain⟨vs',hv,EJ⟩:=ih l' _ out _ h3 hf hs;refine⟨vs',?_,EJ⟩;simp only[G7,Instr.fill];simp only[Ee,ne_eq,not_true_eq_false,decide_false,Hq,decide_eq_true_eq];rw[iN7];exact hv
      ·cases hf
    ·cases hl
  obtain⟨vs',hv,hr⟩:=key ps.toList l z out zv.cells hl AV (Ao _ _);refine Jr (r:=.agg vs') hp.sim ?_ (by simp only[rel];exact⟨vs',rfl,hr⟩);have Eg:(ps.map (λ(p:Nat×Operand)=>(p.1,a.eval p.2))).toList=ps.toList.map λp=>(p.1,a.eval p.2):=by simp
  simp only[execOp,ho,Instr.build,Sem.run_bind,Ag,Result.andThen_ok,run_underlying hu,Jdk hk,Eg,hv,Sem.run_pure]
 ·cases he
theorem binI_sound {t:TypeId}{op:BinOp}{k:IntKind}{x y:Int}{v:CV}(h:binI op k x y=some (c,v))(hc:c.holds):∃r,(∀own imm,rel own imm v r)/\∀w,(binOp op t (.int k x) (.int k y)).run P w=.ok r w:=by
 unfold binI at h
 split at h <;> (try cases h) <;> simp only[Cond.holds]at hc
 ·exact⟨_,λ_ _=>rfl,λw=>by simp[binOp,Op.intArith,hc.wrap]⟩
 ·exact⟨_,λ_ _=>rfl,λw=>by simp[binOp,Op.intArith,hc.wrap]⟩
 ·exact⟨_,λ_ _=>rfl,λw=>by simp[binOp,Op.intArith,hc.wrap]⟩
 ·exact⟨_,λ_ _=>rfl,λw=>by simp[binOp,Op.intDiv,hc.1,hc.2.wrap]⟩
 ·exact⟨_,λ_ _=>rfl,λw=>by simp[binOp,Op.intDiv,hc]⟩
 ·exact⟨_,λ_ _=>rfl,λw=>by simp[binOp,Op.intCmp]⟩
 ·exact⟨_,λ_ _=>rfl,λw=>by simp[binOp,Op.intCmp]⟩
 ·exact⟨_,λ_ _=>rfl,λw=>by simp[binOp,Op.intCmp]⟩
 ·exact⟨_,λ_ _=>rfl,λw=>by simp[binOp,Op.intCmp]⟩
 ·exact⟨_,λ_ _=>rfl,λw=>by simp[binOp,Op.intCmp]⟩
 ·exact⟨_,λ_ _=>rfl,λw=>by simp[binOp,Op.intCmp]⟩
 ·exact⟨_,λ_ _=>rfl,λw=>by simp[binOp,Op.intBits]⟩
 ·exact⟨_,λ_ _=>rfl,λw=>by simp[binOp,Op.intBits]⟩
 ·exact⟨_,λ_ _=>rfl,λw=>by simp[binOp,Op.intBits]⟩
 ·exact⟨_,λ_ _=>rfl,λw=>by simp[binOp,Op.shift,G8.2 hc]⟩
 ·exact⟨_,λ_ _=>rfl,λw=>by simp[binOp,Op.shift,G8.2 hc]⟩
theorem binK_sound {t:TypeId}{op:BinOp}{k k':IntKind}{x y:Int}{v:CV}(h:binK op k k' x y=some (c,v))(hc:c.holds):∃r,(∀own imm,rel own imm v r)/\∀w,(binOp op t (.int k x) (.int k' y)).run P w=.ok r w:=by
 unfold binK at h
 split at h
 ·rename_i hk;subst hk;exact binI_sound h hc
 ·split at h
  ·simp only[binI,Ga,Gb]at h;obtain⟨rfl,rfl⟩:=h;simp only[Cond.holds]at hc;exact⟨_,λ_ _=>rfl,λw=>by simp[binOp,Op.shift,G8.2 hc]⟩
  ·simp only[binI,Ga,Gb]at h;obtain⟨rfl,rfl⟩:=h;simp only[Cond.holds]at hc;exact⟨_,λ_ _=>rfl,λw=>by simp[binOp,Op.shift,G8.2 hc]⟩
  ·cases h
theorem binS_sound {t:TypeId}{op:BinOp}{x y:ByteArray}{v:CV}(h:binS op x y=some (c,v))(hc:c.holds):∃r,(∀own imm,rel own imm v r)/\∀w,(binOp op t (.string x) (.string y)).run P w=.ok r w:=by
 unfold binS at h
 split at h <;> (try cases h) <;> simp only[Cond.holds]at hc
 ·refine⟨_,λ_ _=>rfl,λw=>?_⟩;have:¬(IntKind.i64.max<(x.size:Int)+y.size):=by simp[IntKind.max,IntKind.signed,IntKind.bits];omega
  simp[binOp,Op.stringOp];omega
 all_goals exact⟨_,λ_ _=>rfl,λw=>by simp[binOp,Op.stringOp]⟩
end
end
section
section
variable {P:Program}{E:Env}{n0:Nat}{m:Bk}{H H':List CObj}{w:World}{T:List CV}{a:Act}{c:Cond}{v:CV}{o:Oper}
theorem Jcy (op:BinOp)(t:TypeId)(x y:Operand)(u v:Value)(w:World)(h:∀cs ds,¬(u=.agg cs/\v=.agg ds))(h':¬(u=.nilIface/\v=.nilIface)):(eqGuard op t x y u v).run P w=.ok () w:=by
 unfold eqGuard
 cases op <;> simp only[Bool.not_true,Bool.not_false,Gu,if_false,if_true] <;> (try rfl) <;>
  (cases u <;> cases v <;> (try rfl) <;> first|(exfalso;exact h _ _ ⟨rfl,rfl⟩)|(exfalso;exact h' ⟨rfl,rfl⟩))
theorem eqv {op:BinOp}{t:TypeId}{b:Bool}{v:CV}{z z':Value}{own:List Own}{imm:Nat->Nat->Option Value}(he:∀n w,(Op.equalIn (n+1) t z z').run P w=.ok b w)(IG:(JbB op b).map (λv=>(Cond.tt,v))=some (c,v))
  (h1:binOp .eql t z z'=do pure (.bool (<-Op.equal t z z'))) (h2:binOp .neq t z z'=do pure (.bool (!(<-Op.equal t z z'))))
  (h3:∀cs ds,¬(z=.agg cs/\z'=.agg ds)) (h4:¬(z=.nilIface/\z'=.nilIface)):∃r,rel own imm v r/\(∀cs ds,¬(z=.agg cs/\z'=.agg ds))/\¬(z=.nilIface/\z'=.nilIface)/\∀w,(binOp op t z z').run P w=.ok r w:=by
 have Ag:∀w,(Op.equal t z z').run P w=.ok b w:=λw=>he 9999 w
 cases op <;> simp[JbB]at IG
 ·obtain⟨_,rfl⟩:=IG;exact⟨.bool b,rfl,h3,h4,λw=>by rw[h1];simp[Ag w]⟩
 ·obtain⟨_,rfl⟩:=IG;exact⟨.bool !b,rfl,h3,h4,λw=>by rw[h2];simp[Ag w]⟩
theorem XA {d:TypeDesc}(h:Xr d=.slice):∃e,d=.slice e:=by cases d <;> simp[Xr]at h;exact⟨_,rfl⟩
theorem tk_ptr {d:TypeDesc}(h:Xr d=.ptr):∃e,d=.pointer e:=by cases d <;> simp[Xr]at h;exact⟨_,rfl⟩
theorem tk_bool {d:TypeDesc}(h:Xr d=.bool):d=.bool:=by cases d <;> simp[Xr]at h;rfl
theorem exBin_sound {op:BinOp}{t:TypeId}{d:TypeDesc}{x y v:CV}{u u':Value}{own:List Own}{imm:Nat->Nat->Option Value}(hd:P.underlying t=some d)(h:exBin op (Xr d) x y=some (c,v))(hc:c.holds)(hx:rel own imm x u)(hy:rel own imm y u') :
  ∃r,rel own imm v r/\(∀cs ds,¬(u=.agg cs/\u'=.agg ds))/\¬(u=.nilIface/\u'=.nilIface)/\∀w,(binOp op t u u').run P w=.ok r w:=by
 unfold exBin at h
 split at h <;> (try split at h) <;> (try cases h;done)
 ·simp only[rel]at hx hy;subst hx;subst hy;obtain⟨r,h1,h2⟩:=binK_sound (t:=t) (P:=P) h hc;exact⟨r,h1 _ _,by simp,by simp,h2⟩
 ·simp only[rel]at hx hy;subst hx;subst hy;obtain⟨r,h1,h2⟩:=binS_sound (t:=t) (P:=P) h hc;exact⟨r,h1 _ _,by simp,by simp,h2⟩
 ·simp only[rel]at hx hy;subst hx;subst hy;rename_i hk;obtain rfl:=tk_bool hk;exact eqv (λn w=>by simp only[Op.equalIn,Sem.run_bind,run_underlying hd,Result.andThen_ok];rfl) h rfl rfl (by simp) (by simp)
 ·simp only[rel]at hx hy;subst hx;subst hy;obtain⟨e,rfl⟩:=XA ‹Xr d=_›;exact eqv (λn w=>by simp only[Op.equalIn,Sem.run_bind,run_underlying hd,Result.andThen_ok];rfl) h rfl rfl (by simp) (by simp)
 ·simp only[rel]at hx hy;obtain⟨x1,a1,c1,_,rfl,_⟩:=hy;subst hx;obtain⟨e,rfl⟩:=XA ‹Xr d=_›;exact eqv (λn w=>by simp only[Op.equalIn,Sem.run_bind,run_underlying hd,Result.andThen_ok];rfl) h rfl rfl (by simp) (by simp)
 ·simp only[rel]at hx hy;obtain⟨x1,a1,c1,rfl,_⟩:=hy.resolve_left (by rintro⟨_,h,_⟩;cases h);subst hx;obtain⟨e,rfl⟩:=XA ‹Xr d=_›;exact eqv (λn w=>by simp only[Op.equalIn,Sem.run_bind,run_underlying hd,Result.andThen_ok];rfl) h rfl rfl (by simp) (by simp)
 ·simp only[rel]at hx hy;obtain⟨x1,a1,c1,_,rfl,_⟩:=hx;subst hy;obtain⟨e,rfl⟩:=XA ‹Xr d=_›;exact eqv (λn w=>by simp only[Op.equalIn,Sem.run_bind,run_underlying hd,Result.andThen_ok];rfl) h rfl rfl (by simp) (by simp)
 ·simp only[rel]at hx hy;obtain⟨x1,a1,c1,rfl,_⟩:=hx.resolve_left (by rintro⟨_,h,_⟩;cases h);subst hy;obtain⟨e,rfl⟩:=XA ‹Xr d=_›;exact eqv (λn w=>by simp only[Op.equalIn,Sem.run_bind,run_underlying hd,Result.andThen_ok];rfl) h rfl rfl (by simp) (by simp)
 ·simp only[rel]at hx hy;obtain⟨x1,a1,c1,rfl,_⟩:=hy.resolve_left (by rintro⟨_,h,_⟩;cases h);subst hx;obtain⟨e,rfl⟩:=XA ‹Xr d=_›;exact eqv (λn w=>by simp only[Op.equalIn,Sem.run_bind,run_underlying hd,Result.andThen_ok];rfl) h rfl rfl (by simp) (by simp)
 ·simp only[rel]at hx hy;obtain⟨x1,a1,c1,rfl,_⟩:=hx.resolve_left (by rintro⟨_,h,_⟩;cases h);subst hy;obtain⟨e,rfl⟩:=XA ‹Xr d=_›;exact eqv (λn w=>by simp only[Op.equalIn,Sem.run_bind,run_underlying hd,Result.andThen_ok];rfl) h rfl rfl (by simp) (by simp)
 ·simp only[rel]at hx hy;subst hx;subst hy;obtain⟨e,rfl⟩:=tk_ptr ‹Xr d=_›;exact eqv (λn w=>by simp only[Op.equalIn,Sem.run_bind,run_underlying hd,Result.andThen_ok];rfl) h rfl rfl (by simp) (by simp)
 ·simp only[rel]at hx hy;obtain⟨x1,_,rfl⟩:=hy;subst hx;obtain⟨e,rfl⟩:=tk_ptr ‹Xr d=_›;exact eqv (λn w=>by simp only[Op.equalIn,Sem.run_bind,run_underlying hd,Result.andThen_ok];rfl) h rfl rfl (by simp) (by simp)
 ·simp only[rel]at hx hy;obtain⟨B,o1,rfl,_⟩:=hy;subst hx;obtain⟨e,rfl⟩:=tk_ptr ‹Xr d=_›;exact eqv (λn w=>by simp only[Op.equalIn,Sem.run_bind,run_underlying hd,Result.andThen_ok];rfl) h rfl rfl (by simp) (by simp)
 ·simp only[rel]at hx hy;obtain⟨x1,_,rfl⟩:=hx;subst hy;obtain⟨e,rfl⟩:=tk_ptr ‹Xr d=_›;exact eqv (λn w=>by simp only[Op.equalIn,Sem.run_bind,run_underlying hd,Result.andThen_ok];rfl) h rfl rfl (by simp) (by simp)
 ·simp only[rel]at hx hy;obtain⟨B,o1,rfl,_⟩:=hx;subst hy;obtain⟨e,rfl⟩:=tk_ptr ‹Xr d=_›;exact eqv (λn w=>by simp only[Op.equalIn,Sem.run_bind,run_underlying hd,Result.andThen_ok];rfl) h rfl rfl (by simp) (by simp)
theorem snd_bin {op:BinOp}{t ty:TypeId}{d:TypeDesc}{x y:Operand}{i j:IArg}(ho:o.op=.binOp op t x y ty)(hd:P.underlying t=some d)(hx:JD x=some i)(hy:JD y=some j)(he:exec (.bin op (Xr d) i j) T H=some (c,v,H'))(hc:c.holds)(hp:Pre E n0 m H w T a) :
  Good P E n0 m H w (execOp a.eval o) v H':=by
 simp only[exec]at he
 split at he
 ·rename_i c' v' hb;simp only[Ga,Gb]at he;obtain⟨rfl,rfl,rfl⟩:=he;obtain⟨r,hr,h1,h2,Ag⟩:=exBin_sound hd hb hc (JJ hp.tmps hx) (JJ hp.tmps hy);refine Jr (r:=r) hp.sim ?_ hr;simp only[execOp,ho,Sem.run_bind,Jcy op t x y _ _ w h1 h2,Result.andThen_ok,Ag w,Sem.run_pure]
 ·cases he
theorem Jc8 {own:List Own}{imm:Nat->Nat->Option Value}{tk:TK}{x y:CV}{u u':Value}{b:Bool}(h:YE tk x y=some b)(hx:rel own imm x u)(hy:rel own imm y u') :
  (tk=.int/\∃k p q,u=.int k p/\u'=.int k q/\b=(p == q))\/(tk=.str/\∃p q,u=.string p/\u'=.string q/\b=(p == q))\/(tk=.bool/\∃p q,u=.bool p/\u'=.bool q/\b=(p == q)):=by
 unfold YE at h
 split at h
 ·split at h
  ·split at h
   ·rename_i hk;subst hk;simp only[rel]at hx hy
    cases h
    exact .inl ⟨rfl,_,_,_,hx,hy,rfl⟩
   ·cases h
  ·cases h
 ·split at h
  ·simp only[rel]at hx hy
   cases h
   exact .inr (.inl ⟨rfl,_,_,hx,hy,rfl⟩)
  ·cases h
 ·split at h
  ·simp only[rel]at hx hy
   cases h
   exact .inr (.inr ⟨rfl,_,_,hx,hy,rfl⟩)
  ·cases h
 ·cases h
end
end
section
section
variable {P:Program}{E:Env}{n0:Nat}{m:Bk}{H H':List CObj}{w:World}{T:List CV}{a:Act}{c:Cond}{v:CV}{o:Oper}
theorem JbM:∀(ks ks':List TK) (p p' q q':List CV),p.length=ks.length->p'.length=ks.length->XU (ks++ks') (p++q) (p'++q')=match XU ks p p' with|some true=>XU ks' q q'|x=>x
 |[],ks',[],[],q,q',_,_=>by simp[XU]
 |k::ks,ks',x::p,y::p',q,q',h,h'=>by
  simp only[La,XU]
  cases hk:YE k x y with
  |none=>rfl
  |some b=>
   cases b with
   |true=>exact JbM ks ks' p p' q q' (by simpa using h) (by simpa using h')
   |false=>rfl
 |[],_,_::_,_,_,_,h,_=>by simp at h
 |[],_,_,_::_,_,_,_,h=>by simp at h
 |_::_,_,[],_,_,_,h,_=>by simp at h
 |_::_,_,_,[],_,_,_,h=>by simp at h
def mkv (ag:Bool)(vs:List Value):Value:=if ag then .agg vs.toArray else vs.headD undef
theorem JgH {t:TypeId}{ag:Bool}{n off:Nat}{xs:Array Value}(BN:Jbh P t=some ag)(hn:Jdi P t=some n)(h1:ag=false->off<xs.size)(h2:ag=false->0<n):(part t xs off).run P w=.ok (mkv ag ((xs.toList.drop off).take n)) w:=by
 unfold part mkv
 cases ag with
 |true=>
  simp only[Sem.run_bind,JbQ BN,Result.andThen_ok,if_true,Jdk hn,Sem.run_pure]
  congr 2
  apply Hd;simp[List.extract_eq_take_drop,show off+n-off=n by omega]
 |false=>
  have:=h1 rfl;have h0:=h2 rfl;simp only[Sem.run_bind,JbQ BN,Result.andThen_ok,Gu,if_false];rw[Gv this];simp only[Sem.run_pure];rw[He (by simpa using this)]
  cases n with
  |zero=>omega
  |succ n=>simp
theorem Jhq {d:Nat}{xs ys:Array Value}{f:Field}{fs:List Field}{x y:Value}{r:Bool}(hn:f.name≠ "_") (hx:(part f.type xs f.offset).run P w=.ok x w) (hy:(part f.type ys f.offset).run P w=.ok y w) (he:(Op.equalIn d f.type x y).run P w=.ok r w) :
  (Op.eqFields d xs ys (f::fs)).run P w=if r then(Op.eqFields d xs ys fs).run P w else .ok false w:=by
 simp only[Op.eqFields,hn,ne_eq,not_false_eq_true,if_true,Sem.run_bind,hx,Result.andThen_ok,hy,he]
 cases r <;> simp
theorem JaP {k:Nat}{t:TypeId}{d:TypeDesc}{own:List Own}{imm:Nat->Nat->Option Value}{x y:CV}{u u':Value}{b:Bool}(hd:P.underlying t=some d)(h:YE (Xr d) x y=some b)(hx:rel own imm x u)(hy:rel own imm y u'):(Op.equalIn (k+1) t u u').run P w=.ok b w:=by
 rcases Jc8 h hx hy with ⟨hk,k',p,q,rfl,rfl,rfl⟩|⟨hk,p,q,rfl,rfl,rfl⟩|⟨hk,p,q,rfl,rfl,rfl⟩
 ·cases d <;> simp[Xr]at hk
  simp[Op.equalIn,run_underlying hd]
 ·cases d <;> simp[Xr]at hk
  simp[Op.equalIn,run_underlying hd]
 ·cases d <;> simp[Xr]at hk
  simp[Op.equalIn,run_underlying hd]
theorem Jf3 (own:List Own)(imm:Nat->Nat->Option Value):∀(d:Nat) (t:TypeId) (ks:List TK),Xe P d t=some ks->∀(l l':List CV) (vs vs':List Value) (b:Bool) (k:Nat) (w:World) (ag:Bool),l.length=ks.length->l'.length=ks.length->JS own imm l vs->JS own imm l' vs'->XU ks l l'=some b->Jbh P t=some ag->
  (Op.equalIn (d+k) t (mkv ag vs) (mkv ag vs')).run P w=.ok b w
 |0,t,ks,h=>by simp[Xe]at h
 |d+1,t,ks,h=>by
  intro l l' vs vs' b k w ag hl RF hr EJ hb BN;rw[show d+1+k=d+k+1 by omega];simp only[Xe]at h;unfold Jbh at BN;have scalar:∀tk,ks=[tk]->∃x y u u',l=[x]/\l'=[y]/\vs=[u]/\vs'=[u']/\rel own imm x u/\rel own imm y u'/\YE tk x y=some b:=by
   rintro tk rfl
   match l,hl,l',RF with
   |[x],_,[y],_=>
    simp only[JS]at hr EJ;obtain⟨u,us,rfl,hx,rfl⟩:=hr;obtain⟨u',us',rfl,hy,rfl⟩:=EJ;refine⟨x,y,u,u',rfl,rfl,rfl,rfl,hx,hy,?_⟩;simp only[XU]at hb
    cases hk:YE tk x y with
    |none=>simp[hk]at hb
    |some q=>cases q <;> simp[hk]at hb <;> simp[hb]
  split at h
  ·rename_i hu
   cases h
   simp[hu,JeD]at BN;subst BN;obtain⟨x,y,u,u',rfl,rfl,rfl,rfl,hx,hy,hk⟩:=scalar _ rfl;exact JaP (d:=.bool) hu hk hx hy
  ·rename_i k0 hu
   cases h
   simp[hu,JeD]at BN;subst BN;obtain⟨x,y,u,u',rfl,rfl,rfl,rfl,hx,hy,hk⟩:=scalar _ rfl;exact JaP (d:=.int k0) hu hk hx hy
  ·rename_i hu
   cases h
   simp[hu,JeD]at BN;subst BN;obtain⟨x,y,u,u',rfl,rfl,rfl,rfl,hx,hy,hk⟩:=scalar _ rfl;exact JaP (d:=.string) hu hk hx hy
  ·rename_i fs hu
   split at h
   ·cases h
   ·rename_i Al;simp[hu,JeD]at BN;subst BN;have Fw:P.fieldsOf t=fs:=by simp[Program.fieldsOf,hu]
    simp only[mkv,if_true];rw[run_equalIn_struct w (d+k) t vs.toArray vs'.toArray (by rw[Fw];exact hu) (by simpa using Al),Fw];have key:∀(fs:List Field) (off:Nat) (ks':List TK) (p p':List CV) (b:Bool),Y8 P d fs off=some ks'->l.drop off=p->l'.drop off=p'->p.length=ks'.length->p'.length=ks'.length->XU ks' p p'=some b->(Op.eqFields (d+k) vs.toArray vs'.toArray fs).run P w=.ok b w:=by
     intro fs
     induction fs with
     |nil=>
      intro off ks' p p' b hf hp DC Uc OJ hc;simp[Jfo]at hf;subst hf
      cases p <;> simp at Uc
      cases p' <;> simp at OJ
      simp[XU]at hc;subst hc;simp[Op.eqFields]
     |cons f fs ih=>
      intro off ks' p p' b hf hp DC Uc OJ hc;simp only[JeP]at hf
      split at hf
      ·cases hf
      ·rename_i BJ;simp only[not_or,Decidable.not_not]at BJ
       split at hf
       ·rename_i kf Ud
        split at hf
        ·rename_i BA
         cases Cu:Y8 P d fs (off+kf.length) with
         |none=>simp[Cu]at hf
         |some kr=>
          simp[Cu]at hf;subst hf;simp only[Gj]at Uc OJ;have ep:p=p.take kf.length++p.drop kf.length:=(HY _ _).symm;have ep':p'=p'.take kf.length++p'.drop kf.length:=(HY _ _).symm;rw[ep,ep',JbM kf kr _ _ _ _ (by simp;omega) (by simp;omega)]at hc;have FD:=JK hr;have dU:=JK EJ;have MZ:0<kf.length:=by cases kf with|nil=>exact absurd rfl BA.2|cons _ _=>simp
          have IC:off<l.length:=by have:=congrArg Ld hp;simp at this;omega
          have bF:off<l'.length:=by have:=congrArg Ld DC;simp at this;omega
          obtain⟨agf,O1⟩:∃agf,Jbh P f.type=some agf:=by
           cases d with
           |zero=>simp[Xe]at Ud
           |succ d'=>
            simp only[Xe]at Ud;unfold Jbh
            cases PO:P.underlying f.type with
            |none=>simp[PO]at Ud
            |some dd=>exact⟨_,rfl⟩
          have hx:=JgH (w:=w) (xs:=vs.toArray) (off:=off) O1 BA.1 (λ_=>by simp;omega) (λ_=>MZ);have hy:=JgH (w:=w) (xs:=vs'.toArray) (off:=off) O1 BA.1 (λ_=>by simp;omega) (λ_=>MZ);have rx:JS own imm (p.take kf.length) ((vs.drop off).take kf.length):=by rw[<-hp];exact Jcg (Jch hr _) _
          have ry:JS own imm (p'.take kf.length) ((vs'.drop off).take kf.length):=by rw[<-DC];exact Jcg (Jch EJ _) _
          rw[<-BJ.2]at hx hy
          cases Ep:XU kf (p.take kf.length) (p'.take kf.length) with
          |none=>simp[Ep]at hc
          |some b1=>
           have heq:=Jf3 own imm d f.type kf Ud _ _ _ _ b1 k w agf (by simp;omega) (by simp;omega) rx ry Ep O1;rw[BJ.2]at hx hy;have Au:=Jhq (d:=d+k) (fs:=fs) BJ.1 (by rw[BJ.2];exact hx) (by rw[BJ.2];exact hy) heq;rw[Au]
           cases b1 with
           |false=>simp[Ep]at hc;subst hc;rfl
           |true=>
            simp only[Ep]at hc;simp only[if_true];exact ih (off+kf.length) kr _ _ b Cu (by rw[<-hp,Lc]) (by rw[<-DC,Lc]) (by simp;omega) (by simp;omega) hc
        ·cases hf
       ·cases hf
    exact key fs.toList 0 ks l l' b h (by simp) (by simp) hl RF hb
  ·cases h
end
end
section
section
variable {P:Program}{E:Env}{n0:Nat}{m:Bk}{H H':List CObj}{w:World}{T:List CV}{a:Act}{c:Cond}{v:CV}{o:Oper}
theorem JeY {op:BinOp}{t:TypeId}{x y:Operand}{cs ds:Array Value}(h:P.eqGuardType P.depth t=false):(eqGuard op t x y (.agg cs) (.agg ds)).run P w=.ok () w:=by
 unfold eqGuard
 cases op <;> simp[h]
theorem snd_eqs {op:BinOp}{t ty:TypeId}{fs:Array Field}{ks:List TK}{ng:Bool}{x y:Operand}{i j:IArg}(ho:o.op=.binOp op t x y ty)(hd:P.underlying t=some (.struct fs))(hf:Xe P 50 t=some ks)(hg:P.eqGuardType P.depth t=false)
  (AY:(op=.eql/\ng=false)\/(op=.neq/\ng=true)) (hx:JD x=some i) (hy:JD y=some j) (he:exec (.eqs ks ng i j) T H=some (c,v,H')) (hp:Pre E n0 m H w T a):Good P E n0 m H w (execOp a.eval o) v H':=by
 have h1:=JJ hp.tmps hx;have h2:=JJ hp.tmps hy;simp only[exec]at he
 split at he
 ·rename_i l l' e1 e2;rw[e1]at h1;rw[e2]at h2;simp only[rel]at h1 h2;obtain⟨cs,Db,hr⟩:=h1;obtain⟨ds,MI,EJ⟩:=h2
  split at he
  ·rename_i b hb;simp only[Ga,Gb]at he;obtain⟨_,rfl,rfl⟩:=he
   split at hb
   ·rename_i Ad;have heq:∀w,(Op.equal t (.agg cs) (.agg ds)).run P w=.ok b w:=by
     intro w;have:=Jf3 (P:=P) m.own m.imm 50 t ks hf l l' _ _ b 9950 w true Ad.1 Ad.2 hr EJ hb (by simp[Jbh,hd,JeD]);simp only[mkv,if_true,Array.toArray_toList]at this;exact this
    rcases AY with ⟨rfl,rfl⟩|⟨rfl,rfl⟩
    ·refine Jr (r:=.bool b) hp.sim ?_ rfl;simp only[execOp,ho,Db,MI,Sem.run_bind,JeY hg,Result.andThen_ok,binOp,heq,Sem.run_pure]
    ·refine Jr (r:=.bool !b) hp.sim ?_ rfl;simp only[execOp,ho,Db,MI,Sem.run_bind,JeY hg,Result.andThen_ok,binOp,heq,Sem.run_pure]
   ·cases hb
  ·cases he
 ·cases he
theorem snd_not {t:TypeId}{x:Operand}{i:IArg}(ho:o.op=.unOp .not t x)(hx:JD x=some i)(he:exec (.not i) T H=some (c,v,H'))(hp:Pre E n0 m H w T a):Good P E n0 m H w (execOp a.eval o) v H':=by
 have h1:=JJ hp.tmps hx;simp only[exec]at he
 split at he
 ·rename_i b e;rw[e]at h1;simp only[rel]at h1;simp only[Ga,Gb]at he;obtain⟨_,rfl,rfl⟩:=he;exact Jr (r:=.bool !b) hp.sim (by simp[execOp,ho,h1,Op.unary]) rfl
 ·cases he
theorem snd_neg {t:TypeId}{x:Operand}{i:IArg}(ho:o.op=.unOp .neg t x)(hx:JD x=some i)(he:exec (.neg i) T H=some (c,v,H'))(hc:c.holds)(hp:Pre E n0 m H w T a):Good P E n0 m H w (execOp a.eval o) v H':=by
 have h1:=JJ hp.tmps hx;simp only[exec]at he
 split at he
 ·rename_i k n e;rw[e]at h1;simp only[rel]at h1;simp only[Ga,Gb]at he;obtain⟨rfl,rfl,rfl⟩:=he;have:k.wrap (0-n)=0-n:=InR.wrap hc;exact Jr (r:=.int k (0-n)) hp.sim (by simp only[execOp,ho,h1,Op.unary,Op.intArith,this,Sem.run_bind,Sem.run_pure,Result.andThen_ok]) rfl
 ·cases he
theorem snd_conv {s d:TypeId}{k k':IntKind}{x:Operand}{i:IArg}(ho:o.op=.convert s d x)(hs:P.underlying s=some (.int k'))(hd:P.underlying d=some (.int k))(hx:JD x=some i)(he:exec (.conv k i) T H=some (c,v,H'))(hc:c.holds)(hp:Pre E n0 m H w T a) :
  Good P E n0 m H w (execOp a.eval o) v H':=by
 have h1:=JJ hp.tmps hx;simp only[exec]at he
 split at he
 ·rename_i k2 n e;rw[e]at h1;simp only[rel]at h1;simp only[Ga,Gb]at he;obtain⟨rfl,rfl,rfl⟩:=he;have:k.wrap n=n:=InR.wrap hc;exact Jr (r:=.int k n) hp.sim (by simp only[execOp,ho,h1,convert,run_underlying hs,run_underlying hd,Conv.intToInt,this,Sem.run_bind,Sem.run_pure,Result.andThen_ok]) rfl
 ·cases he
theorem snd_mkfn {f:Nat}{l1 l2:Array Operand}{i j:List IArg}(ho:o.op=.makeFunc (.func f) l1 l2)(hx:JaE l1.toList=some i)(hy:JaE l2.toList=some j)(he:exec (.mkfn f i j) T H=some (c,v,H'))(hp:Pre E n0 m H w T a):Good P E n0 m H w (execOp a.eval o) v H':=by
 simp only[exec,Ga,Gb]at he;obtain⟨_,rfl,rfl⟩:=he;refine Jr (r:=.func (.func f) (l1.map a.eval) (l2.map a.eval)) hp.sim (by simp[execOp,ho,Instr.makeFunc]) ?_;simp only[rel];exact⟨_,_,rfl,by simpa using Jby hp.tmps hx,by simpa using Jby hp.tmps hy⟩
theorem snd_faddr {t:TypeId}{fs:Array Field}{f n:Nat}{fd:Field}{x:Operand}{i:IArg}(ho:o.op=.fieldAddr t x f)(hd:P.underlying t=some (.struct fs))(hf:fs[f]? = some fd)(hn:Jdi P fd.type=some n)(Ia:n≠0)(hx:JD x=some i)(he:exec (.faddr fd.offset i) T H=some (c,v,H'))(hc:c.holds)(hp:Pre E n0 m H w T a) :
  Good P E n0 m H w (execOp a.eval o) v H':=by
 have h1:=JJ hp.tmps hx;have Ag:∀B q,a.eval x=.pointer (some ⟨B,q,none⟩)->(execOp a.eval o).run P w=.ok (.value (.pointer (some ⟨B,q+fd.offset,none⟩))) w:=by
  intro B q hq;simp only[execOp,ho,Instr.fieldAt,Sem.run_bind,run_underlying hd,Result.andThen_ok,hf,hq,Instr.sureAddr,fieldPlace,Jdk hn,Sem.run_ite,Ia,if_false,Sem.run_pure,addr_add]
 simp only[exec]at he
 split at he
 ·rename_i id i' off e;rw[e]at h1;simp only[rel]at h1;obtain⟨x',Aq,hv⟩:=h1;simp only[Ga,Gb]at he;obtain⟨_,rfl,rfl⟩:=he;refine Jr hp.sim (Ag _ _ hv) ?_;simp only[rel];exact⟨x',Aq,by rw[GY]⟩
 ·rename_i cs e;rw[e]at h1;simp only[rel]at h1;obtain⟨B,q,hv,hat⟩:=h1;simp only[Ga,Gb]at he;obtain⟨rfl,rfl,rfl⟩:=he;refine Jr hp.sim (Ag _ _ hv) ?_;simp only[rel];refine⟨B,q+fd.offset,rfl,?_⟩;rw[Y1]at hat|-;intro t' c' CU;rw[Gr]at CU;have:=hat _ _ CU;rw[GY];exact this
 ·cases he
theorem snd_field {t:TypeId}{fs:Array Field}{f n:Nat}{ag:Bool}{fd:Field}{x:Operand}{i:IArg}(ho:o.op=.field t x f)(hd:P.underlying t=some (.struct fs))(hf:fs[f]? = some fd)(hn:Jdi P fd.type=some n)(BN:Jbh P fd.type=some ag)(hx:JD x=some i)(he:exec (.field ag fd.offset n i) T H=some (c,v,H'))(hc:c.holds)(hp:Pre E n0 m H w T a) :
  Good P E n0 m H w (execOp a.eval o) v H':=by
 have h1:=JJ hp.tmps hx;simp only[exec]at he
 split at he
 ·rename_i l e;rw[e]at h1;simp only[rel]at h1;obtain⟨cs,Db,hr⟩:=h1;have hl:=JK hr
  cases ag with
  |true=>
   simp only[if_true,Ga,Gb]at he;obtain⟨rfl,rfl,rfl⟩:=he;have DC:=JgH (P:=P) (w:=w) (xs:=cs) (off:=fd.offset) BN hn (by simp) (by simp);refine Jr hp.sim (r:=mkv true ((cs.toList.drop fd.offset).take n)) ?_ ?_
   ·simp only[execOp,ho,Db,Instr.field,Sem.run_bind,run_underlying hd,Result.andThen_ok,hf,asAgg,Sem.run_pure,DC]
   ·simp only[mkv,if_true,rel];exact⟨_,rfl,Jcg (Jch hr _) _⟩
  |false=>
   simp only[Gu,if_false,Ga,Gb]at he;obtain⟨rfl,rfl,rfl⟩:=he;have Ab:fd.offset<l.length:=hc;have Ay:fd.offset<cs.size:=by simp at hl;omega
   obtain⟨r,BU,Bf⟩:=XW hr (Gg Ab);refine Jr hp.sim (r:=r) ?_ ?_
   ·have:cs[fd.offset]? = some r:=by simpa using BU
    simp only[execOp,ho,Db,Instr.field,Sem.run_bind,run_underlying hd,Result.andThen_ok,hf,asAgg,Sem.run_pure,part,JbQ BN,Gu,if_false,this]
   ·have:l.getD fd.offset .un=l[fd.offset]:=by simp only[Gp,Gg Ab,GM]
    rw[this];exact Bf
 ·cases he
theorem run_indexAt {t:TypeId}{e:TypeId}{z:Nat}{x i:Operand}{ba:Addr}{len cap:Nat}{k:IntKind}{n:Int}(ho:o.op=.indexAddr t x i)(hd:P.underlying t=some (.slice e))(hz:Jdi P e=some z)(hx:a.eval x=.slice (some ba) len cap)(hi:a.eval i=.int k n)(h0:0<=n)(h1:n<len) :
  (execOp a.eval o).run P w=.ok (.value (.pointer (some (ba.add (n.toNat*z))))) w:=by
 simp only[execOp,ho,Instr.indexAt,asIntOf,hx,hi,Sem.run_bind,Sem.run_pure,run_underlying hd,Result.andThen_ok,h0,h1,and_self,if_true,Jdk hz]
theorem snd_iaddr {t e:TypeId}{z:Nat}{x i:Operand}{ix ii:IArg}(ho:o.op=.indexAddr t x i)(hd:P.underlying t=some (.slice e))(hz:Jdi P e=some z)(hx:JD x=some ix)(hi:JD i=some ii)(he:exec (.iaddr z ix ii) T H=some (c,v,H'))(hc:c.holds)(hp:Pre E n0 m H w T a) :
  Good P E n0 m H w (execOp a.eval o) v H':=by
 have h1:=JJ hp.tmps hx;have h2:=JJ hp.tmps hi;simp only[exec]at he
 split at he
 ·rename_i id off len cap k n e1 e2;rw[e1]at h1;rw[e2]at h2;simp only[rel]at h1 h2;obtain⟨x',ba,rc,Aq,hv,C9,_,Ih,A9⟩:=h1
  split at he
  ·rename_i z' els hH
   split at he
   ·rename_i Ed;subst Ed;simp only[Ga,Gb]at he;obtain⟨rfl,rfl,rfl⟩:=he;obtain⟨M8,I6⟩:=hc;have Oj:x'.z=z':=(hp.sim.obj id _ x' hH Aq).1;refine Jr hp.sim (run_indexAt ho hd hz hv h2 M8 I6) ?_;have hb:=Ih (by omega);subst hb;rw[addr_add];simp only[rel];exact⟨x',Aq,by rw[Oj,Gf];simp[GY]⟩
   ·cases he
  ·cases he
 ·rename_i z' els cap k n e1 e2;rw[e1]at h1;rw[e2]at h2;simp only[rel]at h1 h2
  split at he
  ·rename_i Ed;subst Ed;simp only[Ga,Gb]at he;obtain⟨rfl,rfl,rfl⟩:=he;obtain⟨M8,I6⟩:=hc;rcases h1 with ⟨_,rfl,_⟩|⟨B,q,rc,hv,C9,_,AB⟩
   ·simp at I6;omega
   refine Jr hp.sim (run_indexAt ho hd hz hv h2 M8 I6) ?_;rw[addr_add];simp only[rel];refine⟨B,q+n.toNat*z',rfl,?_⟩;rw[Y1];have Ab:n.toNat<els.length:=by omega
   have Ba:els[n.toNat]? = some (els.getD n.toNat []):=by simp[Gp,Gg Ab]
   exact((Qh _ _).1 AB _ _ Ba).2
  ·cases he
 ·cases he
theorem snd_indexS {t:TypeId}{x i:Operand}{ix ii:IArg}(ho:o.op=.index t x i)(hd:P.underlying t=some .string)(hx:JD x=some ix)(hi:JD i=some ii)(he:exec (.indexS ix ii) T H=some (c,v,H'))(hc:c.holds)(hp:Pre E n0 m H w T a) :
  Good P E n0 m H w (execOp a.eval o) v H':=by
 have h1:=JJ hp.tmps hx;have h2:=JJ hp.tmps hi;simp only[exec]at he
 split at he
 ·rename_i s k n e1 e2;rw[e1]at h1;rw[e2]at h2;simp only[rel]at h1 h2;simp only[Ga,Gb]at he;obtain⟨rfl,rfl,rfl⟩:=he;obtain⟨M8,I6⟩:=hc;have Ab:n.toNat<s.size:=by omega
  refine Jr (r:=.int .u8 ((s.data.getD n.toNat 0).toNat:Int)) hp.sim ?_ rfl;have:s[n.toNat]? = some (s.data.getD n.toNat 0):=by
   rw[getElem?_pos s n.toNat Ab];have h3:n.toNat<s.data.size:=Ab;simp only[Array.getD,h3,dif_pos];rfl
  simp only[execOp,ho,Instr.index,h1,h2,asIntOf,Sem.run_bind,Sem.run_pure,run_underlying hd,Result.andThen_ok,M8,if_true,this]
 ·cases he
theorem snd_extract {x:Operand}{k:Nat}{i:IArg}(ho:o.op=.extract x k)(hx:JD x=some i)(he:exec (.extract i k) T H=some (c,v,H'))(hp:Pre E n0 m H w T a):Good P E n0 m H w (execOp a.eval o) v H':=by
 have h1:=JJ hp.tmps hx;simp only[exec]at he
 split at he
 ·rename_i l e;rw[e]at h1;simp only[rel]at h1;obtain⟨vs,BI,hr⟩:=h1
  split at he
  ·rename_i Ab;simp only[Ga,Gb]at he;obtain⟨_,rfl,rfl⟩:=he;obtain⟨r,BU,Bf⟩:=XW hr (Gg Ab);have h3:vs[k]? = some r:=by simpa using BU
   refine Jr (r:=r) hp.sim (by simp[execOp,ho,BI,Instr.extract,h3]) ?_;have:l.getD k .un=l[k]:=by simp only[Gp,Gg Ab,GM]
   rw[this];exact Bf
  ·cases he
 ·cases he
theorem snd_mkmap {t:TypeId}(ho:o.op=.makeMap t none)(he:exec .mkmap T H=some (c,v,H'))(hp:Pre E n0 m H w T a):Good P E n0 m H w (execOp a.eval o) v H':=by
 simp only[exec,Ga,Gb]at he;obtain⟨_,rfl,rfl⟩:=he;refine JfY (ob:=.map #[] 0) (x:=⟨w.heap.size,0,0,0⟩) (o:=.map []) (r:=.map (some w.heap.size)) hp.sim (by simp[execOp,ho,Instr.makeMap]) rfl (λ_=>?_) (by intro s b h;cases h) ?_
 ·exact⟨#[],0,heap_alloc_new w _,rfl,λi k v e h=>by simp at h⟩
 ·simp only[rel];exact⟨_,Jep hp.sim _,rfl⟩
theorem X7 {own:List Own}{imm:Nat->Nat->Option Value}{d:TypeDesc}{k:CV}{kv:Value}(hk:rel own imm k kv):∀(kvs:List (CV×CV)) (es:List MapEntry) (i:Nat) (r:Option (Nat×CV)),kvs.length=es.length->(∀(j:Nat) k' v' e,kvs[j]? = some (k',v')->es[j]? = some e->rel own imm k' e.key/\rel own imm v' e.val)->QL (Xr d) k kvs i=some r->
  match r with
  |none=>Instr.findNow d kv es i=some none
  |some (j,v')=>∃v,Instr.findNow d kv es i=some (some (j,v))/\rel own imm v' v/\i<=j/\j-i<kvs.length/\∃e,es[j-i]? = some e/\(∃k'',YE (Xr d) k k''=some true/\rel own imm k'' e.key)
 |[],es,i,r,hl,h,hf=>by
  simp[QL]at hf;subst hf
  cases es with
  |nil=>simp[Instr.findNow]
  |cons _ _=>simp at hl
 |(k',v')::kvs,[],i,r,hl,h,hf=>by simp at hl
 |(k',v')::kvs,e::es,i,r,hl,h,hf=>by
  have h0:=h 0 k' v' e rfl rfl;have Cg:∀b,YE (Xr d) k k'=some b->Instr.sameNow d kv e.key=some b:=by
   intro b hb;rcases Jc8 hb hk h0.1 with ⟨hd,j,p,q,hp,hq,rfl⟩|⟨hd,p,q,hp,hq,rfl⟩|⟨hd,p,q,hp,hq,rfl⟩
   ·rw[hp,hq];cases d <;> simp[Xr]at hd;simp[Instr.sameNow]
   ·rw[hp,hq];cases d <;> simp[Xr]at hd;simp[Instr.sameNow]
   ·rw[hp,hq];cases d <;> simp[Xr]at hd;simp[Instr.sameNow]
  simp only[QL]at hf
  split at hf
  ·rename_i hb
   cases hf
   refine⟨e.val,by simp[Instr.findNow,Cg _ hb],h0.2,Gi _,by simp,e,by simp,k',hb,h0.1⟩
  ·rename_i hb;have ih:=X7 hk kvs es (i+1) r (by simpa using hl) (λj k1 v1 e1 a1 a2=>h (j+1) k1 v1 e1 (by simpa using a1) (by simpa using a2)) hf
   cases r with
   |none=>simpa [Instr.findNow,Cg _ hb]using ih
   |some p=>
    obtain⟨j,v1⟩:=p;obtain⟨v,h1,h2,h3,h4,e1,h5,h6⟩:=ih;refine⟨v,by simpa [Instr.findNow,Cg _ hb]using h1,h2,by omega,by simp;omega,e1,?_,h6⟩;rw[show j-i=j-(i+1)+1 by omega];simpa using h5
  ·cases hf
theorem QY {empty:Bool}{t:TypeId}{d:TypeDesc}{k:Value}(hd:P.underlying t=some d)(hk:Xr d=.int\/Xr d=.str\/Xr d=.bool):(Instr.checkKey empty 10000 t k).run P w=.ok () w:=by
 rw[show (10000:Nat)=9999+1 from rfl,Instr.checkKey];simp only[Sem.run_bind,run_underlying hd,Result.andThen_ok]
 cases d <;> simp[Xr]at hk <;> rfl
theorem snd_lookup {t kt e:TypeId}{d:TypeDesc}{z:CV}{ok:Bool}{mo ko:Operand}{im ik:IArg}(ho:o.op=.lookup t mo ko ok)(hu:P.underlying t=some (.map kt e))(hd:P.underlying kt=some d)(hz:zeroVal P e=some z)(hm:JD mo=some im)(hk:JD ko=some ik)
  (CW:Xr d=.int\/Xr d=.str\/Xr d=.bool) (he:exec (.lookup (Xr d) z ok im ik) T H=some (c,v,H')) (hp:Pre E n0 m H w T a):Good P E n0 m H w (execOp a.eval o) v H':=by
 have h1:=JJ hp.tmps hm;have h2:=JJ hp.tmps hk;obtain⟨zv,bf,MM⟩:∃zv,(zeroValue e).run P w=.ok zv w/\rel m.own m.imm z zv:=by
  unfold zeroVal at hz
  cases hi:P.info? e with
  |none=>simp[hi]at hz
  |some i=>
   simp only[hi]at hz
   cases DJ:i.zero with
   |none=>simp[DJ]at hz
   |some zv=>simp only[DJ]at hz;exact⟨zv,by simp[zeroValue,typeInfo,hi,DJ],ofVal_rel _ _ hz⟩
 have fin:∀(cv:CV) (u:Value) (b:Bool),rel m.own m.imm cv u->rel m.own m.imm (if ok=true then CV.tup [cv,.bool b] else cv) (if ok=true then Value.tuple #[u,.bool b] else u):=by
  intro cv u b hr
  cases ok with
  |true=>simp only[if_true,rel];exact⟨_,rfl,by simp only[JS];exact⟨_,_,rfl,hr,_,_,rfl,rfl,rfl⟩⟩
  |false=>simpa using hr
 simp only[exec]at he
 split at he
 ·split at he
  ·rename_i e1;rw[e1]at h1;simp only[rel]at h1;simp only[Ga,Gb]at he;obtain⟨_,rfl,rfl⟩:=he;refine Jr hp.sim ?_ (fin z zv false MM);simp only[execOp,ho,Instr.lookup,h1,Sem.run_bind,run_underlying hu,Result.andThen_ok,Sem.run_pure,QY hd CW,Instr.findKey,run_underlying hd,Instr.findNow,bf]
  ·rename_i id e1;rw[e1]at h1;simp only[rel]at h1;obtain⟨x',Aq,hv⟩:=h1
   split at he
   ·rename_i kvs hH;obtain⟨es,clock,hb,Ad,DR⟩:=hp.sim.obj id _ x' hH Aq;have Ba:(getObj x'.B).run P w=.ok (.map es clock) w:=by simp[getObj,Sem.run,hb]
    split at he
    ·rename_i j v' hf;have:=X7 (d:=d) h2 kvs es.toList 0 _ (by simpa using Ad) (λj k1 v1 e1 a1 a2=>DR j k1 v1 e1 a1 (by simpa using a2)) hf;obtain⟨u,ah,hr,_⟩:=this;simp only[Ga,Gb]at he;obtain⟨_,rfl,rfl⟩:=he;refine Jr hp.sim ?_ (fin v' u true hr);simp only[execOp,ho,Instr.lookup,hv,Sem.run_bind,run_underlying hu,Result.andThen_ok,Sem.run_pure,Ba,QY hd CW,Instr.findKey,run_underlying hd,ah]
    ·rename_i hf;have:=X7 (d:=d) h2 kvs es.toList 0 _ (by simpa using Ad) (λj k1 v1 e1 a1 a2=>DR j k1 v1 e1 a1 (by simpa using a2)) hf;simp only at this;simp only[Ga,Gb]at he;obtain⟨_,rfl,rfl⟩:=he;refine Jr hp.sim ?_ (fin z zv false MM);simp only[execOp,ho,Instr.lookup,hv,Sem.run_bind,run_underlying hu,Result.andThen_ok,Sem.run_pure,Ba,QY hd CW,Instr.findKey,run_underlying hd,this,bf]
    ·cases he
   ·cases he
  ·cases he
 ·cases he
theorem Jfz {r:Nat}{es:Array MapEntry}{cl:Nat}{ob:Obj}(h:w.heap[r]? = some (.map es cl)):(setObj r ob).run P w=.ok () (w.putObj r ob):=by simp[setObj,Sem.run,h,World.putObj]
theorem good_map {s:Sem Next}{k:Nat}{kvs kvs':List (CV×CV)}{x:Own}{es es':Array MapEntry}{cl cl':Nat}(hp:Pre E n0 m H w T a)(hk:H[k]? = some (.map kvs))(hx:m.own[k]? = some x)(hb:w.heap[x.B]? = some (.map es cl))(Ag:s.run P w=.ok .skip (w.putObj x.B (.map es' cl')))
  (Ad:kvs'.length=es'.size) (DR:∀(i:Nat) k v e,kvs'[i]? = some (k,v)->es'[i]? = some e->rel m.own m.imm k e.key/\rel m.own m.imm v e.val):Good P E n0 m H w s .un (H.set k (.map kvs')):=by
 have Ab:x.B<w.heap.size:=(GN.1 hb).1;refine⟨m,_,undef,.skip,Ag,.inr ⟨rfl,rfl⟩,Ext.put hk rfl hx World.putObj_size (λB hB=>World.putObj_heap_other hB) ⟨rfl,rfl,rfl⟩,?_,by simp[rel],KN.refl _⟩;refine hp.sim.put hk rfl hx World.putObj_size (λB hB=>World.putObj_heap_other hB) (λi hi=>?_) ⟨es',cl',World.putObj_heap_same Ab,Ad,DR⟩ (by intro s b h;cases h);simp[World.cell?,hb,World.putObj_heap_same Ab]
theorem JcU {own:List Own}{imm:Nat->Nat->Option Value}{tk:TK}{x y:CV}{u u':Value}(h:YE tk x y=some true)(hx:rel own imm x u)(hy:rel own imm y u'):Instr.sameBits 10000 u' u=true:=by
 rcases Jc8 h hx hy with ⟨_,k',p,q,rfl,rfl,hb⟩|⟨_,p,q,rfl,rfl,hb⟩|⟨_,p,q,rfl,rfl,hb⟩
 ·have:p=q:=by simpa using hb.symm
  subst this;simp[Instr.sameBits]
 ·rw[beq_toListBytes]at hb;have:p.toList=q.toList:=by simpa using hb.symm
  simp[Instr.sameBits,beq_toListBytes,this]
 ·have:p=q:=by simpa using hb.symm
  subst this;simp[Instr.sameBits]
theorem Jfv {t kt e:TypeId}{d:TypeDesc}{mo ko vo:Operand}{im ik iv:IArg}(ho:o.op=.mapUpdate t mo ko vo\/o.op=.insert t mo ko vo)(hu:P.underlying t=some (.map kt e))(hd:P.underlying kt=some d)(hm:JD mo=some im)(hk:JD ko=some ik)(hv:JD vo=some iv)
  (CW:Xr d=.int\/Xr d=.str\/Xr d=.bool) (he:exec (.mapset (Xr d) im ik iv) T H=some (c,v,H')) (hp:Pre E n0 m H w T a):Good P E n0 m H w (execOp a.eval o) v H':=by
 have h1:=JJ hp.tmps hm;have h2:=JJ hp.tmps hk;have h3:=JJ hp.tmps hv;simp only[exec]at he
 split at he
 ·split at he
  ·rename_i id e1;rw[e1]at h1;simp only[rel]at h1;obtain⟨x',Aq,Pg⟩:=h1
   split at he
   ·rename_i kvs hH;obtain⟨es,clock,hb,Ad,DR⟩:=hp.sim.obj id _ x' hH Aq;have Ba:(getObj x'.B).run P w=.ok (.map es clock) w:=by simp[getObj,Sem.run,hb]
    split at he
    ·rename_i j v' hf;have:=X7 (d:=d) h2 kvs es.toList 0 _ (by simpa using Ad) (λj k1 v1 e1 a1 a2=>DR j k1 v1 e1 a1 (by simpa using a2)) hf;obtain⟨u,ah,hr,_,Bc,en,bV,k'',MB,D9⟩:=this;simp only[Ga,Gb]at he;obtain⟨_,rfl,rfl⟩:=he;simp only[Nat.sub_zero]at bV Bc;have eX:=JcU MB h2 D9;have RY:es[j]? = some en:=by simpa using bV
     refine good_map (es':=es.modify j λe=>{ e with key:=a.eval ko,val:=a.eval vo }) (cl':=clock) hp hH Aq hb ?_ (by simp[Ad]) ?_
     ·rcases ho with ho|ho <;> simp only[execOp,ho,Instr.mapUpdate,Pg,Sem.run_bind,run_underlying hu,Result.andThen_ok,Ba,QY hd CW,Instr.findKey,run_underlying hd,ah,Sem.run_pure,RY,Ht,GM,Instr.keyThatStays,eX,if_true,Jfz hb]
     ·intro i k1 v1 e1 a1 a2;rw[Gl]at a1;rw[Array.getElem?_modify]at a2
      split at a1
      ·rename_i Cw;subst Cw
       cases a1
       simp[RY]at a2;subst a2;exact⟨h2,h3⟩
      ·rename_i Cw;rw[if_neg Cw]at a2;exact DR i k1 v1 e1 a1 a2
    ·rename_i hf;have:=X7 (d:=d) h2 kvs es.toList 0 _ (by simpa using Ad) (λj k1 v1 e1 a1 a2=>DR j k1 v1 e1 a1 (by simpa using a2)) hf;simp only at this;simp only[Ga,Gb]at he;obtain⟨_,rfl,rfl⟩:=he;refine good_map (es':=es.push { key:=a.eval ko,val:=a.eval vo,born:=clock }) (cl':=clock+1) hp hH Aq hb ?_ (by simp[Ad]) ?_
     ·rcases ho with ho|ho <;> simp only[execOp,ho,Instr.mapUpdate,Pg,Sem.run_bind,run_underlying hu,Result.andThen_ok,Ba,QY hd CW,Instr.findKey,run_underlying hd,this,Sem.run_pure,Jfz hb]
     ·intro i k1 v1 e1 a1 a2;by_cases Ab:i<kvs.length
      ·rw[Gc Ab]at a1;rw[GA (by omega)]at a2;exact DR i k1 v1 e1 a1 (by rw[Gv (by omega)];exact a2)
      ·have hi:i<(kvs++[(Ka T ik,Ka T iv)]).length:=(Gd.1 a1).1;have:i=kvs.length:=by simp at hi;omega
       subst this;simp at a1;rw[Ad]at a2;simp at a2;subst a2;obtain⟨rfl,rfl⟩:=a1;exact⟨h2,h3⟩
    ·cases he
   ·cases he
  ·cases he
 ·cases he
theorem snd_len {t:TypeId}{cl:Call}{x:Operand}{i:IArg}{d:TypeDesc}(ho:o.op=.call cl)(Ci:cl.callee=.builtin .len)(Cs:cl.argTypes.toList=[t])(Dz:cl.args.toList=[x])(hd:P.underlying t=some d)(hx:JD x=some i)
  (he:exec (.len (Xr d) i) T H=some (c,v,H')) (hp:Pre E n0 m H w T a):Good P E n0 m H w (execOp a.eval o) v H':=by
 have h1:=JJ hp.tmps hx;have EF:cl.argTypes=#[t]:=by cases hh:cl.argTypes;simp_all
 have Bw:cl.args=#[x]:=by cases hh:cl.args;simp_all
 have Ag:∀(r:Value),(Builtin.len_ #[t] o.type #[a.eval x]).run P w=.ok r w->(execOp a.eval o).run P w=.ok (.value r) w:=by
  intro r hr;simp[execOp,ho,resolve,Ci,invoke,builtin,EF,Bw,hr]
 have tkm:Xr d=.map->∃k e,d=.map k e:=by intro h;cases d <;> simp[Xr]at h;exact⟨_,_,rfl⟩
 have tks:Xr d=.str->d=.string:=by intro h;cases d <;> simp[Xr]at h;rfl
 simp only[exec]at he
 split at he
 ·rename_i s e1;rw[e1]at h1;simp only[rel]at h1
  split at he
  ·rename_i hk;simp only[Ga,Gb]at he;obtain⟨_,rfl,rfl⟩:=he;obtain rfl:=tks hk;exact Jr hp.sim (Ag _ (by simp[Builtin.len_,run_underlying hd,h1,goInt])) rfl
  ·cases he
 ·rename_i e1;rw[e1]at h1;simp only[rel]at h1
  split at he
  ·rename_i hk;simp only[Ga,Gb]at he;obtain⟨_,rfl,rfl⟩:=he;obtain⟨e,rfl⟩:=XA hk;exact Jr hp.sim (Ag (.int .i64 0) (by simp[Builtin.len_,run_underlying hd,h1,goInt])) rfl
  ·cases he
 ·rename_i id off len cap e1;rw[e1]at h1;simp only[rel]at h1;obtain⟨x',ba,rc,Aq,hv,_⟩:=h1
  split at he
  ·rename_i hk;simp only[Ga,Gb]at he;obtain⟨_,rfl,rfl⟩:=he;obtain⟨e,rfl⟩:=XA hk;exact Jr hp.sim (Ag _ (by simp[Builtin.len_,run_underlying hd,hv,goInt])) rfl
  ·cases he
 ·rename_i z els cap e1;rw[e1]at h1;simp only[rel]at h1
  split at he
  ·rename_i hk;simp only[Ga,Gb]at he;obtain⟨_,rfl,rfl⟩:=he;obtain⟨e,rfl⟩:=XA hk;rcases h1 with ⟨_,rfl,b,hv⟩|⟨B,q,rc,hv,_⟩
   ·exact Jr hp.sim (Ag (.int .i64 0) (by simp[Builtin.len_,run_underlying hd,hv,goInt])) rfl
   exact Jr hp.sim (Ag _ (by simp[Builtin.len_,run_underlying hd,hv,goInt])) rfl
  ·cases he
 ·rename_i e1;rw[e1]at h1;simp only[rel]at h1
  split at he
  ·rename_i hk;simp only[Ga,Gb]at he;obtain⟨_,rfl,rfl⟩:=he;obtain⟨k,e,rfl⟩:=tkm hk;exact Jr hp.sim (Ag (.int .i64 0) (by simp[Builtin.len_,run_underlying hd,h1,goInt])) rfl
  ·cases he
 ·rename_i id e1;rw[e1]at h1;simp only[rel]at h1;obtain⟨x',Aq,hv⟩:=h1
  split at he
  ·rename_i kvs hH;obtain⟨es,clock,hb,Ad,DR⟩:=hp.sim.obj id _ x' hH Aq;have Ba:(getObj x'.B).run P w=.ok (.map es clock) w:=by simp[getObj,Sem.run,hb]
   split at he
   ·rename_i hk;simp only[Ga,Gb]at he;obtain⟨_,rfl,rfl⟩:=he;obtain⟨k,e,rfl⟩:=tkm hk;refine Jr (r:=.int .i64 es.size) hp.sim (Ag _ (by simp[Builtin.len_,run_underlying hd,hv,Ba,goInt])) ?_;simp only[rel,Ad]
   ·cases he
  ·cases he
 ·cases he
end
end
section
section
variable {P:Program}{E:Env}{n0:Nat}{m:Bk}{H H':List CObj}{w:World}{T:List CV}{a:Act}{c:Cond}{v:CV}{o:Oper}
theorem run_sliceBound {k:IntKind}{i:Int}{y:Nat}{code:BoundsCode}(h0:0<=i)(h1:i<=y):(Instr.sliceBound (.int k i) y code).run P w=.ok i.toNat w:=by
 simp[Instr.sliceBound,asIntOf,h0,h1]
theorem Jeg {len cap:Nat}{lo hi mx:Option Value}{l h:Int}{mm:Nat}
  (I5:(lo=none/\l=0)\/∃k,lo=some (.int k l)) (FZ:(hi=none/\mx=none/\h=len)\/∃k,hi=some (.int k h))
  (Ms:(mx=none/\mm=cap)\/∃k q,mx=some (.int k q)/\mm=q.toNat/\0<=q/\q<=cap) (h0:0<=l) (h1:l<=h) (h2:h<=mm) :
  (Instr.sliceBounds true len cap lo hi mx).run P w=.ok (l.toNat,h.toNat,mm) w:=by
 have hh:(h.toNat:Int)=h:=by omega
 unfold Instr.sliceBounds;rcases Ms with ⟨rfl,rfl⟩|⟨k,q,rfl,rfl,fB,Mo⟩
 ·rcases FZ with ⟨rfl,_,rfl⟩|⟨k,rfl⟩
  ·rcases I5 with ⟨rfl,rfl⟩|⟨k,rfl⟩
   ·simp
   ·simp[run_sliceBound h0 h1]
  ·rcases I5 with ⟨rfl,rfl⟩|⟨k',rfl⟩
   ·simp[run_sliceBound (show (0:Int)<=h by omega) h2]
   ·simp[run_sliceBound (show (0:Int)<=h by omega) h2,run_sliceBound h0 (show l<=(h.toNat:Int) by omega)]
 ·rcases FZ with ⟨_,hn,_⟩|⟨k1,rfl⟩
  ·cases hn
  ·have e1:=run_sliceBound (P:=P) (w:=w) (k:=k) (code:=.slice3Acap) fB Mo;have e2:=run_sliceBound (P:=P) (w:=w) (k:=k1) (code:=.slice3B) (show (0:Int)<=h by omega) h2;rcases I5 with ⟨rfl,rfl⟩|⟨k',rfl⟩
   ·simp[e1,e2]
   ·have e3:=run_sliceBound (P:=P) (w:=w) (k:=k') (code:=.slice3C) h0 (show l<=(h.toNat:Int) by omega);simp[e1,e2,e3]
theorem opt_lo {T:List CV}{own:List Own}{imm:Nat->Nat->Option Value}(hT:JS own imm T a.tmps.toList){lo:Option Operand}{ilo:Option IArg}{l:Int}(h:QR lo=some ilo)(hl:XT T 0 ilo=some l):(lo.map a.eval=none/\l=0)\/∃k,lo.map a.eval=some (.int k l):=by
 cases lo with
 |none=>simp[QR]at h;subst h;simp[XT]at hl;exact .inl ⟨rfl,hl.symm⟩
 |some x=>
  simp only[QR]at h
  cases hx:JD x with
  |none=>simp[hx]at h
  |some i=>
   simp[hx]at h;subst h;have:=JJ hT hx;simp only[XT]at hl;unfold Ja6 at hl
   split at hl
   ·rename_i k n e;rw[e]at this;simp only[rel]at this
    cases hl
    exact .inr ⟨k,by simp[this]⟩
   ·cases hl
theorem opt_int {T:List CV}{own:List Own}{imm:Nat->Nat->Option Value}(hT:JS own imm T a.tmps.toList){x:Operand}{i:IArg}{n:Int}(hx:JD x=some i)(h:Ja6 (Ka T i)=some n):∃k,a.eval x=.int k n:=by
 have:=JJ hT hx;unfold Ja6 at h
 split at h
 ·rename_i k n' e;rw[e]at this;simp only[rel]at this
  cases h
  exact⟨k,this⟩
 ·cases h
theorem slice_sound {z:Nat}{x v:CV}{xv:Value}{own:List Own}{imm:Nat->Nat->Option Value}{l h:Int}{mx:Option Int}(hs:Sim E m H w)(ho:own=m.own)(hi:imm=m.imm)(hx:rel own imm x xv)(he:XR z H x l h mx=some (c,v))(hc:c.holds) :
  ∃ba len cap,xv=.slice ba len cap/\0<=l/\l<=h/\h<=(mx.getD cap).toNat/\h<=len/\(∀q,mx=some q->0<=q/\q<=cap)/\
   rel own imm v (.slice (if (mx.getD cap).toNat=l.toNat then ba else ba.map (·.add (l.toNat*z))) (h.toNat-l.toNat) ((mx.getD cap).toNat-l.toNat))/\
   exLen x=some len:=by
 subst ho;subst hi
 cases x with
 |nils=>
  simp only[XR]at he;simp only[rel]at hx;subst hx
  split at he
  ·cases he
   simp only[Cond.holds]at hc;obtain⟨h1,h2,h3⟩:=hc;refine⟨none,0,0,rfl,h1,h2,by simp;omega,by simpa using h3,by simp,?_,rfl⟩;have:l=0:=by omega
   have:h=0:=by omega
   subst l;subst h;simp[rel]
  ·cases he
 |rslc z' els cap=>
  simp only[XR]at he;simp only[rel]at hx;rcases hx with ⟨Dx,rfl,b0,rfl⟩|⟨B,q,rc,rfl,C9,Bi,AB⟩
  ·rcases Dx with rfl|rfl
   all_goals
    by_cases hz:z'=z
    ·subst hz;simp only[if_true]at he
     cases mx with
     |none=>
      simp only at he
      cases he
      simp only[Cond.holds]at hc;obtain⟨h1,h2,h3⟩:=hc;refine⟨b0,0,0,rfl,h1,h2,by simp at h3|-;omega,by simpa using h3,by simp,?_,rfl⟩;have:l=0:=by simp at h3;omega
      have:h=0:=by simp at h3;omega
      subst l;subst h;simp[rel]
     |some mq=>
      simp only at he
      cases he
      simp only[Cond.holds]at hc;obtain⟨h1,h2,h3,h4,h5⟩:=hc;simp at h4 h5;refine⟨b0,0,0,rfl,h1,h2,by simp;omega,by simpa using h4,by intro q' Rj;cases Rj;omega,?_,rfl⟩;have:l=0:=by omega
      have:h=0:=by omega
      have:mq=0:=by omega
      subst l;subst h;subst mq;simp[rel]
    ·simp[hz]at he
  by_cases hz:z'=z
  ·subst hz;simp only[if_true]at he;have Rb:=(Qh _ _).1 AB;have sub:∀(k:Nat),k≠l.toNat->(h.toNat<=els.length)->XC m.imm z' ((els.drop l.toNat).take (h.toNat-l.toNat)) (m.imm B) (q+l.toNat*z'):=by
    intro k _ _;rw[Qh];intro j e hj;have IK:j<h.toNat-l.toNat:=by have:=(Gd.1 hj).1;simp at this;omega
    rw[Gq IK,Gr]at hj;have:=Rb _ _ hj;rw[Gf]at this;refine⟨this.1,λt c hc=>?_⟩;have:=this.2 t c hc;rw[show q+l.toNat*z' + j*z' + t=q+(l.toNat*z' + j*z')+t by omega];exact this
   cases mx with
   |none=>
    simp only at he
    cases he
    simp only[Cond.holds]at hc;obtain⟨h1,h2,h3⟩:=hc;refine⟨some ⟨B,q,none⟩,els.length,rc,rfl,h1,h2,by simp;omega,h3,by simp,?_,rfl⟩;simp only[Lm,Lh,rel];have Ad:((els.drop l.toNat).take (h.toNat-l.toNat)).length=h.toNat-l.toNat:=by simp;omega
    have Od:∀n,Hu (λx=>x-l.toNat) cap=some n->rc-l.toNat=n:=by
     intro n hn
     cases cap with
     |none=>simp at hn
     |some c0=>simp at hn;rw[Bi c0 rfl];exact hn
    by_cases hm:rc=l.toNat
    ·rw[if_pos hm];refine .inr ⟨B,q,rc-l.toNat,by rw[Ad],by rw[Ad];omega,Od,?_⟩;have:((els.drop l.toNat).take (h.toNat-l.toNat))=[]:=Gx (by rw[Ad];omega);rw[this];simp[XC]
    ·rw[if_neg hm];refine .inr ⟨B,q+l.toNat*z',rc-l.toNat,by rw[Ad];simp[addr_add],by rw[Ad];omega,Od,sub rc hm (by omega)⟩
   |some mq=>
    simp only at he
    cases he
    simp only[Cond.holds]at hc;obtain⟨h1,h2,h3,h4,h5⟩:=hc;have hq:mq<=rc:=by
     cases cap with
     |none=>simp at h5;omega
     |some c0=>simp at h5;have:=Bi c0 rfl;omega
    refine⟨some ⟨B,q,none⟩,els.length,rc,rfl,h1,h2,by simp;omega,h4,by intro q' Rj;cases Rj;omega,?_,rfl⟩;simp only[GM,rel];have Ad:((els.drop l.toNat).take (h.toNat-l.toNat)).length=h.toNat-l.toNat:=by simp;omega
    by_cases hm:mq.toNat=l.toNat
    ·rw[if_pos hm];refine .inr ⟨B,q,mq.toNat-l.toNat,by rw[Ad],by rw[Ad];omega,by intro n hn;cases cap <;> simp at hn;exact hn,?_⟩;have:((els.drop l.toNat).take (h.toNat-l.toNat))=[]:=Gx (by rw[Ad];omega);rw[this];simp[XC]
    ·rw[if_neg hm];refine .inr ⟨B,q+l.toNat*z',mq.toNat-l.toNat,by rw[Ad];simp[addr_add],by rw[Ad];omega,by intro n hn;cases cap <;> simp at hn;exact hn,sub mq.toNat hm (by omega)⟩
  ·simp[hz]at he
 |slc id off len cap=>
  simp only[XR]at he;simp only[rel]at hx;obtain⟨x',ba,rc,Aq,rfl,C9,Bi,Ih,A9⟩:=hx
  split at he
  ·rename_i z' els hH;by_cases hz:z'=z
   ·subst hz;simp only[if_true]at he;have Oj:x'.z=z':=(hs.obj id _ x' hH Aq).1;have addr:∀mm:Nat,mm<=rc->l.toNat<=mm->(mm-l.toNat≠0->(if mm=l.toNat then some ba else Hu (λx=>x.add (l.toNat*z')) (some ba))=some ⟨x'.B,x'.o+(off+l.toNat)*x'.z,none⟩):=by
     intro mm h1 h2 h3;rw[iN7];have:=Ih (by omega);subst this;simp only[Ht,addr_add,Oj,Gf,GY]
    have bnd:∀mm:Nat,mm<=rc->l.toNat<=mm->x'.o+(off+l.toNat)*x'.z+(mm-l.toNat)*x'.z<=x'.n:=by
     intro mm h1 h2;have:off*x'.z+rc*x'.z=(off+rc)*x'.z:=(Gf _ _ _).symm;have h3:(off+l.toNat)*x'.z+(mm-l.toNat)*x'.z=(off+mm)*x'.z:=by rw[<-Gf];congr 1;omega
     have h4:(off+mm)*x'.z<=(off+rc)*x'.z:=Gh _ (by omega);omega
    have some_addr:∀mm:Nat,∃a',(if mm=l.toNat then some ba else Hu (λx=>x.add (l.toNat*z')) (some ba))=some a':=by
     intro mm;split
     ·exact⟨_,rfl⟩
     ·exact⟨_,rfl⟩
    cases mx with
    |none=>
     simp only at he
     cases he
     simp only[Cond.holds]at hc;obtain⟨h1,h2,h3⟩:=hc;refine⟨some ba,len,rc,rfl,h1,h2,by simp;omega,h3,by simp,?_,rfl⟩;simp only[Lm,Lh,rel];obtain⟨a',AX⟩:=some_addr rc;refine⟨x',a',rc-l.toNat,Aq,by rw[AX],by omega,?_,λh=>?_,bnd rc (Gi _) (by omega)⟩
     ·intro n hn
      cases cap with
      |none=>simp at hn
      |some c0=>simp at hn;rw[Bi c0 rfl];exact hn
     ·have:=addr rc (Gi _) (by omega) h;rw[AX]at this;cases this;rfl
    |some mq=>
     simp only at he
     cases he
     simp only[Cond.holds]at hc;obtain⟨h1,h2,h3,h4,h5⟩:=hc;have hq:mq<=rc:=by
      cases cap with
      |none=>simp at h5;omega
      |some c0=>simp at h5;have:=Bi c0 rfl;omega
     refine⟨some ba,len,rc,rfl,h1,h2,by simp;omega,h4,by intro q' Rj;cases Rj;omega,?_,rfl⟩;simp only[GM,rel];obtain⟨a',AX⟩:=some_addr mq.toNat;refine⟨x',a',mq.toNat-l.toNat,Aq,by rw[AX],by omega,by simp,λh=>?_,bnd mq.toNat (by omega) (by omega)⟩;have:=addr mq.toNat (by omega) (by omega) h;rw[AX]at this;cases this;rfl
   ·simp[hz]at he
  ·cases he
 |_=>simp[XR]at he
theorem snd_slice {t e:TypeId}{z:Nat}{x:Operand}{lo hi mx:Option Operand}{ix:IArg}{ilo ihi imx:Option IArg}(ho:o.op=.slice t x lo hi mx)(hd:P.underlying t=some (.slice e))(hz:Jdi P e=some z)(hx:JD x=some ix)(I5:QR lo=some ilo)(FZ:QR hi=some ihi)(Ms:QR mx=some imx)(BJ:¬(hi.isNone=true/\mx.isSome=true))
  (he:exec (.slice z ix ilo ihi imx) T H=some (c,v,H')) (hc:c.holds) (hp:Pre E n0 m H w T a):Good P E n0 m H w (execOp a.eval o) v H':=by
 have h1:=JJ hp.tmps hx;simp only[exec]at he
 split at he
 ·rename_i l h q hl hh hq
  split at he
  ·rename_i c' v' hs;simp only[Ga,Gb]at he;obtain⟨rfl,rfl,rfl⟩:=he;obtain⟨ba,len,cap,UC,b0,b1,b2,b3,b4,hr,Eh⟩:=slice_sound hp.sim rfl rfl h1 hs hc;have plo:=opt_lo (a:=a) hp.tmps I5 hl;have phi:((hi.map a.eval=none)/\(mx.map a.eval=none)/\h=len)\/∃k,hi.map a.eval=some (.int k h):=by
    cases hi with
    |none=>
     simp[QR]at FZ;subst FZ;refine .inl ⟨rfl,?_,?_⟩
     ·cases mx with
      |none=>rfl
      |some _=>simp at BJ
     ·simp only[exHi,Eh,Ga]at hh;exact hh.symm
    |some y=>
     simp only[QR]at FZ
     cases hy:JD y with
     |none=>simp[hy]at FZ
     |some j=>
      simp[hy]at FZ;subst FZ;simp only[exHi]at hh;obtain⟨k,hk⟩:=opt_int (a:=a) hp.tmps hy hh;exact .inr ⟨k,by simp[hk]⟩
   have pmx:((mx.map a.eval=none)/\(q.getD cap).toNat=cap)\/∃k r,mx.map a.eval=some (.int k r)/\(q.getD cap).toNat=r.toNat/\0<=r/\r<=cap:=by
    cases mx with
    |none=>simp[QR]at Ms;subst Ms;simp[exMx]at hq;subst hq;exact .inl ⟨rfl,by simp⟩
    |some y=>
     simp only[QR]at Ms
     cases hy:JD y with
     |none=>simp[hy]at Ms
     |some j=>
      simp[hy]at Ms;subst Ms;simp only[exMx]at hq
      cases hj:Ja6 (Ka T j) with
      |none=>simp[hj]at hq
      |some r=>
       simp[hj]at hq;subst hq;obtain⟨k,hk⟩:=opt_int (a:=a) hp.tmps hy hj;have:=b4 r rfl;exact .inr ⟨k,r,by simp[hk],by simp,this.1,this.2⟩
   have hb:=Jeg (P:=P) (w:=w) (len:=len) plo phi pmx b0 b1 (by omega);refine Jr hp.sim ?_ hr;simp only[execOp,ho,Instr.sliceAt,Sem.run_bind,run_underlying hd,Result.andThen_ok,Instr.slice,UC,hb,Jdk hz,Sem.run_pure]
  ·cases he
 ·cases he
theorem Jam {own:List Own}{imm:Nat->Nat->Option Value}{z:List CV}{zv:Array Value}(hz:JS own imm z zv.toList)(n N:Nat)(h0:z.length≠0)(A9:n<=N):relO own imm z.length (Gs n z) (λi=>((GH (N*z.length)).map (λi=>zv[i % zv.size]!))[i]?) 0:=by
 have hl:=JK hz;have hs:zv.size=z.length:=by simpa using hl.symm
 intro j e he;have hj:j<n:=by have:=(Gd.1 he).1;simpa using this
 have:e=z:=by rw[List.getElem?_replicate,if_pos hj]at he;cases he;rfl
 subst this;refine⟨rfl,λt c hc=>?_⟩;have ht:t<e.length:=(Gd.1 hc).1;obtain⟨r,BU,Bf⟩:=XW hz hc;refine⟨r,?_,Bf⟩;have Ab:0+j*e.length+t<N*e.length:=by
  have:(j+1)*e.length<=N*e.length:=Gh _ (by omega);rw[Gf,Gt]at this;omega
 have U9:(0+j*e.length+t) % e.length=t:=by rw[GI,Nat.mul_comm,Nat.mul_add_mod];exact Nat.mod_eq_of_lt ht
 have SQ:t<zv.size:=by omega
 have:zv[t]! = r:=by
  have h3:zv[t]? = some r:=by simpa using BU
  simp[getElem!_def,h3]
 simp only[Hw,Array.getElem?_range,hs,U9,Ab,if_true,Ht,this]
theorem JgX {own:List Own}{imm:Nat->Nat->Option Value}{z:List CV}{zv:Array Value}(hz:JS own imm z zv.toList)(h1:Q5 z=true)(h0:z.length≠0){N:Nat}:∀(i:Nat) v,((GH N).map (λi=>zv[i % zv.size]!))[i]? = some v->v.oneCell'=true:=by
 intro i v hv;have hl:=JK hz;have hs:zv.size=z.length:=by simpa using hl.symm
 simp only[Hw]at hv
 cases hr:(GH N)[i]? with
 |none=>simp[hr]at hv
 |some j=>
  simp[hr]at hv;have Ab:j % zv.size<zv.size:=Nat.mod_lt _ (by omega);subst hv;exact Ym hz h1 _ (by simp[getElem!_def,Gv Ab])
theorem snd_mkslice {t e:TypeId}{z:List CV}{i:TypeInfo}{lo co:Operand}{il ic:IArg}(ho:o.op=.makeSlice t lo co)(hd:P.underlying t=some (.slice e))(hz:zeroOf P e=some z)(hi:P.info? e=some i)(hl:JD lo=some il)(E5:JD co=some ic)(h0:z.length≠0)
  (he:exec (.mkslice z.length i.bytes z il ic) T H=some (c,v,H')) (hc:c.holds) (hp:Pre E n0 m H w T a):Good P E n0 m H w (execOp a.eval o) v H':=by
 have h1:=JJ hp.tmps hl;have h2:=JJ hp.tmps E5;obtain⟨i',zv,Da,_,Ag,Ao,Ad,Mi⟩:=YJ (w:=w) hz;rw[hi]at Da;cases Da;simp only[exec]at he
 split at he
 ·rename_i l cc e1 e2;rw[e1]at h1;rw[e2]at h2;simp only[rel]at h1 h2;simp only[Ga,Gb]at he;obtain⟨rfl,rfl,rfl⟩:=he;simp only[Cond.holds]at hc;obtain⟨Dx,Dc,Dj,jA⟩:=hc;have fT:IntKind.i64.wrap l=l:=InR.wrap (k:=.i64) ⟨by simp[IntKind.min,IntKind.signed,IntKind.bits];omega,by simp[IntKind.max,IntKind.signed,IntKind.bits];omega⟩;have gU:IntKind.i64.wrap cc=cc:=InR.wrap (k:=.i64) ⟨by simp[IntKind.min,IntKind.signed,IntKind.bits];omega,by simp[IntKind.max,IntKind.signed,IntKind.bits];omega⟩;have t1:¬(cc<0\/281474976710656<(i.bytes:Int)*cc):=by omega
  have Bh:=JK (Ao m.own m.imm);have Pe:zv.cells.size=z.length:=by simpa using Bh.symm
  have Af:i.size=z.length:=Ad.symm;refine good_row (r:=.slice (some ⟨w.heap.size,0,none⟩) l.toNat cc.toNat) (cells:=(GH (cc.toNat*z.length)).map (λj=>zv.cells[j % zv.cells.size]!)) (elem:=e) (z:=z.length) hp.sim ?_ ?_ (Jam (Ao _ _) _ _ h0 (by omega)) (JgX (Ao m.own m.imm) Mi h0) ?_
  ·have BA:(sizeOf e).run P w=.ok z.length w:=by simp[sizeOf,typeInfo,hi,Af]
   have t2:((decide (cc<0) || decide ((i.bytes:Int)*cc > 2 ^ 48)) || decide (l<0) || decide (l > cc))=false:=by
    simp only[Bool.or_eq_false_iff,decide_eq_false_iff_not];have:(2:Int) ^ 48=281474976710656:=rfl;rw[this];omega
   simp only[execOp,ho,Instr.makeSlice,Sem.run_bind,run_underlying hd,Result.andThen_ok,h1,h2,asInt,asIntOf,Sem.run_pure,typeInfo,run_program,hi,fT,gU,t2];simp only[Gu,if_false,Sem.run_bind,run_askRoom,Result.andThen_ok,BA,newRow];by_cases hn:cc.toNat*z.length=0
   ·simp[hn];congr 2;exact Array.ext (by simp) (λi h1 _=>by simp at h1)
   ·simp[hn,Ag]
  ·simp;exact Gh _ (by omega)
  ·simp only[rel];refine⟨_,_,_,Jep hp.sim _,rfl,by omega,by simp,λ_=>by simp,by simp⟩
 ·cases he
end
end
section
section
variable {P:Program}{E:Env}{n0:Nat}{m:Bk}{H H':List CObj}{w:World}{T:List CV}{a:Act}{c:Cond}{v:CV}{o:Oper}
def Yg (own:List Own)(imm:Nat->Nat->Option Value)(z:Nat)(els:List (List CV))(vs:List Value):Prop:=(∀e∈els,e.length=z)/\JS own imm els.flatten vs
theorem Yg.relO {own:List Own}{imm:Nat->Nat->Option Value}{z:Nat}{els:List (List CV)}{vs:List Value}(h:Yg own imm z els vs){R:Nat->Option Value}{o:Nat}(hR:∀(i:Nat) v,vs[i]? = some v->R (o+i)=some v):relO own imm z els R o:=
 relO_flat els o R h.1 λi c hc=>let ⟨v,hv,hr⟩:=XW h.2 hc;⟨v,hR i v hv,hr⟩
theorem Yg.len {own:List Own}{imm:Nat->Nat->Option Value}{z:Nat}{els:List (List CV)}{vs:List Value}(h:Yg own imm z els vs):vs.length=els.length*z:=by
 rw[<-JbL els h.1,JK h.2]
theorem Yg.append {own:List Own}{imm:Nat->Nat->Option Value}{z:Nat}{els els':List (List CV)}{vs vs':List Value}(h:Yg own imm z els vs)(h':Yg own imm z els' vs'):Yg own imm z (els++els') (vs++vs'):=
 ⟨λe he=>by rcases GG.1 he with h1|h1;exact h.1 e h1;exact h'.1 e h1,by rw[List.flatten_append];exact QQ h.2 h'.2⟩
theorem JaR {own:List Own}{imm:Nat->Nat->Option Value}{z:Nat}:∀{els:List (List CV)}{R:Nat->Option Value}{o:Nat},relO own imm z els R o->∃vs,Yg own imm z els vs/\∀(i:Nat) v,vs[i]? = some v->R (o+i)=some v:=by
 intro els R o h;obtain⟨hz,hf⟩:=flat_relO els o R h;have key:∀(l:List CV) (o:Nat),(∀(i:Nat) c,l[i]? = some c->∃r,R (o+i)=some r/\rel own imm c r)->∃vs,JS own imm l vs/\∀(i:Nat) v,vs[i]? = some v->R (o+i)=some v:=by
  intro l
  induction l with
  |nil=>intro o _;exact⟨[],by simp[JS],λi v hv=>by simp at hv⟩
  |cons c l ih=>
   intro o h;obtain⟨r,hr,Ao⟩:=h 0 c rfl;obtain⟨vs,h1,h2⟩:=ih (o+1) (λi d hd=>by have:=h (i+1) d (by simpa using hd);rw[show o+(i+1)=o+1+i by omega]at this;exact this);refine⟨r::vs,by simp only[JS];exact⟨r,vs,rfl,Ao,h1⟩,λi v hv=>?_⟩
   cases i with
   |zero=>simp at hv;subst hv;simpa using hr
   |succ i=>simp at hv;have:=h2 i v hv;rw[show o+(i+1)=o+1+i by omega];exact this
 obtain⟨vs,h1,h2⟩:=key _ o hf;exact⟨vs,⟨hz,h1⟩,h2⟩
theorem Jel {own:List Own}{imm:Nat->Nat->Option Value}{z:Nat}{els:List (List CV)}{R:Nat->Option Value}{o:Nat}(h:XC imm z els R o):relO own imm z els R o:=
 λj e he=>⟨((Qh _ _).1 h j e he).1,λt c hc=>let ⟨r,h1,h2⟩:=((Qh _ _).1 h j e he).2 t c hc;⟨r,h1,rel_weak h2⟩⟩
theorem relO_sub {own:List Own}{imm:Nat->Nat->Option Value}{z:Nat}{els:List (List CV)}{R:Nat->Option Value}{o:Nat}(h:relO own imm z els R o)(d:Nat):relO own imm z (els.drop d) R (o+d*z):=by
 intro j e he;rw[Gr]at he;have:=h _ e he;rw[Gf]at this;refine⟨this.1,λt c hc=>?_⟩;rw[show o+d*z+j*z+t=o+(d*z+j*z)+t by omega];exact this.2 t c hc
theorem relO_take {own:List Own}{imm:Nat->Nat->Option Value}{z:Nat}{els:List (List CV)}{R:Nat->Option Value}{o:Nat}(h:relO own imm z els R o)(n:Nat):relO own imm z (els.take n) R o:=by
 intro j e he;rw[G5]at he
 split at he
 ·exact h j e he
 ·cases he
theorem JeZ {z:Nat}{x:CV}{xv:Value}{xs:List (List CV)}(hs:Sim E m H w)(hx:rel m.own m.imm x xv)(he:Jhr H z x=some xs) :
  ∃news:List Value,Yg m.own m.imm z xs news/\(∀w,(Builtin.lenOf xv).run P w=.ok xs.length w)/\(∀n,n<=xs.length->∀w',w'.heap=w.heap->(Builtin.firstCells z n xv).run P w'=.ok (news.take (n*z)).toArray w')/\(∀v∈news,v.oneCell'=true):=by
 have rd:∀(B o len cap:Nat) (els:List (List CV)) (news:List Value),xv=.slice (some ⟨B,o,none⟩) len cap->Yg m.own m.imm z els news->(∀(i:Nat) v,news[i]? = some v->w.cell? ⟨B,o+i,none⟩=some v)->∀n,n<=els.length->∀w',w'.heap=w.heap->(Builtin.firstCells z n xv).run P w'=.ok (news.take (n*z)).toArray w':=by
  intro B o len cap els news UC Ap hc n hn w' hw;rw[UC];have Dq:n*z<=els.length*z:=Gh z hn;refine run_firstCells_some w' z n ⟨B,o,none⟩ len cap (news.take (n*z)) (by rw[Gn,Ap.len];omega) (λj v hv=>?_);rw[G5]at hv
  split at hv
  ·rw[addr_add];exact(cell?_congr (by rw[hw])).trans (hc j v hv)
  ·cases hv
 cases x with
 |nils=>
  simp[Jhr]at he;subst he;simp only[rel]at hx;subst hx;exact⟨[],⟨by simp,by simp[JS]⟩,λw=>by simp[Builtin.lenOf],λn _ w' _=>by simp[Builtin.firstCells],by simp⟩
 |slc id off len cap=>
  simp only[Jhr]at he;simp only[rel]at hx;obtain⟨x',ba,rc,Aq,rfl,C9,Bi,Ih,A9⟩:=hx
  split at he
  ·rename_i z' els hH
   split at he
   ·rename_i Ed;obtain⟨rfl,Bb⟩:=Ed
    cases he
    obtain⟨hz,cells,elem,hb,BA,FW,AB,BQ⟩:=hs.obj id _ x' hH Aq;have DV:=relO_take (relO_sub AB off) len;rw[hz]at DV;obtain⟨news,Ap,hR⟩:=JaR DV;have Ad:((els.drop off).take len).length=len:=by simp;omega
    refine⟨news,Ap,λw=>by simp[Builtin.lenOf,Ad],λn hn w' hw=>?_,λv hv=>by
     obtain⟨i,hi⟩:=Gy hv;exact BQ _ v (hR i v hi)⟩
    by_cases h0:rc=0
    ·have:len=0:=by omega
     subst this;have hn:news=[]:=Gx (by rw[Ap.len,Ad];simp);subst hn;have:n=0:=by rw[Ad]at hn;omega
     subst this;simp[Builtin.firstCells,loadCells,loadCellsFrom]
    ·have:=Ih h0;subst this;have:=rd x'.B (x'.o+off*x'.z) len rc ((els.drop off).take len) news rfl Ap (λi v hv=>by
      have:=hR i v hv;rw[hz];simp only[World.cell?,hb];simpa using this) n hn w' hw
     exact this
   ·cases he
  ·cases he
 |rslc z' els cap=>
  simp only[Jhr]at he;simp only[rel]at hx;rcases hx with ⟨_,rfl,b,rfl⟩|⟨B,q,rc,rfl,C9,Bi,AB⟩
  ·split at he
   ·cases he
    exact⟨[],⟨by simp,by simp[JS]⟩,λw=>by simp[Builtin.lenOf],λn hn w' _=>by
     have:n=0:=by simpa using hn
     subst this
     cases b <;> simp[Builtin.firstCells,loadCells,loadCellsFrom],by simp⟩
   ·cases he
  split at he
  ·rename_i hz;subst hz
   cases he
   obtain⟨news,Ap,hR⟩:=JaR (Jel (own:=m.own) AB);exact⟨news,Ap,λw=>by simp[Builtin.lenOf],λn hn w' hw=>rd B q _ rc xs news rfl Ap (λi v hv=>hs.imm _ _ _ (hR i v hv)) n hn w' hw,λv hv=>by
    obtain⟨i,hi⟩:=Gy hv;exact hs.one _ _ v (hR i v hi)⟩
  ·cases he
 |str s=>
  simp only[Jhr]at he;simp only[rel]at hx;subst hx
  split at he
  ·rename_i hz;subst hz
   cases he
   refine⟨s.data.toList.map λb=>.int .u8 b.toNat,⟨by simp,?_⟩,λw=>by simp[Builtin.lenOf],λn hn w' _=>?_,λv hv=>by
    obtain⟨b,_,rfl⟩:=List.mem_map.1 hv;rfl⟩
   ·have:(s.data.toList.map λb=>[CV.int .u8 (b.toNat:Int)]).flatten=s.data.toList.map λb=>CV.int .u8 (b.toNat:Int):=by
     induction s.data.toList with
     |nil=>rfl
     |cons b l ih=>simp[ih]
    rw[this,XB];refine⟨by simp,λi c v hc hv=>?_⟩;rw[H9]at hc hv
    cases hb:s.data.toList[i]? with
    |none=>simp[hb]at hc
    |some b=>simp[hb]at hc hv;subst hc;subst hv;rfl
   ·simp only[Builtin.firstCells,Sem.run_pure,ByteArray.data_extract]
    congr 1
    apply Hd;simp[]
  ·cases he
 |_=>simp[Jhr]at he
set_option maxHeartbeats 1000000 in
theorem run_grow {t u ty e:TypeId}{du:TypeDesc}{i:TypeInfo}{zv:Value}{sb:Option Addr}{sLen sCap n:Nat}{xv:Value}{olds news:List Value}(hd:P.underlying t=some (.slice e))(hu:P.underlying u=some du)(I9:(∃k,du=.slice k)\/du=.string)(hi:P.info? e=some i)(hz:i.zero=some zv)
  (Ad:∀w,(Builtin.lenOf xv).run P w=.ok n w) (hn:∀w',w'.heap=w.heap->(Builtin.firstCells i.size n xv).run P w'=.ok news.toArray w') (ho:∀w',w'.heap=w.heap->(Builtin.firstCells i.size sLen (.slice sb sLen sCap)).run P w'=.ok olds.toArray w')
  (hg:sCap<sLen+n) (jL:sLen+n<=140737488355328) (Br:(sLen+n)*i.bytes<=140737488355328) :
  ∃cap,sLen+n<=cap/\(Builtin.append_ #[t,u] ty #[.slice sb sLen sCap,xv]).run P w =
   .ok (.slice (some ⟨w.heap.size,0,none⟩) (sLen+n) cap) (w.drew.alloc (.cells (olds.toArray++news.toArray++Builtin.zeroCells zv.cells (cap-(sLen+n))) e)):=by
 have EX:=growslice_fits (bytes:=i.bytes) hg Br;refine⟨grownCap w (sLen+n) sCap e,by simp[grownCap,Question.cut],?_⟩;have SX:¬(sLen+n<=sCap):=by omega
 have aW:¬(9223372036854775807<((sLen:Int)+(n:Int))):=by omega
 have aX:¬(281474976710656<Builtin.nextslicecap (sLen+n) sCap*i.bytes):=by omega
 have hf:=hn w.drew rfl;have CS:=ho w.drew rfl;rcases I9 with ⟨k,rfl⟩|rfl
 all_goals
  simp[Builtin.append_,run_underlying hd,run_underlying hu,sizeOf,typeInfo,zeroValue,hi,hz,Ad,SX,aW,aX,Question.forced,hf,CS,newRow,grownCap]
  congr 2
  apply Hd;simp[Gz]
set_option maxHeartbeats 1000000 in
theorem run_room {t u ty e e':TypeId}{du:TypeDesc}{i:TypeInfo}{g o' sLen sCap n:Nat}{xv:Value}{cur:Array Value}{news:List Value}(hd:P.underlying t=some (.slice e))(hu:P.underlying u=some du)(I9:(∃k,du=.slice k)\/du=.string)(hi:P.info? e=some i)
  (Ad:∀w,(Builtin.lenOf xv).run P w=.ok n w) (hn:(Builtin.firstCells i.size n xv).run P w=.ok news.toArray w) (hg:w.heap[g]? = some (.cells cur e' (0,0))) (Br:sLen+n<=sCap) (EX:o' + sLen*i.size+news.length<=cur.size) (h1:∀u∈news,u.oneCell'=true) :
  (Builtin.append_ #[t,u] ty #[.slice (some ⟨g,o',none⟩) sLen sCap,xv]).run P w =
   .ok (.slice (some ⟨g,o',none⟩) (sLen+n) sCap) (w.setRow g (cur.toList.take (o' + sLen*i.size)++news++cur.toList.drop (o' + sLen*i.size+news.length)).toArray):=by
 have Al:=run_storeCells_at P g (o' + sLen*i.size) e' news 0 cur w hg (by simpa using EX) h1;simp only[GK]at Al;rcases I9 with ⟨k,rfl⟩|rfl
 all_goals simp[Builtin.append_,run_underlying hd,run_underlying hu,sizeOf,typeInfo,hi,Ad,Br,hn,addr_add,Al]
set_option maxHeartbeats 1000000 in
theorem Jeh {t u ty e:TypeId}{du:TypeDesc}{i:TypeInfo}{sb:Option Addr}{sLen sCap:Nat}{xv:Value}(hd:P.underlying t=some (.slice e))(hu:P.underlying u=some du)(I9:(∃k,du=.slice k)\/du=.string)(hi:P.info? e=some i)
  (Ad:∀w,(Builtin.lenOf xv).run P w=.ok 0 w) (hn:(Builtin.firstCells i.size 0 xv).run P w=.ok #[] w) (A9:sLen<=sCap) :
  (Builtin.append_ #[t,u] ty #[.slice sb sLen sCap,xv]).run P w=.ok (.slice sb sLen sCap) w:=by
 rcases I9 with ⟨k,rfl⟩|rfl
 all_goals (cases sb <;> simp[Builtin.append_,run_underlying hd,run_underlying hu,sizeOf,typeInfo,hi,Ad,A9,hn,storeCells])
theorem Sim.adopt (hs:Sim E m H w)(x:Own)(ob:CObj)(DN:∀(k:Nat) o' x',H[k]? = some o'->o'.alive=true->m.own[k]? = some x'->x'.B≠x.B)(Rc:∀i,x.o<=i->m.imm x.B i=none)(Ae:¬(m.ext x.B\/x.B<gN))
  (OA:YK (m.own++[x]) m.imm x ob w) (Ai:∀s b,ob≠.ext s b):Sim E { m with own:=m.own++[x] } (H++[ob]) w:=by
 have key:∀(k:Nat) o1 x1,(H++[ob])[k]? = some o1->(m.own++[x])[k]? = some x1->(k<H.length/\H[k]? = some o1/\m.own[k]? = some x1)\/(k=H.length/\o1=ob/\x1=x):=by
  intro k o1 x1 hk hx;by_cases Ab:k<H.length
  ·rw[Gc Ab]at hk;rw[Gc (by rw[hs.len];exact Ab)]at hx;exact .inl ⟨Ab,hk,hx⟩
  ·have Du:k<(H++[ob]).length:=(Gd.1 hk).1;have:k=H.length:=by simp at Du;omega
   subst this;rw[<-hs.len]at hx;simp at hx hk;exact .inr ⟨rfl,hk.symm,hx.symm⟩
 refine⟨by simp[hs.len],λk o1 x1 hk hx=>?_,hs.imm,hs.one,λk k' o1 o2 x1 x2 hk AA ha AX hx Aq he=>?_,λk o1 x1 hk ha hx=>?_,λk s b hk=>?_,λk o1 x1 hk ha hx=>?_,hs.extlt,hs.gl⟩
 ·rcases key k o1 x1 hk hx with ⟨_,h1,h2⟩|⟨_,rfl,rfl⟩
  ·exact KD (KN.append _ _) (Kw.refl _) (λ_=>rfl) (hs.obj k o1 x1 h1 h2)
  ·exact OA
 ·rcases key k o1 x1 hk hx with ⟨_,h1,h2⟩|⟨e1,rfl,rfl⟩ <;> rcases key k' o2 x2 AA Aq with ⟨_,h3,h4⟩|⟨e2,rfl,rfl⟩
  ·exact hs.sep k k' o1 o2 x1 x2 h1 h3 ha AX h2 h4 he
  ·exact absurd he (DN k o1 x1 h1 ha h2)
  ·exact absurd he.symm (DN k' o2 x2 h3 AX h4)
  ·omega
 ·rcases key k o1 x1 hk hx with ⟨_,h1,h2⟩|⟨_,rfl,rfl⟩
  ·exact hs.ro k o1 x1 h1 ha h2
  ·exact Rc
 ·by_cases Ab:k<H.length
  ·rw[Gc Ab]at hk;exact hs.ext k s b hk
  ·have Du:k<(H++[ob]).length:=(Gd.1 hk).1;have:k=H.length:=by simp at Du;omega
   subst this;simp at hk;exact(Ai s b hk).elim
 ·rcases key k o1 x1 hk hx with ⟨_,h1,h2⟩|⟨_,rfl,rfl⟩
  ·exact hs.extsep k o1 x1 h1 ha h2
  ·exact Ae
theorem good_of_kill {s:Sem Next}{k:Nat}(h:Good P E n0 m (H.set k .dead) w s v H'):Good P E n0 m H w s v H':=by
 obtain⟨m',w',r,nx,h1,h2,h3,h4⟩:=h;exact⟨m',w',r,nx,h1,h2,(Ext.kill n0 m H w k).trans h3,h4⟩
theorem good_grow {s:Sem Next}{cells:Array Value}{elem:TypeId}{z len cap:Nat}{els:List (List CV)}(hs:Sim E m H w)(h:s.run P w=.ok (.value (.slice (some ⟨w.heap.size,0,none⟩) len cap)) (w.drew.alloc (.cells cells elem)))
  (Ad:els.length=len) (Bi:len<=cap) (BA:cells.size=cap*z) (hc:relO m.own m.imm z els (λi=>cells[i]?) 0) (h1:∀(i:Nat) v,cells[i]? = some v->v.oneCell'=true):Good P E n0 m H w s (.slc H.length 0 len none) (H++[.arr z els]):=by
 have Az:Sim E m H w.drew:=hs.congr rfl;have hx:(⟨w.heap.size,0,cells.size,z⟩:Own).B=w.drew.heap.size:=rfl;refine⟨{ m with own:=m.own++[⟨w.heap.size,0,cells.size,z⟩] },_,_,_,h,.inl rfl,(Ext.congr (w:=w) (w':=w.drew) rfl ⟨rfl,rfl,rfl⟩).trans (Ext.alloc (w':=w.drew.alloc (.cells cells elem)) Az rfl ⟨rfl,rfl,rfl⟩ _ _ hx),?_,?_,KN.append _ _⟩
 ·refine Az.alloc (w':=w.drew.alloc (.cells cells elem)) rfl _ _ hx (λ_=>⟨rfl,cells,elem,heap_alloc_new w.drew _,rfl,?_,JaT (KN.append _ _) (Kw.refl _) hc,h1⟩) (by intro s b h;cases h);simp only[BA,GI,Ad];exact Gh _ Bi
 ·simp only[rel];exact⟨_,_,_,last_own hs _,rfl,Bi,by simp,λ_=>by simp,by simp[BA]⟩
theorem Jb7 {own:List Own}{imm:Nat->Nat->Option Value}{z:List CV}{zv:Array Value}(hz:JS own imm z zv.toList)(h1:Q5 z=true)(h0:z.length≠0){N:Nat}:∀v∈(Builtin.zeroCells zv N).toList,v.oneCell'=true:=by
 intro v hv;obtain⟨i,hi⟩:=Gy hv;have h2:(Builtin.zeroCells zv N)[i]? = some v:=by simpa using hi
 exact JgX hz h1 h0 (N:=N*zv.size) i v h2
theorem Jfw {t u e:TypeId}{du:TypeDesc}{z:List CV}{i:TypeInfo}{cl:Call}{so xo:Operand}{is ix:IArg}(ho:o.op=.call cl)(Ci:cl.callee=.builtin .append)(Cs:cl.argTypes.toList=[t,u])(Dz:cl.args.toList=[so,xo])(hd:P.underlying t=some (.slice e))(hu:P.underlying u=some du)(I9:(∃k,du=.slice k)\/du=.string)
  (hz:zeroOf P e=some z) (hi:P.info? e=some i) (h0:z.length≠0) (PW:JD so=some is) (PD:JD xo=some ix) (he:exec (.append z.length i.bytes is ix) T H=some (c,v,H')) (hc:c.holds) (hp:Pre E n0 m H w T a):Good P E n0 m H w (execOp a.eval o) v H':=by
 have hS:=JJ hp.tmps PW;have hX:=JJ hp.tmps PD;obtain⟨i',zv,Da,dM,Fb,MU,Dt,Mi⟩:=YJ (P:=P) (w:=w) hz;rw[hi]at Da;cases Da;have EF:cl.argTypes=#[t,u]:=by cases hh:cl.argTypes;simp_all
 have Bw:cl.args=#[so,xo]:=by cases hh:cl.args;simp_all
 have Ag:∀(r:Value) w',(Builtin.append_ #[t,u] o.type #[a.eval so,a.eval xo]).run P w=.ok r w'->(execOp a.eval o).run P w=.ok (.value r) w':=by
  intro r w' hr;simp[execOp,ho,resolve,Ci,invoke,builtin,EF,Bw,hr]
 have Bh:=JK (MU m.own m.imm);have Pe:zv.cells.size=i.size:=by simp at Bh;omega
 simp only[exec]at he
 split at he
 ·rename_i xs Fa;obtain⟨news,Ap,Ad,RV,BX⟩:=JeZ hp.sim hX Fa;have OU:∀w',w'.heap=w.heap->(Builtin.firstCells i.size xs.length (a.eval xo)).run P w'=.ok news.toArray w':=by
   intro w' hw;have:=RV xs.length (Gi _) w' hw;rw[GR (Nat.le_of_eq Ap.len)]at this;rw[<-Dt];exact this
  have grow:∀(m1:Bk) (H1:List CObj) (sb:Option Addr) (sLen sCap:Nat) (eo:List (List CV)) (olds:List Value),Sim E m1 H1 w->m1=m->H1.length=H.length->a.eval so=.slice sb sLen sCap->Yg m.own m.imm z.length eo olds->eo.length=sLen->(∀v∈olds,v.oneCell'=true)->
    (∀w',w'.heap=w.heap->(Builtin.firstCells i.size sLen (.slice sb sLen sCap)).run P w'=.ok olds.toArray w')->sCap<sLen+xs.length->(Jy (sLen+xs.length) i.bytes).holds->Good P E n0 m1 H1 w (execOp a.eval o) (.slc H.length 0 (sLen+xs.length) none) (H1++[.arr z.length (eo++xs)]):=by
   intro m1 H1 sb sLen sCap eo olds EA hm iW SS DL bU Ff CS hg Br;subst hm;obtain⟨cap,Bi,hr⟩:=run_grow (P:=P) (w:=w) (ty:=o.type) hd hu I9 hi dM Ad OU CS hg Br.1 Br.2;have Ak:=DL.append Ap;rw[<-iW];refine good_grow EA (Ag _ _ (by rw[SS];exact hr)) (by simp[bU]) Bi ?_ (Ak.relO λi v hv=>?_) ?_
   ·have h1:=DL.len;have h2:=Ap.len;simp only[Array.size_append,Hg,size_zeroCells,h1,h2,bU,Pe,Dt];rw[<-Gf,<-Gf];congr 1;omega
   ·have Ab:i<(olds++news).length:=(Gd.1 hv).1;simp only[GI];rw[Array.getElem?_append_left (by simpa using Ab)];simpa using hv
   ·intro j v hv;have hm:=GQ hv;simp only[Array.mem_append,List.mem_toArray]at hm;rcases hm with (h1|h1)|h1
    ·exact Ff v h1
    ·exact BX v h1
    ·exact Jb7 (MU m1.own m1.imm) Mi h0 v (by simpa using h1)
  cases xs with
  |nil=>
   have hn:news=[]:=Gx (by rw[Ap.len];simp);subst hn;have none_:∀sb sLen sCap,a.eval so=.slice sb sLen sCap->sLen<=sCap->(execOp a.eval o).run P w=.ok (.value (a.eval so)) w:=by
    intro sb sLen sCap SS A9;rw[SS];exact Ag _ _ (by rw[SS];exact Jeh hd hu I9 hi (by simpa using Ad) (by simpa using OU w rfl) A9)
   have EH:=hS
   cases hx:Ka T is <;> rw[hx]at he hS <;> simp[KU]at he
   ·obtain⟨_,rfl,rfl⟩:=he;simp only[rel]at hS;rw[hx]at EH;exact Jr hp.sim (none_ _ _ _ hS (Gi _)) EH
   ·obtain⟨_,rfl,rfl⟩:=he;simp only[rel]at hS;obtain⟨x',ba,rc,Aq,hv,C9,_⟩:=hS;rw[hx]at EH;exact Jr hp.sim (none_ _ _ _ hv C9) EH
   ·obtain⟨_,rfl,rfl⟩:=he;simp only[rel]at hS;rw[hx]at EH;rcases hS with ⟨_,_,b,hv⟩|⟨B,q,rc,hv,C9,_⟩
    ·exact Jr hp.sim (none_ _ _ _ hv (Gi _)) EH
    ·exact Jr hp.sim (none_ _ _ _ hv C9) EH
  |cons x0 xs'=>
   generalize Pf:x0::xs'=xs at *;have D5:0<xs.length:=by rw[<-Pf];simp
   have Ch:KU z.length i.bytes H (Ka T is) (x0::xs')=some (c,v,H'):=by rw[Pf];exact he
   clear he
   cases hx:Ka T is with
   |nils=>
    rw[hx]at Ch hS;simp only[KU,Ga,Gb,Pf]at Ch;obtain⟨rfl,rfl,rfl⟩:=Ch;simp only[rel]at hS;have:=grow m H none 0 0 [] [] hp.sim rfl rfl hS ⟨by simp,by simp[JS]⟩ rfl (by simp) (λw' _=>by simp[Builtin.firstCells]) (by omega) (by simpa using hc);simpa using this
   |rslc z' els cap=>
    rw[hx]at Ch hS;simp only[KU]at Ch
    cases cap with
    |none=>simp at Ch
    |some c0=>
     by_cases Ed:z'=z.length
     ·subst Ed;simp only[if_true,Ga,Gb,Pf]at Ch;obtain⟨rfl,rfl,rfl⟩:=Ch;simp only[rel]at hS;rcases hS with ⟨h0,EY,b0,UH⟩|⟨B,q,rc,hv,C9,Bi,AB⟩
      ·have Dx:c0=0:=by
        rcases h0 with h0|h0
        ·cases h0
        ·exact Hz h0
       subst Dx EY;have:=grow m H b0 0 0 [] [] hp.sim rfl rfl UH ⟨by simp,by simp[JS]⟩ rfl (by simp) (λw' _=>by cases b0 <;> simp[Builtin.firstCells,loadCells,loadCellsFrom]) (by omega) hc.2;simpa using this
      have I1:=Bi c0 rfl;subst I1;obtain⟨olds,DL,hR⟩:=JaR (Jel (own:=m.own) AB);refine grow m H _ _ _ els olds hp.sim rfl rfl hv DL rfl (λv hv=>?_) (λw' hw=>?_) ?_ hc.2
      ·obtain⟨j,hj⟩:=Gy hv;exact hp.sim.one _ _ v (hR j v hj)
      ·rw[<-Dt];exact run_firstCells_some w' _ _ _ _ _ olds DL.len (λj v hv=>by rw[addr_add];exact(cell?_congr (by rw[hw])).trans (hp.sim.imm _ _ _ (hR j v hv)))
      ·have:=hc.1;simp only[Cond.holds]at this;omega
     ·simp[Ed]at Ch
   |slc id off len cap=>
    rw[hx]at Ch hS;simp only[KU]at Ch;simp only[rel]at hS;obtain⟨x',ba,rc,Aq,hv,C9,Bi,Ih,A9⟩:=hS
    split at Ch
    ·rename_i z' els0 hH;have key:z'=z.length/\∃els:List (List CV),off+len=els.length/\(∀(R:Nat->Option Value) (o:Nat),relO m.own m.imm z.length els0 R o->relO m.own m.imm z.length els R o)/\(match (generalizing:=false) cap with
       |none=>some (Jy (len+(x0::xs').length) i.bytes,CV.slc H.length 0 (len+(x0::xs').length) none,(H.set id .dead)++[.arr z.length (els.drop off++(x0::xs'))])
       |some c=>some (.and (.le (c+1) (len+(x0::xs').length)) (Jy (len+(x0::xs').length) i.bytes),CV.slc H.length 0 (len+(x0::xs').length) none,H++[.arr z.length (els.drop off++(x0::xs'))]))=some (c,v,H'):=by
      by_cases Ed:z'=z.length/\off+len=els0.length
      ·rw[if_pos Ed]at Ch;exact⟨Ed.1,els0,Ed.2,λ_ _ h=>h,Ch⟩
      ·rw[if_neg Ed]at Ch;by_cases Oj:z'=z.length/\off+len<=els0.length/\cap=none
       ·rw[if_pos Oj]at Ch;obtain⟨h1,h2,rfl⟩:=Oj;refine⟨h1,els0.take (off+len),by rw[Gn];omega,λR o h j ee hj=>?_,Ch⟩;rw[G5]at hj
        split at hj
        ·exact h j ee hj
        ·cases hj
       ·rw[if_neg Oj]at Ch;cases Ch
     ·obtain⟨rfl,els,Bb,Ot,Ch⟩:=key;obtain⟨DJ,cells,elem,hb,BA,FW,Ra,BQ⟩:=hp.sim.obj id _ x' hH Aq;have AB:=Ot _ _ (by rw[<-DJ];exact Ra);rw[<-DJ]at AB;have DV:=relO_sub AB off;rw[DJ]at DV;obtain⟨olds,DL,hR⟩:=JaR DV;have Bq:(els.drop off).length=len:=by simp;omega
      have Ff:∀v∈olds,v.oneCell'=true:=λv hv=>by
       obtain⟨j,hj⟩:=Gy hv;exact BQ _ v (hR j v hj)
      have CS:∀w',w'.heap=w.heap->(Builtin.firstCells i.size len (.slice (some ba) len rc)).run P w'=.ok olds.toArray w':=by
       intro w' hw;by_cases jf:rc=0
       ·have:len=0:=by omega
        subst this;have hn:olds=[]:=Gx (by rw[DL.len,Bq];simp);subst hn;simp[Builtin.firstCells,loadCells,loadCellsFrom]
       ·have:=Ih jf;subst this;rw[<-Dt,DJ];have:=DL.len;rw[Bq]at this;exact run_firstCells_some w' _ _ _ _ _ olds this (λj v hv=>by
         rw[addr_add];refine(cell?_congr (w:=w) (by rw[hw])).trans ?_;simp only[World.cell?,hb];simpa using hR j v hv)
      cases cap with
      |some c0=>
       simp only[Ga,Gb,Pf]at Ch;obtain⟨rfl,rfl,rfl⟩:=Ch;have I1:=Bi c0 rfl;exact grow m H _ _ _ (els.drop off) olds hp.sim rfl rfl hv DL Bq Ff CS (by have:=hc.1;simp only[Cond.holds]at this;omega) hc.2
      |none=>
       simp only[Ga,Gb,Pf]at Ch;obtain⟨rfl,rfl,rfl⟩:=Ch;by_cases Br:len+xs.length<=rc
       ·
        have Cr:=Ih (by omega);subst Cr;have Dh:=Ap.len;have Dq:(off+(len+xs.length))*x'.z<=(off+rc)*x'.z:=Gh _ (by omega);have e1:(off+rc)*x'.z=off*x'.z+rc*x'.z:=Gf _ _ _;have e2:(off+(len+xs.length))*x'.z=off*x'.z+len*x'.z+xs.length*x'.z:=by rw[Gf,Gf];omega
        have RJ:i.size=x'.z:=by rw[DJ,Dt]
        rw[<-DJ]at Dh;have EX:x'.o+off*x'.z+len*i.size+news.length<=cells.size:=by rw[RJ,Dh,BA];omega
        have hr:=run_room (P:=P) (w:=w) (ty:=o.type) hd hu I9 hi Ad (OU w rfl) hb Br EX BX;rw[RJ]at hr EX;have MR:=DV;rw[<-DJ]at MR Ap
        let cs:Array Value:=(cells.toList.take (x'.o+off*x'.z+len*x'.z)++news++cells.toList.drop (x'.o+off*x'.z+len*x'.z+news.length)).toArray
        have Db:cs.size=x'.n:=by simp[cs];omega
        have rd:∀p,cs[p]? = if x'.o+off*x'.z+len*x'.z<=p/\p<x'.o+off*x'.z+len*x'.z+news.length then news[p-(x'.o+off*x'.z+len*x'.z)]? else cells[p]?:=by
         intro p;simp only[cs,GD];have hA:(cells.toList.take (x'.o+off*x'.z+len*x'.z)).length=x'.o+off*x'.z+len*x'.z:=by simp;omega
         by_cases h1:p<x'.o+off*x'.z+len*x'.z
         ·have h2:p<(cells.toList.take (x'.o+off*x'.z+len*x'.z)).length:=by omega
          rw[Gz,Gc h2,Gq h1,iN7];simp
         ·by_cases h2:p<x'.o+off*x'.z+len*x'.z+news.length
          ·have h3:p<(cells.toList.take (x'.o+off*x'.z+len*x'.z)++news).length:=by rw[Gj];omega
           have h4:(cells.toList.take (x'.o+off*x'.z+len*x'.z)).length<=p:=by omega
           rw[Gc h3,Gm h4,hA,if_pos ⟨by omega,h2⟩]
          ·have h3:(cells.toList.take (x'.o+off*x'.z+len*x'.z)++news).length<=p:=by rw[Gj];omega
           rw[Gm h3,iN7,Gr];simp only[Gj,hA];rw[show x'.o+off*x'.z+len*x'.z+news.length+(p-(x'.o+off*x'.z+len*x'.z+news.length))=p by omega];simp
        have P9:relO m.own m.imm x'.z (els.drop off++xs) (λi=>cs[i]?) (x'.o+off*x'.z):=by
         intro j ee hj;by_cases Bc:j<len
         ·rw[Gc (by omega)]at hj;have:=MR j ee hj;refine⟨this.1,λt c hc=>?_⟩;obtain⟨r,BU,Bf⟩:=this.2 t c hc;have ht:t<x'.z:=this.1▸(Gd.1 hc).1;have:(j+1)*x'.z<=len*x'.z:=Gh _ Bc;rw[Gf,Gt]at this;exact⟨r,by show cs[_]? = _;rw[rd,iN7];exact BU,Bf⟩
         ·rw[Gm (by omega),Bq]at hj;have UQ:=Ap.relO (R:=λi=>news[i]?) (o:=0) (λi v hv=>by simpa using hv);have:=UQ _ ee hj;refine⟨this.1,λt c hc=>?_⟩;obtain⟨r,BU,Bf⟩:=this.2 t c hc;have ht:t<x'.z:=this.1▸(Gd.1 hc).1;simp only[GI]at BU;have Ab:=(Gd.1 BU).1;have e3:j*x'.z=len*x'.z+(j-len)*x'.z:=by rw[<-Gf];congr 1;omega
          refine⟨r,?_,Bf⟩;show cs[_]? = _;rw[rd,iP7,show x'.o+off*x'.z+j*x'.z+t-(x'.o+off*x'.z+len*x'.z)=(j-len)*x'.z+t by omega];exact BU
        have OL:∀q,q<x'.o->cs[q]? = cells[q]?:=λq hq=>by rw[rd,iN7]
        have Rm:∀(q:Nat) v,cs[q]? = some v->v.oneCell'=true:=Jal BQ BX;have RL:(w.setRow x'.B cs).heap[x'.B]? = some (.cells cs elem (0,0)):=setRow_heap w x'.B cells cs elem (0,0) hb;have R5:Sim E m (H.set id .dead) (w.setRow x'.B cs):=by
         refine hp.sim.put hH rfl Aq (setRow_size _ _ _) (λB hB=>setRow_other w x'.B B cs hB) (λq hq=>?_) trivial (by intro s b h;cases h);rw[cell_setRow_same w x'.B q cells cs elem (0,0) hb,OL q hq];simp[World.cell?,hb]
        have O3:=R5.adopt ⟨x'.B,x'.o+off*x'.z,x'.n,x'.z⟩ (.arr z.length (els.drop off++xs)) (λk o' x2 hk ha Bd=>?_) (λq hq=>hp.sim.ro id _ x' hH rfl Aq q (by simp only at hq;omega)) (hp.sim.extsep id _ x' hH rfl Aq) ⟨DJ,cs,elem,RL,Db,?_,JaT (KN.append _ _) (Kw.refl _) P9,Rm⟩ (by intro s b h;cases h)
        ·refine⟨_,_,_,_,Ag _ _ (by rw[hv];exact hr),.inl rfl,?_,O3,?_,KN.append _ _⟩
         ·refine⟨by rw[setRow_size];exact Gi _,λB hB hn=>setRow_other w x'.B B cs λe=>hn (e▸.inr ⟨id,_,x',hH,rfl,Aq,rfl⟩),Kw.refl _,λB hB=>.inl ?_,λB q v h=>.inl h,λk x2 hk Bd=>?_,λh=>by simp;omega,Jdj _ _ _⟩
          ·rcases hB with hB|⟨k,o2,x2,hk,Dl,Bd,rfl⟩
           ·exact .inl hB
           ·simp only at Bd;by_cases Ab:k<H.length
            ·rw[Gc (by simpa using Ab)]at hk;rw[Gc (by rw[hp.sim.len];exact Ab)]at Bd;rw[Gl]at hk
             split at hk
             ·split at hk
              ·simp at hk;subst hk;cases Dl
              ·cases hk
             ·exact .inr ⟨k,o2,x2,hk,Dl,Bd,rfl⟩
            ·have Du:=(Gd.1 Bd).1;have:k=m.own.length:=by have:=hp.sim.len;simp at Du;omega
             subst this;simp at Bd;subst Bd;exact .inr ⟨id,_,x',hH,rfl,Aq,rfl⟩
          ·simp only;rw[Gc (Gd.1 Bd).1];exact Bd
         ·simp only[rel];refine⟨⟨x'.B,x'.o+off*x'.z,x'.n,x'.z⟩,_,_,by rw[<-hp.sim.len];simp,rfl,Br,by simp,λ_=>by simp,by simp;omega⟩
        ·rw[Gl]at hk
         split at hk
         ·split at hk
          ·simp at hk;subst hk;cases ha
          ·cases hk
         ·rename_i Ai;exact λe=>Ai (hp.sim.sep id k _ o' x' x2 hH hk rfl ha Aq Bd e.symm)
        ·simp only[Gj,Bq];rw[show (len+xs.length)*x'.z=len*x'.z+xs.length*x'.z from Gf _ _ _];omega
       ·have:=grow m (H.set id .dead) _ _ _ (els.drop off) olds (hp.sim.kill id (λs b h=>by rw[hH]at h;cases h)) rfl (by simp) hv DL Bq Ff CS (by omega) hc;exact good_of_kill this
    ·cases Ch
   |_=>rw[hx]at Ch;simp[KU]at Ch
 ·cases he
end
end
section
section
variable {P:Program}{E:Env}{n0:Nat}{m:Bk}{H H':List CObj}{w:World}{T:List CV}{a:Act}{c:Cond}{v:CV}{o:Oper}
theorem JeN {z:Nat}:∀(els:List (List CV)) (i:Nat) (l:List CV),(∀e∈els,e.length=z)->i<els.length->l.length=z->(els.set i l).flatten=splice els.flatten (i*z) l
 |[],i,l,_,h,_=>by simp at h
 |e::es,0,l,hz,_,hl=>by
  have he:e.length=z:=hz e (by simp);simp[splice,hl,<-he]
 |e::es,i+1,l,hz,h,hl=>by
  have he:e.length=z:=hz e (by simp);have ih:=JeN es i l (λx hx=>hz x (by simp[hx])) (by simpa using h) hl;simp only[List.set_cons_succ,GV,ih,splice];have e1:(i+1)*z=e.length+i*z:=by rw[Gf,he];omega
  rw[e1,List.take_length_add_append,GY,List.drop_length_add_append,Gz]
theorem Jcx {own:List Own}{imm:Nat->Nat->Option Value}{z:Nat}(hT:JS own imm T a.tmps.toList):∀(ps:List (Nat×Operand)) (l:List (Nat×IArg)) (els out:List (List CV)) (vs:Array Value),Jbn ps=some l->XQ T z els l=some out->Yg own imm z els vs.toList->(∀v∈vs.toList,v.oneCell'=true)->
  ∃vs',Instr.fill (λi=>some (i*z,z)) vs (ps.map λp=>(p.1,a.eval p.2))=some vs'/\Yg own imm z out vs'.toList/\(∀v∈vs'.toList,v.oneCell'=true)/\out.length=els.length
 |[],l,els,out,vs,hl,hf,hr,h1=>by
  simp[Jbn]at hl;subst hl;simp[XQ]at hf;subst hf;exact⟨vs,by simp[Instr.fill],hr,h1,rfl⟩
 |(i,x)::ps,l,els,out,vs,hl,hf,hr,h1=>by
  simp only[Jbn]at hl
  split at hl
  ·rename_i ia l' h2 h3
   cases hl
   simp only[XQ]at hf
   split at hf
   ·cases hf
   ·rename_i lc C9
    split at hf
    ·rename_i Ad;have hx:=Jbf (JJ hT h2) C9;have Bz:=JK hx;have Ee:(a.eval x).cells.size=z:=by have:=Ad.1;simp at Bz;omega
     have FD:=hr.len;simp at FD;have Dq:(i+1)*z<=els.length*z:=Gh _ Ad.2.1;rw[Gf,Gt]at Dq;have A9:i*z+z<=vs.size:=by omega
     have hs:=JbS hr.2 hx (i*z);simp only[Gw,Ee]at hs;have PR:=Jhm Ee A9;rw[<-PR]at hs;have Ap:Yg own imm z (els.set i lc) ((a.eval x).cells.zipIdx.foldl (λcs (c,j)=>cs.setIfInBounds (i*z+j) c) vs).toList:=
      ⟨λe he=>by rcases List.mem_or_eq_of_mem_set he with h|rfl;exact hr.1 e h;exact Ad.1,by rw[JeN els i lc hr.1 Ad.2.1 Ad.1];exact hs⟩
     have Bo:∀v∈((a.eval x).cells.zipIdx.foldl (λcs (c,j)=>cs.setIfInBounds (i*z+j) c) vs).toList,v.oneCell'=true:=by
      rw[PR];intro v hv;rcases GG.1 hv with h4|h4
      ·rcases GG.1 h4 with h5|h5
       ·exact h1 v (GZ h5)
       ·exact Ym hx Ad.2.2 v h5
      ·exact h1 v (Hf h4)
     obtain⟨vs',hv,EJ,IA,RD⟩:=Jcx hT ps l' _ out _ h3 hf Ap Bo;refine⟨vs',?_,EJ,IA,by simpa using RD⟩;simp only[G7,Instr.fill];simp only[Ee,ne_eq,not_true_eq_false,decide_false,Hq,decide_eq_true_eq];rw[iN7];exact hv
    ·cases hf
  ·cases hl
theorem snd_bslice {t e:TypeId}{n:Nat}{ps:Array (Nat×Operand)}{z:List CV}{l:List (Nat×IArg)}(ho:o.op=.buildSlice t n ps)(hd:P.underlying t=some (.slice e))(hz:zeroOf P e=some z)(hl:Jbn ps.toList=some l)(h0:z.length≠0)(hn:n*z.length<=2 ^ 24)
  (he:exec (.bslice z.length n z l) T H=some (c,v,H')) (hp:Pre E n0 m H w T a):Good P E n0 m H w (execOp a.eval o) v H':=by
 obtain⟨i,zv,hi,_,Ag,Ao,Ad,Mi⟩:=YJ (P:=P) (w:=w) hz;simp only[exec]at he
 split at he
 ·rename_i out AV;simp only[Ga,Gb]at he;obtain⟨_,rfl,rfl⟩:=he;have BA:(sizeOf e).run P w=.ok z.length w:=by simp[sizeOf,typeInfo,hi,Ad]
  let base:Array Value:=(GH (n*z.length)).map (λj=>zv.cells[j % zv.cells.size]!)
  have AB:=Jam (Ao m.own m.imm) n n h0 (Gi _);have R7:Yg m.own m.imm z.length (Gs n z) base.toList:=by
   obtain⟨vs,Ap,hR⟩:=JaR AB;have FD:=Ap.len;have:vs=base.toList:=by
    apply Hl;intro j;by_cases hj:j<vs.length
    ·have:=hR j vs[j] (Gg hj);rw[Gg hj,<-this,G9,GI]
    ·rw[GU (by omega),GU];simp[base]at FD|-;omega
   rw[<-this];exact Ap
  have Bo:∀v∈base.toList,v.oneCell'=true:=by
   intro v hv;obtain⟨j,hj⟩:=Gy hv;have M4:base[j]? = some v:=by simpa using hj
   exact JgX (Ao m.own m.imm) Mi h0 (N:=n*z.length) j v M4
  obtain⟨vs',hv,EJ,IA,Bb⟩:=Jcx (a:=a) hp.tmps ps.toList l _ out base hl AV R7 Bo;have FD:=EJ.len;simp at Bb;refine good_row (r:=.slice (some ⟨w.heap.size,0,none⟩) n n) (cells:=vs') (elem:=e) (z:=z.length) hp.sim ?_ (by simp at FD;omega) (EJ.relO λj v hv=>by simpa using hv) (λj v hv=>IA v (Ha.2 (GQ hv))) ?_
  ·have Eg:(ps.map (λ(p:Nat×Operand)=>(p.1,a.eval p.2))).toList=ps.toList.map λp=>(p.1,a.eval p.2):=by simp
   have U7:¬(n*z.length > 2 ^ 24):=by omega
   simp only[execOp,ho,Instr.buildSlice,Sem.run_bind,run_underlying hd,Result.andThen_ok,BA,U7,if_false];by_cases Ia:n*z.length=0
   ·have DY:base=(GH (n*z.length)).map (λx=>(#[]:Array Value)[x % 0]!):=by
     apply Array.ext
     ·simp[base]
     ·intro j h1 _;simp[base,Ia]at h1
    rw[DY]at hv;simp only[Ia,if_true,Sem.run_bind,Sem.run_pure,Result.andThen_ok,Hg,List.length_nil]at hv|-;rw[Eg];simp only[hv,newRow,Sem.run_bind,run_newObj,Result.andThen_ok,Sem.run_pure,World.alloc_eq]
   ·simp only[Ia,if_false,Sem.run_bind,Sem.run_pure,Result.andThen_ok,Ag];rw[Eg];simp only[base]at hv;simp only[hv,newRow,Sem.run_bind,run_newObj,Result.andThen_ok,Sem.run_pure,World.alloc_eq]
  ·simp only[rel];refine⟨_,_,_,Jep hp.sim _,rfl,Gi _,by simp,λ_=>by simp,by simp at FD|-;rw[FD,Bb];exact Gi _⟩
 ·cases he
theorem snd_clear {t e:TypeId}{cl:Call}{x:Operand}{ix:IArg}{z:List CV}(ho:o.op=.call cl)(Ci:cl.callee=.builtin .clear)(Cs:cl.argTypes.toList=[t])(Dz:cl.args.toList=[x])(hd:P.underlying t=some (.slice e))(hz:zeroOf P e=some z)(hx:JD x=some ix)
  (he:exec (.clear z ix) T H=some (c,v,H')) (hc:c.holds) (hp:Pre E n0 m H w T a):Good P E n0 m H w (execOp a.eval o) v H':=by
 have h1:=JJ hp.tmps hx;obtain⟨i,zv,hi,_,Fb,Ao,Ad,Mi⟩:=YJ (P:=P) (w:=w) hz;have EF:cl.argTypes=#[t]:=by cases hh:cl.argTypes;simp_all
 have Bw:cl.args=#[x]:=by cases hh:cl.args;simp_all
 have Ag:∀(r:Value) w',(Builtin.clear_ #[t] o.type #[a.eval x]).run P w=.ok r w'->(execOp a.eval o).run P w=.ok (.value r) w':=by
  intro r w' hr;simp[execOp,ho,resolve,Ci,invoke,builtin,EF,Bw,hr]
 have tup0:rel m.own m.imm (.tup []) (.tuple #[]):=by simp[rel,JS]
 simp only[exec]at he
 split at he
 ·rename_i e1;rw[e1]at h1;simp only[rel]at h1;simp only[Ga,Gb]at he;obtain⟨_,rfl,rfl⟩:=he;exact Jr hp.sim (Ag _ _ (by simp[Builtin.clear_,run_underlying hd,h1])) tup0
 ·rename_i id off len cap e1;rw[e1]at h1;simp only[rel]at h1;obtain⟨x',ba,rc,Aq,hv,C9,Bi,Ih,A9⟩:=h1
  split at he
  ·rename_i z' els hH
   split at he
   ·rename_i Ed;simp only[Ga,Gb]at he;obtain⟨rfl,rfl,rfl⟩:=he;have Bb:off+len<=els.length:=hc;by_cases BZ:len=0
    ·subst BZ;have:H.set id (.arr z' (els.take off++(Gs 0 z++els.drop (off+0))))=H:=by
      have e2:els.take off++(Gs 0 z++els.drop (off+0))=els:=by simp
      rw[e2];apply Hl;intro j;rw[Gl]
      split
      ·rename_i hj;subst hj;rw[hH];have:=(Gd.1 hH).1;simp[this]
      ·rfl
     rw[this];exact Jr hp.sim (Ag _ _ (by simp[Builtin.clear_,run_underlying hd,hv])) tup0
    ·have Cr:=Ih (by omega);subst Cr;obtain⟨DJ,cells,elem,hb,BA,FW,AB,BQ⟩:=hp.sim.obj id _ x' hH Aq;have Bh:=JK (Ao m.own m.imm);have Pe:zv.cells.size=x'.z:=by simp at Bh;omega
     have Ik:x'.z=z.length:=by rw[DJ,Ed.1]
     let news:=(Builtin.zeroCells zv.cells len).toList
     have Dh:news.length=len*x'.z:=by simp[news,size_zeroCells,Pe]
     have Dq:(off+len)*x'.z<=els.length*x'.z:=Gh _ Bb;rw[Gf]at Dq;by_cases Ii:z.length=0
     ·
      have OC:news=[]:=Gx (by rw[Dh,Ik,Ii];simp);have hr:(Builtin.clear_ #[t] o.type #[a.eval x]).run P w=.ok (.tuple #[]) (w.setRow x'.B cells):=by
       rw[setRow_self w x'.B cells elem (0,0) hb];have:(Builtin.zeroCells zv.cells len).toList=[]:=OC
       cases len with
       |zero=>exact absurd rfl BZ
       |succ k=>simp[Builtin.clear_,run_underlying hd,hv,Fb,this,storeCells]
      refine JdV (nx:=.value (.tuple #[])) hp hH Aq hb DJ (Ag _ _ hr) (.inl rfl) BA (by rw[Ik,Ii];simp;have:=FW;rw[Ik,Ii]at this;simpa using this) (λ_ _=>rfl) (λj ee hj=>?_) BQ tup0;have bg:∀ee∈els,ee.length=x'.z:=λee hm=>by obtain⟨k,hk⟩:=Gy hm;exact(AB k ee hk).1
      have hm:=H5 hj;have Em:ee.length=x'.z:=by
       rcases GG.1 hm with h2|h2
       ·exact bg ee (GZ h2)
       ·rcases GG.1 h2 with h3|h3
        ·rw[H7]at h3;rw[h3.2,Ik]
        ·exact bg ee (Hf h3)
      refine⟨Em,λt c hc=>?_⟩;have:=(Gd.1 hc).1;omega
     ·have BX:∀v∈news,v.oneCell'=true:=Jb7 (Ao m.own m.imm) Mi Ii;have eZ:=Jam (Ao m.own m.imm) len len Ii (Gi _);have Al:=run_storeCells_at P x'.B (x'.o+off*x'.z) elem news 0 cells w hb (by rw[Dh];omega) BX;simp only[GK]at Al
      let cs:Array Value:=(cells.toList.take (x'.o+off*x'.z)++news++cells.toList.drop (x'.o+off*x'.z+news.length)).toArray
      have hr:(Builtin.clear_ #[t] o.type #[a.eval x]).run P w=.ok (.tuple #[]) (w.setRow x'.B cs):=by
       cases len with
       |zero=>exact absurd rfl BZ
       |succ k=>simp only[Builtin.clear_,Sem.run_bind,run_underlying hd,hv,Result.andThen_ok,GD,HV,Fb,Al,Sem.run_pure,news,cs]
      have rd:∀p,cs[p]? = if x'.o+off*x'.z<=p/\p<x'.o+off*x'.z+news.length then news[p-(x'.o+off*x'.z)]? else cells[p]?:=by
       intro p;simp only[cs,GD];have hA:(cells.toList.take (x'.o+off*x'.z)).length=x'.o+off*x'.z:=by simp;omega
       by_cases h1:p<x'.o+off*x'.z
       ·have h2:p<(cells.toList.take (x'.o+off*x'.z)).length:=by omega
        rw[Gz,Gc h2,Gq h1,iN7];simp
       ·by_cases h2:p<x'.o+off*x'.z+news.length
        ·have h3:p<(cells.toList.take (x'.o+off*x'.z)++news).length:=by rw[Gj];omega
         have h4:(cells.toList.take (x'.o+off*x'.z)).length<=p:=by omega
         rw[Gc h3,Gm h4,hA,if_pos ⟨by omega,h2⟩]
        ·have h3:(cells.toList.take (x'.o+off*x'.z)++news).length<=p:=by rw[Gj];omega
         rw[Gm h3,iN7,Gr];simp only[Gj,hA];rw[show x'.o+off*x'.z+news.length+(p-(x'.o+off*x'.z+news.length))=p by omega];simp
      refine JdV (nx:=.value (.tuple #[])) hp hH Aq hb DJ (Ag _ _ hr) (.inl rfl) (by simp[cs];omega) (by simp only[Gj,Gn,HZ,G6];rw[show min off els.length+(len+(els.length-(off+len)))=els.length by omega];exact FW) (λq hq=>by rw[rd,iN7]) (λj ee hj=>?_) (Jal BQ BX) tup0;by_cases IK:j<off
      ·rw[Gc (by simp;omega),Gq IK]at hj;have:=AB j ee hj;refine⟨this.1,λt c hc=>?_⟩;obtain⟨r,BU,Bf⟩:=this.2 t c hc;have ht:t<x'.z:=this.1▸(Gd.1 hc).1;have:(j+1)*x'.z<=off*x'.z:=Gh _ IK;rw[Gf,Gt]at this;exact⟨r,by show cs[_]? = _;rw[rd,iN7];exact BU,Bf⟩
      ·rw[Gm (by simp;omega)]at hj;have e3:(els.take off).length=off:=by simp;omega
       rw[e3]at hj;by_cases Ea:j<off+len
       ·rw[Gc (by simp;omega)]at hj;have:=eZ (j-off) ee hj;rw[<-Ik]at this;refine⟨this.1,λt c hc=>?_⟩;obtain⟨r,BU,Bf⟩:=this.2 t c hc;have ht:t<x'.z:=this.1▸(Gd.1 hc).1;have bA:news[(j-off)*x'.z+t]? = some r:=by
         simp only[news,G9,Builtin.zeroCells,Pe];simpa [Pe]using BU
        have Ab:=(Gd.1 bA).1;have e4:j*x'.z=off*x'.z+(j-off)*x'.z:=by rw[<-Gf];congr 1;omega
        refine⟨r,?_,Bf⟩;show cs[_]? = _;rw[rd,iP7,show x'.o+j*x'.z+t-(x'.o+off*x'.z)=(j-off)*x'.z+t by omega];exact bA
       ·rw[Gm (by simp;omega),HZ,Gr,show off+len+(j-off-len)=j by omega]at hj;have:=AB j ee hj;refine⟨this.1,λt c hc=>?_⟩;obtain⟨r,BU,Bf⟩:=this.2 t c hc;have:(off+len)*x'.z<=j*x'.z:=Gh _ (by omega);rw[Gf]at this;exact⟨r,by show cs[_]? = _;rw[rd,iN7];exact BU,Bf⟩
   ·cases he
  ·cases he
 ·rename_i z' cap e1;rw[e1]at h1;simp only[rel]at h1;simp only[Ga,Gb]at he;obtain⟨_,rfl,rfl⟩:=he;rcases h1 with ⟨_,_,b,hv⟩|⟨B,q,rc,hv,C9,Bi,AB⟩
  ·exact Jr hp.sim (Ag _ _ (by cases b <;> simp[Builtin.clear_,run_underlying hd,hv])) tup0
  exact Jr hp.sim (Ag _ _ (by simp[Builtin.clear_,run_underlying hd,hv])) tup0
 ·cases he
theorem snd_nchk {x:Operand}{i:IArg}(ho:o.op=.nilCheck x)(hx:JD x=some i)(he:exec (.nchk i) T H=some (c,v,H'))(hp:Pre E n0 m H w T a):Good P E n0 m H w (execOp a.eval o) v H':=by
 have h1:=JJ hp.tmps hx;simp only[exec]at he
 split at he
 ·rename_i e;simp only[Ga,Gb]at he;obtain⟨_,rfl,rfl⟩:=he;rw[e]at h1;have h2:=h1;simp only[rel]at h2;obtain⟨x',Aq,hv⟩:=h2;exact Jr hp.sim (r:=a.eval x) (by simp[execOp,ho,hv]) h1
 ·rename_i e;simp only[Ga,Gb]at he;obtain⟨_,rfl,rfl⟩:=he;rw[e]at h1;have h2:=h1;simp only[rel]at h2;obtain⟨B,q,hv,_⟩:=h2;exact Jr hp.sim (r:=a.eval x) (by simp[execOp,ho,hv]) h1
 ·rename_i e;simp only[Ga,Gb]at he;obtain⟨_,rfl,rfl⟩:=he;rw[e]at h1;have h2:=h1;simp only[rel]at h2;obtain⟨vs1,vs2,hv,_⟩:=h2;exact Jr hp.sim (r:=a.eval x) (by simp[execOp,ho,hv]) h1
 ·cases he
theorem Jdw {len:Nat}{lo hi:Option Value}{l h:Int}
  (I5:(lo=none/\l=0)\/∃k,lo=some (.int k l)) (FZ:(hi=none/\h=len)\/∃k,hi=some (.int k h)) (h0:0<=l) (h1:l<=h) (h2:h<=len) :
  (Instr.sliceBounds false len len lo hi none).run P w=.ok (l.toNat,h.toNat,len) w:=by
 have hh:(h.toNat:Int)=h:=by omega
 unfold Instr.sliceBounds;rcases FZ with ⟨rfl,rfl⟩|⟨k,rfl⟩
 ·rcases I5 with ⟨rfl,rfl⟩|⟨k,rfl⟩
  ·simp
  ·simp[run_sliceBound h0 h1]
 ·rcases I5 with ⟨rfl,rfl⟩|⟨k',rfl⟩
  ·simp[run_sliceBound (show (0:Int)<=h by omega) h2]
  ·simp[run_sliceBound (show (0:Int)<=h by omega) h2,run_sliceBound h0 (show l<=(h.toNat:Int) by omega)]
theorem opt_hi {T:List CV}{own:List Own}{imm:Nat->Nat->Option Value}{d:Int}(hT:JS own imm T a.tmps.toList){lo:Option Operand}{ilo:Option IArg}{l:Int}(h:QR lo=some ilo)(hl:XT T d ilo=some l):(lo.map a.eval=none/\l=d)\/∃k,lo.map a.eval=some (.int k l):=by
 cases lo with
 |none=>simp[QR]at h;subst h;simp[XT]at hl;exact .inl ⟨rfl,hl.symm⟩
 |some x=>
  simp only[QR]at h
  cases hx:JD x with
  |none=>simp[hx]at h
  |some i=>
   simp[hx]at h;subst h;simp only[XT]at hl;obtain⟨k,hk⟩:=opt_int (a:=a) hT hx hl;exact .inr ⟨k,by simp[hk]⟩
theorem snd_sliceS {t:TypeId}{x:Operand}{lo hi:Option Operand}{ix:IArg}{ilo ihi:Option IArg}(ho:o.op=.slice t x lo hi none)(hd:P.underlying t=some .string)(hx:JD x=some ix)(I5:QR lo=some ilo)(FZ:QR hi=some ihi)
  (he:exec (.sliceS ix ilo ihi) T H=some (c,v,H')) (hc:c.holds) (hp:Pre E n0 m H w T a):Good P E n0 m H w (execOp a.eval o) v H':=by
 have h1:=JJ hp.tmps hx;simp only[exec]at he
 split at he
 ·rename_i s e;rw[e]at h1;simp only[rel]at h1
  split at he
  ·rename_i l h hl hh;simp only[Ga,Gb]at he;obtain⟨rfl,rfl,rfl⟩:=he;simp only[Cond.holds]at hc;have hb:=Jdw (P:=P) (w:=w) (len:=s.size) (opt_hi (a:=a) hp.tmps I5 hl) (opt_hi (a:=a) hp.tmps FZ hh) hc.1 hc.2.1 hc.2.2;refine Jr hp.sim (r:=.string (s.extract l.toNat h.toNat)) ?_ rfl;simp[execOp,ho,Instr.sliceAt,run_underlying hd,Instr.slice,h1,hb]
  ·cases he
 ·cases he
theorem snd_mx {cl:Call}{x y:Operand}{i j:IArg}{big:Bool}(ho:o.op=.call cl)(Ci:cl.callee=.builtin (if big then .max else .min))(Dz:cl.args.toList=[x,y])(hx:JD x=some i)(hy:JD y=some j)
  (he:exec (.mmx big i j) T H=some (c,v,H')) (hp:Pre E n0 m H w T a):Good P E n0 m H w (execOp a.eval o) v H':=by
 have h1:=JJ hp.tmps hx;have h2:=JJ hp.tmps hy;have Bw:cl.args=#[x,y]:=by cases hh:cl.args;simp_all
 simp only[exec]at he
 split at he
 ·rename_i k p k' q e1 e2;rw[e1]at h1;rw[e2]at h2;simp only[rel]at h1 h2
  split at he
  ·rename_i hk;subst hk;simp only[Ga,Gb]at he;obtain⟨_,rfl,rfl⟩:=he
   cases big with
   |true=>exact Jr hp.sim (r:=.int k (if q > p then q else p)) (by simp[execOp,ho,resolve,Ci,invoke,builtin,Bw,Builtin.max_,Builtin.max2,h1,h2]) (by simp[rel])
   |false=>exact Jr hp.sim (r:=.int k (if q<p then q else p)) (by simp[execOp,ho,resolve,Ci,invoke,builtin,Bw,Builtin.min_,Builtin.min2,h1,h2]) (by simp[rel])
  ·cases he
 ·cases he
theorem snd_copy {t e:TypeId}{cl:Call}{x y:Operand}{ix iy:IArg}{z:List CV}(ho:o.op=.call cl)(Ci:cl.callee=.builtin .copy){u:TypeId}(Cs:cl.argTypes.toList=[t,u])(Dz:cl.args.toList=[x,y])(hd:P.underlying t=some (.slice e))(hz:zeroOf P e=some z)(h0:z.length≠0)(hx:JD x=some ix)(hy:JD y=some iy)
  (he:exec (.copy z.length ix iy) T H=some (c,v,H')) (hc:c.holds) (hp:Pre E n0 m H w T a):Good P E n0 m H w (execOp a.eval o) v H':=by
 have h1:=JJ hp.tmps hx;have h2:=JJ hp.tmps hy;obtain⟨i,zv,hi,_,Fb,Ao,Dt,Mi⟩:=YJ (P:=P) (w:=w) hz;have EF:cl.argTypes=#[t,u]:=by cases hh:cl.argTypes;simp_all
 have Bw:cl.args=#[x,y]:=by cases hh:cl.args;simp_all
 have BA:(sizeOf e).run P w=.ok z.length w:=by simp[sizeOf,typeInfo,hi,Dt]
 have Ag:∀(r:Value) w',(Builtin.copy_ #[t,u] o.type #[a.eval x,a.eval y]).run P w=.ok r w'->(execOp a.eval o).run P w=.ok (.value r) w':=by
  intro r w' hr;simp[execOp,ho,resolve,Ci,invoke,builtin,EF,Bw,hr]
 simp only[exec]at he
 split at he
 ·cases he
 ·rename_i xs Fa;obtain⟨news,Ap,Ad,RV,BX⟩:=JeZ (P:=P) hp.sim h2 Fa;have Ij:∀(b:Option Addr) (cp:Nat),a.eval x=.slice b 0 cp->(Builtin.copy_ #[t,u] o.type #[a.eval x,a.eval y]).run P w=.ok (.int .i64 0) w:=by
   intro b cp hv;have hf:=RV 0 (Nat.zero_le _) w rfl;rw[Lf,Ho]at hf
   cases b <;> simp[Builtin.copy_,run_underlying hd,hv,Ad,BA,hf,storeCells,goInt]
  split at he
  ·rename_i e1;rw[e1]at h1;simp only[rel]at h1;simp only[Ga,Gb]at he;obtain⟨_,rfl,rfl⟩:=he;exact Jr hp.sim (Ag _ _ (Ij none 0 h1)) rfl
  ·rename_i id off len cap e1;rw[e1]at h1;simp only[rel]at h1;obtain⟨x',ba,rc,Aq,hv,C9,Bi,Ih,A9⟩:=h1
   split at he
   ·rename_i z' els hH
    split at he
    ·rename_i Ed;subst Ed;simp only[Ga,Gb]at he;obtain⟨rfl,rfl,rfl⟩:=he;have Bb:off+len<=els.length:=hc;generalize OC:min xs.length len=n at *;have Dp:n<=xs.length:=by omega
     have Dh:n<=len:=by omega
     have Rv:Nat.min xs.length len=n:=OC;by_cases BZ:n=0
     ·subst BZ;have e2:H.set id (.arr z.length (els.take off++(xs.take 0++els.drop (off+0))))=H:=by
       have e2:els.take off++(xs.take 0++els.drop (off+0))=els:=by simp
       rw[e2];apply Hl;intro j;rw[Gl]
       split
       ·rename_i hj;subst hj;rw[hH];have:=(Gd.1 hH).1;simp[this]
       ·rfl
      rw[e2];have hf:=RV 0 (Nat.zero_le _) w rfl;rw[Lf,Ho]at hf;exact Jr hp.sim (r:=.int .i64 0) (Ag _ _ (by simp[Builtin.copy_,run_underlying hd,hv,Ad,BA,Rv,hf,storeCells,goInt])) (by simp[rel])
     ·have Cr:=Ih (by omega);subst Cr;obtain⟨DJ,cells,elem,hb,Iq,FW,AB,BQ⟩:=hp.sim.obj id _ x' hH Aq;have Ik:x'.z=z.length:=DJ;have UZ:=Ap.len;have Ms:n*x'.z<=xs.length*x'.z:=Gh _ Dp
      let nw:=news.take (n*z.length)
      have U1:nw.length=n*x'.z:=by simp only[nw,Gn];rw[<-Ik]at UZ|-;omega
      have IE:∀v∈nw,v.oneCell'=true:=λv hv=>BX v (GZ hv)
      have Dq:(off+n)*x'.z<=els.length*x'.z:=Gh _ (by omega);rw[Gf]at Dq;have Al:=run_storeCells_at P x'.B (x'.o+off*x'.z) elem nw 0 cells w hb (by rw[U1];omega) IE;simp only[GK]at Al;have hf:=RV n Dp w rfl
      let cs:Array Value:=(cells.toList.take (x'.o+off*x'.z)++nw++cells.toList.drop (x'.o+off*x'.z+nw.length)).toArray
      have hr:(Builtin.copy_ #[t,u] o.type #[a.eval x,a.eval y]).run P w=.ok (.int .i64 (n:Int)) (w.setRow x'.B cs):=by
       simp only[Builtin.copy_,GD,HV,List.getElem?_cons_succ,Sem.run_bind,run_underlying hd,hv,Ad,Result.andThen_ok,Rv,BA,hf,Al,Sem.run_pure,goInt,cs,nw]
      have rd:∀p,cs[p]? = if x'.o+off*x'.z<=p/\p<x'.o+off*x'.z+nw.length then nw[p-(x'.o+off*x'.z)]? else cells[p]?:=by
       intro p;simp only[cs,GD];have hA:(cells.toList.take (x'.o+off*x'.z)).length=x'.o+off*x'.z:=by simp;omega
       by_cases h1:p<x'.o+off*x'.z
       ·have h2:p<(cells.toList.take (x'.o+off*x'.z)).length:=by omega
        rw[Gz,Gc h2,Gq h1,iN7];simp
       ·by_cases h2:p<x'.o+off*x'.z+nw.length
        ·have h3:p<(cells.toList.take (x'.o+off*x'.z)++nw).length:=by rw[Gj];omega
         have h4:(cells.toList.take (x'.o+off*x'.z)).length<=p:=by omega
         rw[Gc h3,Gm h4,hA,if_pos ⟨by omega,h2⟩]
        ·have h3:(cells.toList.take (x'.o+off*x'.z)++nw).length<=p:=by rw[Gj];omega
         rw[Gm h3,iN7,Gr];simp only[Gj,hA];rw[show x'.o+off*x'.z+nw.length+(p-(x'.o+off*x'.z+nw.length))=p by omega];simp
      have Bz:(xs.take n).length=n:=by simp;omega
      refine JdV (nx:=.value (.int .i64 (n:Int))) hp hH Aq hb DJ (Ag _ _ hr) (.inl rfl) (by simp[cs];omega) (by simp only[Gj,Bz,Gn,G6];rw[show min off els.length+(n+(els.length-(off+n)))=els.length by omega];exact FW) (λq hq=>by rw[rd,iN7]) (λj ee hj=>?_) (Jal BQ IE) (by simp[rel]);by_cases IK:j<off
      ·rw[Gc (by simp;omega),Gq IK]at hj;have:=AB j ee hj;refine⟨this.1,λt c hc=>?_⟩;obtain⟨r,BU,Bf⟩:=this.2 t c hc;have ht:t<x'.z:=this.1▸(Gd.1 hc).1;have:(j+1)*x'.z<=off*x'.z:=Gh _ IK;rw[Gf,Gt]at this;exact⟨r,by show cs[_]? = _;rw[rd,iN7];exact BU,Bf⟩
      ·rw[Gm (by simp;omega)]at hj;have e3:(els.take off).length=off:=by simp;omega
       rw[e3]at hj;by_cases Ea:j<off+n
       ·rw[Gc (by rw[Bz];omega),Gq (by omega)]at hj;have UQ:=Ap.relO (R:=λi=>news[i]?) (o:=0) (λi v hv=>by simpa using hv);have:=UQ _ ee hj;rw[<-Ik]at this;refine⟨this.1,λt c hc=>?_⟩;obtain⟨r,BU,Bf⟩:=this.2 t c hc;have ht:t<x'.z:=this.1▸(Gd.1 hc).1;simp only[GI]at BU;have e4:j*x'.z=off*x'.z+(j-off)*x'.z:=by rw[<-Gf];congr 1;omega
        have e5:(j-off+1)*x'.z<=n*x'.z:=Gh _ (by omega);rw[Gf,Gt]at e5;refine⟨r,?_,Bf⟩;show cs[_]? = _;rw[rd,iP7,show x'.o+j*x'.z+t-(x'.o+off*x'.z)=(j-off)*x'.z+t by omega];simp only[nw];rw[Gq (by rw[<-Ik];omega)];exact BU
       ·rw[Gm (by rw[Bz];omega),Bz,Gr,show off+n+(j-off-n)=j by omega]at hj;have:=AB j ee hj;refine⟨this.1,λt c hc=>?_⟩;obtain⟨r,BU,Bf⟩:=this.2 t c hc;have:(off+n)*x'.z<=j*x'.z:=Gh _ (by omega);rw[Gf]at this;exact⟨r,by show cs[_]? = _;rw[rd,iN7];exact BU,Bf⟩
    ·cases he
   ·cases he
  ·rename_i z' cap e1;rw[e1]at h1;simp only[rel]at h1;simp only[Ga,Gb]at he;obtain⟨_,rfl,rfl⟩:=he;rcases h1 with ⟨_,_,b,hv⟩|⟨B,q,rc,hv,C9,Bi,AB⟩
   ·exact Jr hp.sim (Ag _ _ (Ij _ _ hv)) rfl
   ·exact Jr hp.sim (Ag _ _ (Ij _ _ hv)) rfl
  ·cases he
theorem Jeq {x:Option Operand}{y:Option IArg}(h:QR x=some y):y=none↔x=none:=by
 cases x with
 |none=>simp[QR]at h;simp[h.symm]
 |some x=>
  simp only[QR]at h;obtain⟨b,_,rfl⟩:∃b,JD x=some b/\some b=y:=by cases hx:JD x with|none=>simp[hx]at h|some b=>exact⟨b,rfl,by simpa [hx]using h⟩
  simp
theorem Yb {α β:Type}{f:α->β}{x:Option α}{y:β}(h:x.map f=some y):∃a,x=some a/\f a=y:=by
 cases x with
 |none=>simp at h
 |some a=>exact⟨a,rfl,by simpa using h⟩
theorem Jf9 {i:IOp}(Ac:XJ P o.op=some i)(he:exec i T H=some (c,v,H'))(hc:c.holds)(hp:Pre E n0 m H w T a):Good P E n0 m H w (execOp a.eval o) v H':=by
 cases AY:o.op <;> rw[AY]at Ac <;> simp only[XJ]at Ac
 case move x=>obtain⟨b,hb,rfl⟩:=Yb Ac;exact snd_mv (.inl AY) hb he hp
 case assign x=>obtain⟨b,hb,rfl⟩:=Yb Ac;exact snd_mv (.inr AY) hb he hp
 case pick x y z=>
  split at Ac
  ·cases Ac;exact snd_pick AY ‹_› ‹_› ‹_› he hp
  ·cases Ac
 case alloc t=>obtain⟨b,hb,rfl⟩:=Yb Ac;exact snd_alloc AY hb he hp
 case box t x=>obtain⟨b,hb,rfl⟩:=Yb Ac;exact snd_box AY hb he hp
 case build t ps=>
  split at Ac
  ·split at Ac
   ·obtain⟨b,hb,rfl⟩:=Yb Ac;exact snd_build AY ‹_› ‹_› ‹_› hb he hp
   ·cases Ac
  ·split at Ac
   ·obtain⟨b,hb,rfl⟩:=Yb Ac;exact snd_buildA AY ‹_› ‹_› ‹_› hb he hp
   ·cases Ac
  ·cases Ac
 case buildSlice t n ps=>
  split at Ac
  ·split at Ac
   ·split at Ac
    ·rename_i DX;cases Ac;exact snd_bslice AY ‹_› ‹_› ‹_› DX.1 DX.2 he hp
    ·cases Ac
   ·cases Ac
  ·cases Ac
 case load t x=>
  split at Ac
  ·cases Ac;exact snd_load AY ‹_› ‹_› ‹_› he hc hp
  ·cases Ac
 case store t x y=>
  split at Ac
  ·cases Ac;exact snd_store AY ‹_› ‹_› ‹_› he hc hp
  ·cases Ac
 case binOp op t x y ty=>
  split at Ac
  ·split at Ac
   ·split at Ac
    ·cases Ac
    ·rename_i hg
     split at Ac
     ·cases Ac;exact snd_eqs AY ‹_› ‹_› (by simpa using hg) (.inl ⟨rfl,rfl⟩) ‹_› ‹_› he hp
     ·cases Ac;exact snd_eqs AY ‹_› ‹_› (by simpa using hg) (.inr ⟨rfl,rfl⟩) ‹_› ‹_› he hp
     ·cases Ac
   ·cases Ac
  ·cases Ac;exact snd_bin AY ‹_› ‹_› ‹_› he hc hp
  ·cases Ac
 case unOp op t x=>
  cases op <;> simp only[XJ]at Ac <;> (try cases Ac;done)
  ·obtain⟨b,hb,rfl⟩:=Yb Ac;exact snd_neg AY hb he hc hp
  ·obtain⟨b,hb,rfl⟩:=Yb Ac;exact snd_not AY hb he hp
 case convert s d x=>
  split at Ac
  ·cases Ac;exact snd_conv AY ‹_› ‹_› ‹_› he hc hp
  ·cases Ac
 case makeFunc fn l1 l2=>
  cases fn <;> simp only[XJ]at Ac <;> (try cases Ac;done)
  split at Ac
  ·cases Ac;exact snd_mkfn AY ‹_› ‹_› he hp
  ·cases Ac
 case makeMap t r=>
  cases r <;> simp only[XJ]at Ac <;> (try cases Ac;done)
  cases Ac;exact snd_mkmap AY he hp
 case makeSlice t l c=>
  split at Ac
  ·split at Ac
   ·split at Ac
    ·cases Ac;exact snd_mkslice AY ‹_› ‹_› ‹_› ‹_› ‹_› ‹_› he hc hp
    ·cases Ac
   ·cases Ac
  ·cases Ac
 case slice t x lo hi mx=>
  split at Ac
  ·split at Ac
   ·split at Ac
    ·cases Ac
    ·rename_i h1 h2 h3 h4 h5 BJ;simp only[Option.isNone_iff_eq_none,Lj,Ll,ne_eq,Jeq h4,Jeq h5]at BJ
     cases Ac;exact snd_slice AY ‹_› h1 h2 h3 h4 h5 (by simpa [Ll]using BJ) he hc hp
   ·cases Ac
  ·split at Ac
   ·cases Ac;exact snd_sliceS AY ‹_› ‹_› ‹_› ‹_› he hc hp
   ·cases Ac
  ·cases Ac
 case fieldAddr t x f=>
  split at Ac
  ·split at Ac
   ·split at Ac
    ·split at Ac
     ·cases Ac;exact snd_faddr AY ‹_› ‹_› ‹_› ‹_› ‹_› he hc hp
     ·cases Ac
    ·cases Ac
   ·cases Ac
  ·cases Ac
 case field t x f=>
  split at Ac
  ·split at Ac
   ·split at Ac
    ·cases Ac;exact snd_field AY ‹_› ‹_› ‹_› ‹_› ‹_› he hc hp
    ·cases Ac
   ·cases Ac
  ·cases Ac
 case indexAddr t x i=>
  split at Ac
  ·split at Ac
   ·cases Ac;exact snd_iaddr AY ‹_› ‹_› ‹_› ‹_› he hc hp
   ·cases Ac
  ·cases Ac
 case index t x i=>
  split at Ac
  ·split at Ac
   ·cases Ac;exact snd_indexS AY ‹_› ‹_› ‹_› he hc hp
   ·cases Ac
  ·cases Ac
 case lookup t x k ok=>
  split at Ac
  ·split at Ac
   ·split at Ac
    ·cases Ac;exact snd_lookup AY ‹_› ‹_› ‹_› ‹_› ‹_› ‹_› he hp
    ·cases Ac
   ·cases Ac
  ·cases Ac
 case mapUpdate t x k y=>
  split at Ac
  ·split at Ac
   ·split at Ac
    ·cases Ac;exact Jfv (.inl AY) ‹_› ‹_› ‹_› ‹_› ‹_› ‹_› he hp
    ·cases Ac
   ·cases Ac
  ·cases Ac
 case insert t x k y=>
  split at Ac
  ·split at Ac
   ·split at Ac
    ·cases Ac;exact Jfv (.inr AY) ‹_› ‹_› ‹_› ‹_› ‹_› ‹_› he hp
    ·cases Ac
   ·cases Ac
  ·cases Ac
 case nilCheck x=>obtain⟨b,hb,rfl⟩:=Yb Ac;exact snd_nchk AY hb he hp
 case extract x k=>obtain⟨b,hb,rfl⟩:=Yb Ac;exact snd_extract AY hb he hp
 case call cl=>
  split at Ac
  ·split at Ac
   ·split at Ac
    ·obtain⟨b,hb,rfl⟩:=Yb Ac;simp[exec]at he
    ·cases Ac
   ·cases Ac
  ·split at Ac
   ·cases Ac;simp[exec]at he
   ·cases Ac
  ·split at Ac
   ·split at Ac
    ·obtain⟨b,hb,rfl⟩:=Yb Ac;exact snd_len AY ‹_› ‹_› ‹_› ‹_› hb he hp
    ·cases Ac
   ·cases Ac
  ·split at Ac
   ·split at Ac
    ·split at Ac
     ·split at Ac
      ·cases Ac;exact Jfw AY ‹_› ‹_› ‹_› ‹_› ‹_› (.inl ⟨_,rfl⟩) ‹_› ‹_› ‹_› ‹_› ‹_› he hc hp
      ·cases Ac
     ·cases Ac
    ·split at Ac
     ·split at Ac
      ·cases Ac;exact Jfw AY ‹_› ‹_› ‹_› ‹_› ‹_› (.inr rfl) ‹_› ‹_› ‹_› ‹_› ‹_› he hc hp
      ·cases Ac
     ·cases Ac
    ·cases Ac
   ·cases Ac
  ·split at Ac
   ·split at Ac
    ·cases Ac;exact snd_mx (big:=true) AY ‹_› ‹_› ‹_› ‹_› he hp
    ·cases Ac
   ·cases Ac
  ·split at Ac
   ·split at Ac
    ·cases Ac;exact snd_mx (big:=false) AY ‹_› ‹_› ‹_› ‹_› he hp
    ·cases Ac
   ·cases Ac
  ·split at Ac
   ·split at Ac
    ·split at Ac
     ·split at Ac
      ·rename_i Ik;cases Ac;exact snd_copy AY ‹_› ‹_› ‹_› ‹_› ‹_› Ik ‹_› ‹_› he hc hp
      ·cases Ac
     ·cases Ac
    ·cases Ac
   ·cases Ac
  ·split at Ac
   ·split at Ac
    ·split at Ac
     ·cases Ac;exact snd_clear AY ‹_› ‹_› ‹_› ‹_› ‹_› ‹_› he hc hp
     ·cases Ac
    ·cases Ac
   ·cases Ac
  ·cases Ac
 all_goals (first|cases Ac|skip)
end
end
section
inductive KItem where
 |code (c:ICode)
 |ops (l:List IOper)
 |blk (id:Nat)
def ICode.size:ICode->Nat
 |.skip=>1
 |.reg l=>l.length+2
 |.dreg l _=>l.length+2
 |.seq a b=>a.size+b.size+1
 |.cond _ a b=>a.size+b.size+1
 |.block _ a=>a.size+2
 |.loop a=>a.size+1
 |.rfunc _ _ a b=>a.size+b.size+1
 |.exit _=>1
 |.ret=>1
 |.bad=>1
def KItem.size:KItem->Nat
 |.code c=>c.size
 |.ops l=>l.length+1
 |.blk _=>1
def YD:List KItem->Nat
 |[]=>0
 |x::k=>x.size+YD k
def put (T:List CV)(d:Option Nat)(v:CV):List CV:=
 match d with
 |some d=>T.set d v
 |none=>T
def WF (ro:Option Nat):Fence:={ fn:=λ_=>True,depth:=none,alive:=false,round:=ro }
theorem Ja5 (P:Program)(ro:Option Nat)(m:Machine):m.fenced P (WF ro):=by
 intro g _;refine⟨λh=>?_,Or.inl trivial,λ_ _=>trivial,λ_ h=>?_⟩
 ·simp[WF]at h
 ·simp[WF]at h
theorem Jej (ro:Option Nat)(n:Nat):(WF ro).room n:=λ_ h=>by simp[WF]at h
theorem JgC {P:Program}{ro:Option Nat}{m m':Machine}(h:Steps P m m'):StepsIn (Machine.fenced P (WF ro)) P m m':=(StepsIn.of_steps h).mono λm _=>Ja5 P ro m
structure Fr where
 n:Nat
 rnd:Bool
def JdD (N:Fr)(b:Frame)(m:Bk)(H:List CObj)(w:World)(ds:List Deferred):Prop:=
 (N.rnd=false->b.roundOf=none)/\N.n<=w.heap.size/\∃Ds:List Nat,ds=Ds.map (λD=>{ target:=.collected D,args:=#[] })/\Ds.Nodup/\∀D∈Ds,N.n<=D/\w.heap[D]? = some (.deferred (some []))/\¬owned m H D
theorem JdD.ext {n0:Nat}{N:Fr}{b:Frame}{m m':Bk}{H H':List CObj}{w w':World}{ds:List Deferred}(h:JdD N b m H w ds)(he:Ext n0 m H w m' H' w'):JdD N b m' H' w' ds:=by
 obtain⟨hb,hn,Ds,h1,h2,h3⟩:=h;refine⟨hb,GJ hn he.size,Ds,h1,h2,λD hD=>?_⟩;obtain⟨a,b,c⟩:=h3 D hD;have Ab:D<w.heap.size:=(GN.1 b).1;refine⟨a,(he.frame D Ab c).trans b,λho=>?_⟩;rcases he.newOwn D ho with h|h
 ·exact c h
 ·omega
theorem JdD.nil (N:Fr)(b:Frame)(hb:N.rnd=false->b.roundOf=none)(m:Bk)(H:List CObj)(w:World)(hn:N.n<=w.heap.size):JdD N b m H w []:=⟨hb,hn,[],rfl,List.nodup_nil,λD hD=>by cases hD⟩
section
variable (P:Program)(E:Env)(n0:Nat)(N:Fr)
def Reach (Q:Exit->List CV->List CObj->Prop)(b:Frame)(rest:List Item)(cs:List Frame)(m:Bk)(H:List CObj)(w:World)(mach:Machine):Prop:=
 ∃e a' w' m' T' H',Ext n0 m H w m' H' w'/\Pre E n0 m' H' w' T' a'/\JdD N b m' H' w' a'.defers/\Q e T' H'/\ArrivesIn (Machine.fenced P (WF none)) P mach b rest cs e a' w'
def CallsC (f:Nat)(args:List CV)(H:List CObj)(R:CV->List CObj->Prop):Prop:=
 ∀m w (vs:Array Value),Sim E m H w->JS m.own m.imm args vs.toList->
  CallsIn (WF none) 0 P f vs w λe w'=>∃r m' v H',e=.returned r/\Ext H.length m H w m' H' w'/\Sim E m' H' w'/\rel m'.own m'.imm v r/\R v H'
def Yz:List KItem->List Item->Prop
 |[],kr=>kr=[]
 |.code c::k,kr=>∃c' kr',kr=.code c'::kr'/\JC P c'=some c/\Yz k kr'
 |.ops l::k,kr=>∃ops is kr',kr=.inRegion ops is::kr'/\(is.length=l.length/\∀(j i:Nat),is[j]? = some i->∃o io,ops[i]? = some o/\l[j]? = some io/\XI P ops o=some io)/\Yz k kr'
 |.blk id::k,kr=>∃kr',kr=.inBlock id::kr'/\Yz k kr'
def Ok (Q:Exit->List CV->List CObj->Prop)(k:List KItem)(T:List CV)(H:List CObj):Prop:=
 ∀(m:Bk) (w:World) (a:Act) (b:Frame) (cs:List Frame) (kr rest:List Item),Pre E n0 m H w T a->JdD N b m H w a.defers->Yz P k kr->
  Reach P E n0 N Q b rest cs m H w (lone (b.atR a (kr++rest)) cs w)
end
section
variable {P:Program}{E:Env}{n0:Nat}{N:Fr}{Q:Exit->List CV->List CObj->Prop}{b:Frame}{rest:List Item}{cs:List Frame}{m m':Bk}{H H':List CObj}{w w':World}{mach mach':Machine}{T:List CV}{k:List KItem}
theorem Reach.step (h:Steps P mach mach')(he:Ext n0 m H w m' H' w')(hr:Reach P E n0 N Q b rest cs m' H' w' mach'):Reach P E n0 N Q b rest cs m H w mach:=by
 obtain⟨e,a',w2,m2,T2,H2,h1,h2,h3,h4,h5⟩:=hr;exact⟨e,a',w2,m2,T2,H2,he.trans h1,h2,h3,h4,.of_steps (JgC h) h5⟩
theorem Reach.one (h:Go.step P mach=.next mach')(hr:Reach P E n0 N Q b rest cs m H w mach'):Reach P E n0 N Q b rest cs m H w mach:=
 Reach.step (Steps.one h) (Ext.refl _ _ _ _) hr
theorem ok_nil (h:Q .normal T H):Ok P E n0 N Q [] T H:=by
 intro m w a b cs kr rest hp hd hk;simp only[Yz]at hk;subst hk;exact⟨.normal,a,w,m,T,H,Ext.refl _ _ _ _,hp,hd,h,.refl _⟩
theorem ok_blk {id:Nat}(h:Ok P E n0 N Q k T H):Ok P E n0 N Q (.blk id::k) T H:=by
 intro m w a b cs kr rest hp hd hk;simp only[Yz]at hk;obtain⟨kr',rfl,AA⟩:=hk;exact Reach.one stepR_inBlock (h m w a b cs kr' rest hp hd AA)
theorem inv_skip {c:Code}(h:JC P c=some .skip):c=.skip:=by
 cases c <;> simp only[JC]at h <;> (repeat' split at h) <;> (try cases h) <;> rfl
theorem inv_ret {c:Code}(h:JC P c=some .ret):c=.ret:=by
 cases c <;> simp only[JC]at h <;> (repeat' split at h) <;> (try cases h) <;> rfl
theorem inv_exit {c:Code}{id:Nat}(h:JC P c=some (.exit id)):c=.exit id:=by
 cases c <;> simp only[JC]at h <;> (repeat' split at h) <;> (try cases h) <;> rfl
theorem inv_seq {c:Code}{x y:ICode}(h:JC P c=some (.seq x y)):∃a b,c=.seq a b/\JC P a=some x/\JC P b=some y:=by
 cases c <;> simp only[JC]at h <;> (repeat' split at h) <;> (try cases h) <;> exact⟨_,_,rfl,‹_›,‹_›⟩
theorem inv_cond {c:Code}{i:IArg}{x y:ICode}(h:JC P c=some (.cond i x y)):∃o a b,c=.cond o a b/\JD o=some i/\JC P a=some x/\JC P b=some y:=by
 cases c <;> simp only[JC]at h <;> (repeat' split at h) <;> (try cases h) <;> exact⟨_,_,_,rfl,‹_›,‹_›,‹_›⟩
theorem inv_block {c:Code}{id:Nat}{x:ICode}(h:JC P c=some (.block id x)):∃a,c=.block id a/\JC P a=some x:=by
 cases c <;> simp only[JC]at h <;> (repeat' split at h) <;> (try cases h) <;> exact⟨_,rfl,‹_›⟩
theorem inv_loop {c:Code}{x:ICode}(h:JC P c=some (.loop x)):∃a,c=.loop a/\JC P a=some x:=by
 cases c <;> simp only[JC]at h <;> (repeat' split at h) <;> (try cases h) <;> exact⟨_,rfl,‹_›⟩
theorem inv_reg {c:Code}{l:List IOper}(h:JC P c=some (.reg l)):∃id ops,c=.region id ops false/\Yw P ops ops.toList=some l:=by
 cases c <;> simp only[JC]at h <;> (repeat' split at h) <;> (try cases h)
 rename_i id ops dr _ F5 hc;obtain rfl:dr=false:=Bool.eq_false_iff.2 F5;exact⟨id,ops,rfl,hc⟩
theorem Jg3 {c:Code}{l:List IOper}{es:List (List Nat)}(h:JC P c=some (.dreg l es)):∃id ops,c=.region id ops true/\Yw P ops ops.toList=some l/\es=ops.toList.map Ja7:=by
 cases c <;> simp only[JC]at h <;> (repeat' split at h) <;> (try cases h)
 rename_i id ops dr _ F5 hc;obtain rfl:dr=true:=F5;exact⟨id,ops,rfl,hc,rfl⟩
theorem inv_rfunc {c:Code}{f:IArg}{ps:List Nat}{x y:ICode}(h:JC P c=some (.rfunc f ps x y)):∃g qs a b,c=.rangeFunc g qs a b/\JD g=some f/\qs.toList=ps/\JC P a=some x/\JC P b=some y:=by
 cases c <;> simp only[JC]at h <;> (repeat' split at h) <;> (try cases h) <;> exact⟨_,_,_,_,rfl,‹_›,rfl,‹_›,‹_›⟩
theorem XH {ops:Array Oper}:∀(l:List Oper) (is:List IOper),Yw P ops l=some is->is.length=l.length/\∀(j:Nat) o,l[j]? = some o->∃io,is[j]? = some io/\XI P ops o=some io
 |[],is,h=>by simp[Yw]at h;subst h;simp
 |o::l,is,h=>by
  simp only[Yw]at h
  split at h
  ·rename_i i is' h1 h2
   cases h
   obtain⟨hl,hg⟩:=XH l is' h2;refine⟨by simp[hl],λj o' ho=>?_⟩
   cases j with
   |zero=>simp at ho;subst ho;exact⟨i,rfl,h1⟩
   |succ j=>simpa using hg j o' (by simpa using ho)
  ·cases h
theorem ok_skip (h:Ok P E n0 N Q k T H):Ok P E n0 N Q (.code .skip::k) T H:=by
 intro m w a b cs kr rest hp hd hk;simp only[Yz]at hk;obtain⟨c',kr',rfl,hc,AA⟩:=hk;obtain rfl:=inv_skip hc;exact Reach.one stepR_skip (h m w a b cs kr' rest hp hd AA)
theorem ok_seq {x y:ICode}(h:Ok P E n0 N Q (.code x :: .code y::k) T H):Ok P E n0 N Q (.code (.seq x y)::k) T H:=by
 intro m w a b cs kr rest hp hd hk;simp only[Yz]at hk;obtain⟨c',kr',rfl,hc,AA⟩:=hk;obtain⟨c1,c2,rfl,h1,h2⟩:=inv_seq hc;refine Reach.one stepR_seq (h m w a b cs (.code c1 :: .code c2::kr') rest hp hd ?_);simp only[Yz];exact⟨c1,_,rfl,h1,c2,_,rfl,h2,AA⟩
theorem ok_block {id:Nat}{x:ICode}(h:Ok P E n0 N Q (.code x :: .blk id::k) T H):Ok P E n0 N Q (.code (.block id x)::k) T H:=by
 intro m w a b cs kr rest hp hd hk;simp only[Yz]at hk;obtain⟨c',kr',rfl,hc,AA⟩:=hk;obtain⟨c1,rfl,h1⟩:=inv_block hc;refine Reach.one stepR_block (h m w a b cs (.code c1 :: .inBlock id::kr') rest hp hd ?_);simp only[Yz];exact⟨c1,_,rfl,h1,_,rfl,AA⟩
theorem ok_cond {i:IArg}{x y:ICode}{t:Bool}(hi:Ka T i=.bool t)(h:Ok P E n0 N Q (.code (if t then x else y)::k) T H):Ok P E n0 N Q (.code (.cond i x y)::k) T H:=by
 intro m w a b cs kr rest hp hd hk;simp only[Yz]at hk;obtain⟨c',kr',rfl,hc,AA⟩:=hk;obtain⟨o,c1,c2,rfl,h0,h1,h2⟩:=inv_cond hc;have hr:=JJ (a:=a) hp.tmps h0;rw[hi]at hr;simp only[rel]at hr;refine Reach.one (stepR_cond hr) (h m w a b cs (.code (if t then c1 else c2)::kr') rest hp hd ?_);simp only[Yz];exact⟨_,_,rfl,by cases t <;> simp[h1,h2],AA⟩
theorem ok_ret (h:Q .ret T H):Ok P E n0 N Q (.code .ret::k) T H:=by
 intro m w a b cs kr rest hp hd hk;simp only[Yz]at hk;obtain⟨c',kr',rfl,hc,AA⟩:=hk;obtain rfl:=inv_ret hc;exact⟨.ret,a,w,m,T,H,Ext.refl _ _ _ _,hp,hd,h,λhn=>⟨_,.one (Ja5 _ _ _) (stepR_ret hn)⟩,λ_=>⟨_,.refl _⟩⟩
theorem ok_reg {l:List IOper}(h:Ok P E n0 N Q (.ops l::k) T H):Ok P E n0 N Q (.code (.reg l)::k) T H:=by
 intro m w a b cs kr rest hp hd hk;simp only[Yz]at hk;obtain⟨c',kr',rfl,hc,AA⟩:=hk;obtain⟨id,ops,rfl,h1⟩:=inv_reg hc;obtain⟨hl,hg⟩:=XH _ _ h1;refine Reach.one stepR_region (h m w a b cs (.inRegion ops (GX ops.size)::kr') rest hp hd ?_);simp only[Yz];refine⟨ops,_,_,rfl,⟨by simp[hl],λj i hj=>?_⟩,AA⟩;have Ab:j<ops.size:=by have:=(Gd.1 hj).1;simpa using this
 have:i=j:=by have:=(Gd.1 hj).2;simpa using this.symm
 subst this;obtain⟨io,h2,h3⟩:=hg i ops[i] (by simp[Ab]);exact⟨ops[i],io,by simp[Ab],h2,h3⟩
theorem Jbq (h:Ok P E n0 N Q k T H):Ok P E n0 N Q (.ops []::k) T H:=by
 intro m w a b cs kr rest hp hd hk;simp only[Yz]at hk;obtain⟨ops,is,kr',rfl,⟨hl,_⟩,AA⟩:=hk;obtain rfl:is=[]:=Gx (by simpa using hl);exact Reach.one stepR_region_end (h m w a b cs kr' rest hp hd AA)
theorem JcX {a:Act}{n0:Nat}{d:Option Nat}{v:CV}{r:Value}(hs:Sim E m H w)(ht:JS m.own m.imm T a.tmps.toList)(hl:n0<=H.length)(hr:rel m.own m.imm v r):Pre E n0 m H w (put T d v) (a.put d r):=by
 refine⟨hs,?_,hl⟩
 cases d with
 |none=>exact ht
 |some d=>
  simp only[put,Act.put];have:=rels_set ht d hr;simpa using this
theorem put_defers {a:Act}{d:Option Nat}{r:Value}:(a.put d r).defers=a.defers:=by cases d <;> rfl
theorem semAt_plain {ro:Option Nat}{ρ:Operand->Value}{o:Oper}{i:IOp}(h:XJ P o.op=some i):o.semAt ro ρ=execOp ρ o:=
 Oper.semAt_eq ro ρ o λc hc=>by rw[hc]at h;simp[XJ]at h
theorem wanted_none {ops:Array Oper}{o:Oper}{io:IOper}{tmps:Array Value}(h:XI P ops o=some io)(hg:io.guard=none):Region.wanted o (yielded ops tmps)=true/\o.dst=io.dst/\XJ P o.op=some io.op:=by
 unfold XI at h
 split at h
 ·cases h
 ·rename_i i hi
  split at h
  ·rename_i Ca
   cases h
   exact⟨by simp[Region.wanted,Ca],rfl,hi⟩
  ·split at h
   ·cases h;simp at hg
   ·cases h
theorem Jd1 {ops:Array Oper}{o:Oper}{io:IOper}{a:Act}{own:List Own}{imm:Nat->Nat->Option Value}{g:Nat}{want t:Bool}(h:XI P ops o=some io)(hg:io.guard=some (g,want))(hT:JS own imm T a.tmps.toList)(hb:T.getD g .un=.bool t) :
  Region.wanted o (yielded ops a.tmps)=(t == want)/\o.dst=io.dst/\XJ P o.op=some io.op:=by
 unfold XI at h
 split at h
 ·cases h
 ·rename_i i hi
  split at h
  ·cases h;simp at hg
  ·rename_i j wt Ca
   split at h
   ·rename_i d Cc
    cases h
    simp only[Ga,Gb]at hg;obtain⟨rfl,rfl⟩:=hg;refine⟨?_,rfl,hi⟩;have Ab:d<T.length:=by
     rcases Lg d T.length with h1|h1
     ·exact h1
     ·rw[Gp,GU h1]at hb;cases hb
    obtain⟨u,hu,hr⟩:=XW hT (Gg Ab);have e1:T[d]=.bool t:=by rw[<-hb];simp[Gp,Gg Ab]
    rw[e1]at hr;simp only[rel]at hr;subst hr;have PO:a.tmps[d]? = some (.bool t):=by simpa using hu
    have:yielded ops a.tmps j=some t:=by simp only[yielded,Cc,Hr,PO]
    simp only[Region.wanted,Ca,this]
    cases t <;> cases wt <;> rfl
   ·cases h
theorem JcR {ops:Array Oper}{i:Nat}{is:List Nat}{o:Oper}{a:Act}{r:Value}{nx:Next}{kr:List Item}(ho:ops[i]? = some o)(hw:Region.wanted o (yielded ops a.tmps)=true)(Iu:o.semAt b.roundOf a.eval=execOp a.eval o)(Ag:(execOp a.eval o).run P w=.ok nx w')(Dp:nx=.value r\/(nx=.skip/\r=undef)) :
  Go.step P (lone (b.atR a (.inRegion ops (i::is)::kr)) cs w)=.next (lone (b.atR (a.put o.dst r) (.inRegion ops is::kr)) cs w'):=by
 have hg:=stepGR_op (P:=P) (b:=b) (k:=kr) (cs:=cs) (w:=w) (rest:=is) ho hw;rw[Iu]at hg;have AL:∀v,(b.atR a (.inRegion ops (i::is)::kr)).finish v=b.atR (a.put o.dst v) (.inRegion ops is::kr):=by
  intro v;rw[Frame.finish_atR,ho];rfl
 refine step_lone_go ?_;rcases Dp with rfl|⟨rfl,rfl⟩
 ·rw[hg,<-AL];simp[stepG.apply,Ag]
 ·rw[hg,<-AL];simp[stepG.apply,Ag]
theorem Jbp {l:List IOper}{io:IOper}{kr:List Item}(h:Yz P (.ops (io::l)::k) kr):∃ops i is kr' o,kr=.inRegion ops (i::is)::kr'/\ops[i]? = some o/\XI P ops o=some io/\Yz P (.ops l::k) (.inRegion ops is::kr'):=by
 simp only[Yz]at h;obtain⟨ops,is,kr',rfl,⟨hl,hg⟩,AA⟩:=h
 cases is with
 |nil=>simp at hl
 |cons i is=>
  obtain⟨o,io',h1,h2,h3⟩:=hg 0 i rfl;simp at h2;subst h2;refine⟨ops,i,is,kr',o,rfl,h1,h3,?_⟩;simp only[Yz];exact⟨ops,is,kr',rfl,⟨by simpa using hl,λj i' hj=>by simpa using hg (j+1) i' (by simpa using hj)⟩,AA⟩
def GOk (T:List CV)(g:Option (Nat×Bool)):Prop:=g=none\/∃s want,g=some (s,want)/\T.getD s .un=.bool want
theorem JaH {ops:Array Oper}{o:Oper}{io:IOper}{a:Act}{own:List Own}{imm:Nat->Nat->Option Value}(h:XI P ops o=some io)(hg:GOk T io.guard)(hT:JS own imm T a.tmps.toList) :
  Region.wanted o (yielded ops a.tmps)=true/\o.dst=io.dst/\XJ P o.op=some io.op:=by
 rcases hg with hg|⟨s,want,hg,hb⟩
 ·exact wanted_none h hg
 ·obtain⟨h1,h2,h3⟩:=Jd1 h hg hT hb;exact⟨by rw[h1];simp,h2,h3⟩
theorem Jet {io:IOper}{l:List IOper}{c:Cond}{v:CV}(hg:GOk T io.guard)(he:exec io.op T H=some (c,v,H'))(hc:c.holds)(h:Ok P E n0 N Q (.ops l::k) (put T io.dst v) H'):Ok P E n0 N Q (.ops (io::l)::k) T H:=by
 intro m w a b cs kr rest hp hd hk;obtain⟨ops,i,is,kr',o,rfl,ho,E5,AA⟩:=Jbp hk;obtain⟨hw,Cc,AY⟩:=JaH E5 hg hp.tmps;obtain⟨m',w',r,nx,Ag,Dp,Ae,CX,Ao,CG⟩:=Jf9 AY he hc hp;have Al:=JcR (b:=b) (cs:=cs) (is:=is) (kr:=kr'++rest) ho hw (semAt_plain AY) Ag Dp;rw[Cc]at Al;have Ad:n0<=H'.length:=by rw[<-CX.len];exact Ae.long (by rw[hp.sim.len];exact hp.long)
 refine Reach.step (.one Al) Ae (h m' w' _ b cs (.inRegion ops is::kr') rest (JcX CX (KM CG Ae.imm _ _ hp.tmps) Ad Ao) ?_ AA);rw[put_defers];exact hd.ext Ae
theorem wanted_skip {ops:Array Oper}{o:Oper}{io:IOper}{a:Act}{own:List Own}{imm:Nat->Nat->Option Value}{g:Nat}{want:Bool}(h:XI P ops o=some io)(hg:io.guard=some (g,want))(hT:JS own imm T a.tmps.toList)(hb:T.getD g .un=.tup []) :
  Region.wanted o (yielded ops a.tmps)=false/\o.dst=io.dst:=by
 unfold XI at h
 split at h
 ·cases h
 ·rename_i i hi
  split at h
  ·cases h;simp at hg
  ·rename_i j wt Ca
   split at h
   ·rename_i d Cc
    cases h
    simp only[Ga,Gb]at hg;obtain⟨rfl,rfl⟩:=hg;refine⟨?_,rfl⟩;have Ab:d<T.length:=by
     rcases Lg d T.length with h1|h1
     ·exact h1
     ·rw[Gp,GU h1]at hb;cases hb
    obtain⟨u,hu,hr⟩:=XW hT (Gg Ab);have e1:T[d]=.tup []:=by rw[<-hb];simp[Gp,Gg Ab]
    rw[e1]at hr;simp only[rel]at hr;obtain⟨vs,rfl,_⟩:=hr;have PO:a.tmps[d]? = some (.tuple vs):=by simpa using hu
    have:yielded ops a.tmps j=none:=by simp only[yielded,Cc,Hr,PO]
    simp only[Region.wanted,Ca,this];rfl
   ·cases h
theorem Jes {io:IOper}{g:Nat}{want:Bool}{l:List IOper}(bQ:io.guard=some (g,want))(hg:T.getD g .un=.bool (!want)\/T.getD g .un=.tup [])(h:Ok P E n0 N Q (.ops l::k) (put T io.dst (.tup [])) H):Ok P E n0 N Q (.ops (io::l)::k) T H:=by
 intro m w a b cs kr rest hp hd hk;obtain⟨ops,i,is,kr',o,rfl,ho,E5,AA⟩:=Jbp hk;have dS:Region.wanted o (yielded ops a.tmps)=false/\o.dst=io.dst:=by
  rcases hg with hg|hg
  ·obtain⟨hw,Cc,AY⟩:=Jd1 E5 bQ hp.tmps hg;exact⟨by rw[hw];cases want <;> rfl,Cc⟩
  ·exact wanted_skip E5 bQ hp.tmps hg
 obtain⟨UE,Cc⟩:=dS;have Al:=stepR_op_skip (P:=P) (b:=b) (a:=a) (k:=kr'++rest) (cs:=cs) (w:=w) (ops:=ops) (i:=i) (rest:=is) (by simp[ho,UE]);simp only[ho,Hr]at Al;rw[Cc]at Al;exact Reach.one Al (h m w _ b cs (.inRegion ops is::kr') rest (JcX hp.sim hp.tmps hp.long (by simp[rel,JS,undef])) (by rw[put_defers];exact hd) AA)
theorem step_call {ops:Array Oper}{i:Nat}{is:List Nat}{o:Oper}{a:Act}{kr:List Item}{f:Nat}{vs:Array Value}{R:Ending->World->Prop}(ho:ops[i]? = some o)(hw:Region.wanted o (yielded ops a.tmps)=true)(Iu:o.semAt b.roundOf a.eval=execOp a.eval o)(Ag:(execOp a.eval o).run P w=.ok (.enter f vs) w)
  (Ah:CallsIn (WF none) 0 P f vs w R) (hR:∀e w',R e w'->∃r,e=.returned r):∃r w',R (.returned r) w'/\Steps P (lone (b.atR a (.inRegion ops (i::is)::kr)) cs w) (lone (b.atR (a.put o.dst r) (.inRegion ops is::kr)) cs w'):=by
 have hg:=stepGR_op (P:=P) (b:=b) (k:=kr) (cs:=cs) (w:=w) (rest:=is) ho hw;rw[Iu]at hg;have AL:∀v,(b.atR a (.inRegion ops (i::is)::kr)).finish v=b.atR (a.put o.dst v) (.inRegion ops is::kr):=by
  intro v;rw[Frame.finish_atR,ho];rfl
 obtain⟨e,w'',fr,Sk,Bj,Bn,EN⟩:=Ah.2 (b.atR a (.inRegion ops (i::is)::kr)::cs) (Jej _ _);have Dv:Go.step P (lone (b.atR a (.inRegion ops (i::is)::kr)) cs w)=.next (lone (Frame.enter P f vs .normal) (b.atR a (.inRegion ops (i::is)::kr)::cs) w):=
  step_lone_go (by rw[hg];simp[stepG.apply,Ag,Frame.atR])
 obtain⟨r,rfl⟩:=hR e w'' Sk;refine⟨r,w'',Sk,.head Dv (Steps.trans (StepsIn.steps Bj) (.one ?_))⟩;rw[<-AL];exact step_leave_returned EN
theorem JfJ {io:IOper}{l:List IOper}{f:Nat}{args:List CV}{R:CV->List CObj->Prop}(hg:GOk T io.guard)(Ah:CallsC P E f args H R)(h:∀v H',R v H'->Ok P E n0 N Q (.ops l::k) (put T io.dst v) H')
  (Ag:∀(m:Bk) (w:World) (a:Act) (o:Oper),Pre E n0 m H w T a->XJ P o.op=some io.op->∃vs:Array Value,(execOp a.eval o).run P w=.ok (.enter f vs) w/\JS m.own m.imm args vs.toList):Ok P E n0 N Q (.ops (io::l)::k) T H:=by
 intro m w a b cs kr rest hp hd hk;obtain⟨ops,i,is,kr',o,rfl,ho,E5,AA⟩:=Jbp hk;obtain⟨hw,Cc,AY⟩:=JaH E5 hg hp.tmps;obtain⟨vs,BU,BI⟩:=Ag m w a o hp AY;obtain⟨r,w',⟨r',m',v,H',fu,Ae,CX,Ao,Si⟩,Bj⟩:=step_call (b:=b) (cs:=cs) (is:=is) (kr:=kr'++rest) ho hw (semAt_plain AY) BU (Ah m w vs hp.sim BI) (λe w' ⟨r,_,_,_,h,_⟩=>⟨r,h⟩)
 cases fu
 rw[Cc]at Bj;have CG:KN m.own m'.own:=λj x hj=>Ae.base j x (by rw[<-hp.sim.len];exact(Gd.1 hj).1) hj
 have IQ:Ext n0 m H w m' H' w':={ Ae with base:=λj x hj hx=>CG j x hx,long:=λh=>GJ (by rw[<-hp.sim.len]at *;exact GJ (by have:=hp.long;rw[<-hp.sim.len]at this;exact this) (Gi _)) (Ae.long (by rw[hp.sim.len];exact Gi _)) };have Ad:n0<=H'.length:=by rw[<-CX.len];exact IQ.long (by rw[hp.sim.len];exact hp.long)
 refine Reach.step Bj IQ (h v H' Si m' w' _ b cs (.inRegion ops is::kr') rest (JcX CX (KM CG Ae.imm _ _ hp.tmps) Ad Ao) ?_ AA);rw[put_defers];exact hd.ext IQ
theorem JaQ {f:Nat}{fn:Func}{vs:Array Value}(hf:P.funcs[f]? = some fn) (hb:fn.body.isSome=true) (hn:fn.name≠ "runtime.NumGoroutine"):(callFunc f vs).run P w=.ok (.enter f vs) w:=by
 have U7:(fn.name == "runtime.NumGoroutine")=false:=by simpa using hn
 have Uo:fn.body.isNone=false:=by cases h:fn.body <;> simp_all
 simp only[callFunc,Sem.run_bind,run_program,Result.andThen_ok,hf,U7,Uo,Gu,if_false,Sem.run_pure]
theorem invo_call {op:Op}{f:Nat}{as:List IArg}(h:XJ P op=some (.call f as)):∃cl fn,op=.call cl/\cl.callee=.value (.func f)/\P.funcs[f]? = some fn/\fn.body.isSome=true/\fn.name≠ "runtime.NumGoroutine" /\JaE cl.args.toList=some as:=by
 unfold XJ at h
 split at h
 all_goals (repeat' split at h)
 all_goals first
  |(cases h;done)
  |(obtain⟨_,_,h9⟩:=Yb h;cases h9;done)
  |skip
 obtain⟨as',h8,h9⟩:=Yb h
 cases h9
 have DX:=‹(Option.isSome _ && _)=true›;simp only[Lj,bne_iff_ne,ne_eq]at DX;exact⟨_,_,rfl,‹_›,‹_›,DX.1,DX.2,h8⟩
theorem JfU {op:Op}{x:IArg}{as:List IArg}(h:XJ P op=some (.callv x as)):∃cl xo,op=.call cl/\cl.callee=.value xo/\JD xo=some x/\JaE cl.args.toList=some as:=by
 unfold XJ at h
 split at h
 all_goals (repeat' split at h)
 all_goals first
  |(cases h;done)
  |(obtain⟨_,_,h9⟩:=Yb h;cases h9;done)
  |skip
 cases h
 exact⟨_,_,rfl,‹_›,‹_›,‹_›⟩
theorem Jeu {d:Option Nat}{g:Option (Nat×Bool)}{f:Nat}{as:List IArg}{l:List IOper}{R:CV->List CObj->Prop}(hg:GOk T g)(Ah:CallsC P E f (as.map (Ka T)) H R)(h:∀v H',R v H'->Ok P E n0 N Q (.ops l::k) (put T d v) H'):Ok P E n0 N Q (.ops (⟨d,.call f as,g⟩::l)::k) T H:=by
 refine JfJ (io:=⟨d,.call f as,g⟩) hg Ah h (λm w a o hp AY=>?_);obtain⟨cl,fn,ho,Ci,Bn,hb,hn,has⟩:=invo_call AY;refine⟨cl.args.map a.eval,?_,by simpa using Jby hp.tmps has⟩;simp only[execOp,ho,resolve,Ci,Act.eval,Deferred.ofValue,Sem.run_bind,Sem.run_pure,Result.andThen_ok,invoke];simpa using JaQ (vs:=cl.args.map a.eval) Bn hb hn
theorem JgV {d:Option Nat}{g:Option (Nat×Bool)}{x:IArg}{f:Nat}{l1 l2:List CV}{as:List IArg}{l:List IOper}{R:CV->List CObj->Prop}{fn:Func}(hg:GOk T g) (hx:Ka T x=.fn f l1 l2) (Bn:P.funcs[f]? = some fn) (hb:fn.body.isSome=true) (hn:fn.name≠ "runtime.NumGoroutine")
  (Ah:CallsC P E f (l1++as.map (Ka T)++l2) H R) (h:∀v H',R v H'->Ok P E n0 N Q (.ops l::k) (put T d v) H'):Ok P E n0 N Q (.ops (⟨d,.callv x as,g⟩::l)::k) T H:=by
 refine JfJ (io:=⟨d,.callv x as,g⟩) hg Ah h (λm w a o hp AY=>?_);obtain⟨cl,xo,ho,Ci,PD,has⟩:=JfU AY;have hr:=JJ (a:=a) hp.tmps PD;rw[hx]at hr;simp only[rel]at hr;obtain⟨v1,v2,hv,BU,Bf⟩:=hr;refine⟨v1++cl.args.map a.eval++v2,?_,by simpa using QQ BU (QQ (Jby hp.tmps has) Bf)⟩;simp only[execOp,ho,resolve,Ci,hv,Deferred.ofValue,Sem.run_bind,Sem.run_pure,Result.andThen_ok,invoke];exact JaQ Bn hb hn
end
end
section
section
variable {P:Program}{E:Env}{n0:Nat}{N:Fr}{Q:Exit->List CV->List CObj->Prop}{b:Frame}{rest:List Item}{cs:List Frame}{m m':Bk}{H H':List CObj}{w w':World}{T:List CV}{k:List KItem}
def Ya (id:Nat):List KItem->Option (List KItem)
 |[]=>none
 |.blk id'::k=>if id'=id then some k else Ya id k
 |.code _::k=>Ya id k
 |.ops _::k=>Ya id k
theorem Yv {id:Nat}{rest:List Item}:∀(k:List KItem) (kr:List Item),Yz P k kr->
  match Ya id k with
  |some k'=>∃kr',Yz P k' kr'/\exitTo id (kr++rest)=some (kr'++rest)
  |none=>exitTo id (kr++rest)=exitTo id rest
 |[],kr,h=>by simp only[Yz]at h;subst h;simp[Ya]
 |.blk id'::k,kr,h=>by
  simp only[Yz]at h;obtain⟨kr',rfl,hk⟩:=h;simp only[Ya];by_cases he:id'=id
  ·subst he;simp only[if_true];exact⟨kr',hk,by simp[exitTo]⟩
  ·have:=Yv (id:=id) (rest:=rest) k kr' hk;have e2:exitTo id (.inBlock id'::kr'++rest)=exitTo id (kr'++rest):=by simp[exitTo,he]
   rw[if_neg he,e2];exact this
 |.code _::k,kr,h=>by
  simp only[Yz]at h;obtain⟨c',kr',rfl,_,hk⟩:=h;have:=Yv (id:=id) (rest:=rest) k kr' hk;have e2:exitTo id (.code c'::kr'++rest)=exitTo id (kr'++rest):=by simp[exitTo]
  simp only[Ya];rw[e2];exact this
 |.ops _::k,kr,h=>by
  simp only[Yz]at h;obtain⟨ops,is,kr',rfl,_,hk⟩:=h;have:=Yv (id:=id) (rest:=rest) k kr' hk;have e2:exitTo id (.inRegion ops is::kr'++rest)=exitTo id (kr'++rest):=by simp[exitTo]
  simp only[Ya];rw[e2];exact this
theorem ok_exit {id:Nat}(h:match Ya id k with|some k'=>Ok P E n0 N Q k' T H|none=>Q (.exit id) T H):Ok P E n0 N Q (.code (.exit id)::k) T H:=by
 intro m w a b cs kr rest hp hd hk;simp only[Yz]at hk;obtain⟨c',kr',rfl,hc,AA⟩:=hk;obtain rfl:=inv_exit hc;have hx:=Yv (id:=id) (rest:=rest) k kr' AA
 cases Mj:Ya id k with
 |some k'=>
  rw[Mj]at h hx;obtain⟨kr2,Av,he⟩:=hx;exact Reach.one (stepR_exit he) (h m w a b cs kr2 rest hp hd Av)
 |none=>
  rw[Mj]at h hx;simp only at hx;refine⟨.exit id,a,w,m,T,H,Ext.refl _ _ _ _,hp,hd,h,λk' AA=>.one (Ja5 _ _ _) (stepR_exit (k:=kr'++rest) (hx.trans AA)),λ_ hn=>⟨kr'++rest,hx.trans hn,.refl _⟩⟩
def loopQ (P:Program)(E:Env)(n0:Nat)(N:Fr)(Q:Exit->List CV->List CObj->Prop)(k:List KItem)(I:List CV->List CObj->Prop):Exit->List CV->List CObj->Prop
 |.normal,T,H=>I T H
 |.exit id,T,H=>match Ya id k with
  |some k'=>Ok P E n0 N Q k' T H
  |none=>Q (.exit id) T H
 |.ret,T,H=>Q .ret T H
 |_,_,_=>False
theorem ok_loop {x:ICode}{σ:Type}(I:σ->List CV->List CObj->Prop)(μ:σ->Nat)(s0:σ)(h0:I s0 T H)(hb:∀s T H,I s T H->Ok P E n0 N (loopQ P E n0 N Q k λT' H'=>∃s',I s' T' H'/\μ s' < μ s) [.code x] T H):Ok P E n0 N Q (.code (.loop x)::k) T H:=by
 intro m w a b cs kr rest hp hd hk;simp only[Yz]at hk;obtain⟨c',kr',rfl,hc,AA⟩:=hk;obtain⟨c1,rfl,h1⟩:=inv_loop hc;refine Reach.one stepR_loop ?_;have key:∀j s T H m w a,μ s=j->I s T H->Pre E n0 m H w T a->JdD N b m H w a.defers->Reach P E n0 N Q b rest cs m H w (lone (b.atR a (.code c1 :: .inLoop c1::(kr'++rest))) cs w):=by
  intro j
  induction j using Le with
  |_ j ih=>
   intro s T H m w a hj hI hp hd;have D9:Yz P [.code x] [.code c1]:=by simp only[Yz];exact⟨c1,[],rfl,h1,rfl⟩
   obtain⟨e,a',w',m',T',H',Ae,DC,Dw,hq,Er⟩:=hb s T H hI m w a b cs [.code c1] (.inLoop c1::(kr'++rest)) hp hd D9
   cases e with
   |normal=>
    simp only[loopQ]at hq;obtain⟨s',iV,Ab⟩:=hq;have:=ih (μ s') (by omega) s' T' H' m' w' a' rfl iV DC Dw;refine Reach.step (StepsIn.steps Er) Ae (Reach.one stepR_inLoop this)
   |exit id=>
    simp only[loopQ]at hq;have e1:exitTo id (.inLoop c1::(kr'++rest))=exitTo id (kr'++rest):=by simp[exitTo]
    have hx:=Yv (id:=id) (rest:=rest) k kr' AA
    cases Mj:Ya id k with
    |some k'=>
     rw[Mj]at hq hx;obtain⟨kr2,Av,he⟩:=hx;exact Reach.step (StepsIn.steps (Er.1 _ (e1.trans he))) Ae (hq m' w' a' b cs kr2 rest DC Dw Av)
    |none=>
     rw[Mj]at hq hx;simp only at hx;refine⟨.exit id,a',w',m',T',H',Ae,DC,Dw,hq,λk' AA=>Er.1 k' (by rw[e1,hx];exact AA),λhr hn=>?_⟩;exact Er.2 hr (by rw[e1,hx];exact hn)
   |ret=>exact⟨.ret,a',w',m',T',H',Ae,DC,Dw,hq,Er⟩
   |goto l=>exact hq.elim
   |panic ch=>exact hq.elim
   |outgrown=>exact hq.elim
 have:=key _ s0 T H m w a rfl h0 hp hd;simpa using this
def Jdm (T:List CV)(H:List CObj):RVar->Option (Cond×CV)
 |.tmp t=>some (.tt,T.getD t .un)
 |.cell ag n t=>match exec (.load ag n (.s t)) T H with
  |some (c,v,_)=>some (c,v)
  |none=>none
def Xu (T:List CV)(H:List CObj):List RVar->Option (Cond×List CV)
 |[]=>some (.tt,[])
 |x::l=>match Jdm T H x,Xu T H l with
  |some (c,v),some (c',vs)=>some (.and c c',v::vs)
  |_,_=>none
def resK (r:Option (Cond×List CV))(R:CV->List CObj->Prop)(H:List CObj):Prop:=
 match r with
 |some (c,[v])=>c.holds/\R v H
 |some (c,vs)=>c.holds/\R (.tup vs) H
 |none=>False
def retQ (ts:List RVar)(R:CV->List CObj->Prop):Exit->List CV->List CObj->Prop
 |.normal,T,H=>resK (Xu T H ts) R H
 |.ret,T,H=>resK (Xu T H ts) R H
 |_,_,_=>False
theorem runOne {x:ResultVar}{a:Act}{rv:RVar}{c:Cond}{v:CV}(hx:(∃t,x=.tmp t/\rv=.tmp t)\/(∃s t ag n,x=.cell s t/\rv=.cell ag n s/\Jbh P t=some ag/\Jdi P t=some n))(hp:Pre E n0 m H w T a)(h:Jdm T H rv=some (c,v))(hc:c.holds) :
  ∃r,rel m.own m.imm v r/\(match x with | .tmp t=>(pure (a.tmps.getD t undef):Sem Value) | .cell s t=>do loadVar t (<-asAddr (a.tmps.getD s undef))).run P w=.ok r w:=by
 rcases hx with ⟨t,rfl,rfl⟩|⟨s,t,ag,n,rfl,rfl,BN,hn⟩
 ·simp only[Jdm,Ga,Gb]at h;obtain⟨rfl,rfl⟩:=h;exact⟨_,getD_rel hp.tmps t,rfl⟩
 ·simp only[Jdm]at h
  split at h
  ·rename_i c' v' H' he;simp only[Ga,Gb]at h;obtain⟨rfl,rfl⟩:=h;obtain⟨rfl,ad,r,hv,hr,Ao⟩:=load_val (x:=.tmp s) (i:=.s s) BN hn rfl he hc hp;have Pg:a.tmps.getD s undef=.pointer (some ad):=hv;exact⟨r,Ao,by simp only[Sem.run_bind,Pg,asAddr,Sem.run_pure,Result.andThen_ok,hr]⟩
  ·cases h
theorem run_results {fn:Func}{ts:List RVar}{a:Act}{R:CV->List CObj->Prop}(hr:Jai P fn.results.toList=some ts)(hp:Pre E n0 m H w T a)(hk:resK (Xu T H ts) R H):∃v cv,(results fn a.tmps).run P w=.ok v w/\rel m.own m.imm cv v/\R cv H:=by
 have key:∀(l:List ResultVar) (ts:List RVar) (c:Cond) (vs:List CV),Jai P l=some ts->Xu T H ts=some (c,vs)->c.holds->∃rs,JS m.own m.imm vs rs/\rs.length=l.length/\
   (l.mapM (λ(x:ResultVar)=>match x with | .tmp t=>(pure (a.tmps.getD t undef):Sem Value) | .cell s t=>do loadVar t (<-asAddr (a.tmps.getD s undef)))).run P w=.ok rs w:=by
  intro l
  induction l with
  |nil=>
   intro ts c vs h h' _;simp[Jai]at h;subst h;simp[Xu]at h';obtain⟨_,rfl⟩:=h';exact⟨[],by simp[JS],rfl,by simp⟩
  |cons x l ih=>
   intro ts c vs h h' hc;have step:∀rv ts',ts=rv::ts'->Jai P l=some ts'->((∃t,x=.tmp t/\rv=.tmp t)\/(∃s t ag n,x=.cell s t/\rv=.cell ag n s/\Jbh P t=some ag/\Jdi P t=some n))->∃rs,JS m.own m.imm vs rs/\rs.length=(x::l).length/\
     ((x::l).mapM (λ(x:ResultVar)=>match x with | .tmp t=>(pure (a.tmps.getD t undef):Sem Value) | .cell s t=>do loadVar t (<-asAddr (a.tmps.getD s undef)))).run P w=.ok rs w:=by
    intro rv ts' AO hl hx;subst AO;simp only[Xu]at h'
    split at h'
    ·rename_i c1 v1 c2 vs2 h1 h2;simp only[Ga,Gb]at h';obtain⟨rfl,rfl⟩:=h';obtain⟨r,BU,Bf⟩:=runOne hx hp h1 hc.1;obtain⟨rs,CY,Ad,Ag⟩:=ih ts' c2 vs2 hl h2 hc.2;refine⟨r::rs,by simp only[JS];exact⟨r,rs,rfl,BU,CY⟩,by simp[Ad],?_⟩;simp only[Lb,Sem.run_bind]
     erw [Bf]
     simp only[Result.andThen_ok]
     erw [Ag]
     simp only[Result.andThen_ok,Sem.run_pure]
    ·cases h'
   cases x with
   |tmp t=>
    simp only[Jai]at h
    split at h
    ·rename_i ts' h1
     cases h
     exact step _ ts' rfl h1 (.inl ⟨t,rfl,rfl⟩)
    ·cases h
   |cell s t=>
    simp only[Jai]at h
    split at h
    ·rename_i ag n ts' h1 h2 h3
     cases h
     exact step _ ts' rfl h3 (.inr ⟨s,t,ag,n,rfl,rfl,h1,h2⟩)
    ·cases h
 unfold resK at hk
 cases UU:Xu T H ts with
 |none=>simp[UU]at hk
 |some p=>
  obtain⟨c,vs⟩:=p;rw[UU]at hk;have hc:c.holds:=by
   cases vs with
   |nil=>exact hk.1
   |cons v vs=>cases vs with
    |nil=>exact hk.1
    |cons _ _=>exact hk.1
  obtain⟨rs,CY,Ad,Ag⟩:=key fn.results.toList ts c vs hr UU hc;have hl:=JK CY;have AL:(results fn a.tmps).run P w=.ok (if h:rs.toArray.size=1 then rs.toArray[0] else .tuple rs.toArray) w:=by
   have e:fn.results=fn.results.toList.toArray:=by simp
   unfold results;rw[e,H8];simp only[Sem.run_bind,Sem.run_map]
   erw [Ag]
   simp only[Result.andThen_ok,Sem.run_pure]
  rcases vs with _|⟨v,_|⟨v',vs⟩⟩
  ·refine⟨_,.tup [],AL,?_,hk.2⟩;obtain rfl:rs=[]:=Gx (by simpa using hl.symm);simp[rel,JS]
  ·refine⟨_,v,AL,?_,hk.2⟩;simp only[JS]at CY;obtain⟨r,rs',rfl,BU,rfl⟩:=CY;simpa using BU
  ·refine⟨_,.tup (v::v'::vs),AL,?_,hk.2⟩;rw[dif_neg (by simp at hl|-;omega)];simp only[rel];exact⟨_,rfl,by simpa using CY⟩
theorem Sim.putDef {D:Nat}{ob x:Obj}(hs:Sim E m H w)(hD:w.heap[D]? = some x)(hx:∀c e f,x≠.cells c e f)(hn:¬owned m H D):Sim E m H (w.putObj D ob):=by
 have AU:∀B,B≠D->(w.putObj D ob).heap[B]? = w.heap[B]?:=λB hB=>World.putObj_heap_other hB
 have SX:¬D<gN:=λh=>by
  obtain⟨c,e,q,h1⟩:=hs.gl.1.cells h hD;exact hx c e q h1
 refine⟨hs.len,λk o x1 hk Be=>?_,λB i v hv=>?_,hs.one,hs.sep,hs.ro,λk s b hk=>?_,hs.extsep,λB hB=>by rw[World.putObj_size];exact hs.extlt B hB,hs.gl.1.mono λB hB=>AU B λe=>SX (e▸hB),hs.gl.2⟩
 ·exact KD (KN.refl _) (Kw.refl _) (λha=>AU _ λe=>hn (.inr ⟨k,o,x1,hk,ha,Be,e⟩)) (hs.obj k o x1 hk Be)
 ·have h1:=hs.imm B i v hv;by_cases hB:B=D
  ·subst hB;simp only[World.cell?,hD]at h1
   cases x <;> simp at h1
   exact absurd rfl (hx _ _ _)
  ·exact(cell?_congr (AU B hB)).trans h1
 ·refine E.stable _ _ _ _ _ _ _ (hs.ext k s b hk) (λB hB=>AU B λe=>hB.elim (λhB=>hn (.inl (e▸hB))) (λhB=>SX (e▸hB))) (by rw[World.putObj_size];exact Gi _) (Kw.refl _) (λB i v h=>.inl h) (λB i v hv=>?_) hs.one;have h1:=hs.imm B i v hv;by_cases hB:B=D
  ·subst hB;simp only[World.cell?,hD]at h1
   cases x <;> simp at h1
   exact absurd rfl (hx _ _ _)
  ·exact(cell?_congr (AU B hB)).trans h1
theorem callsC_of {f:Nat}{F:IFunc}{args:List CV}{R:CV->List CObj->Prop}(hF:Je P f=some F)(h:∀n,Ok P E H.length ⟨n,false⟩ (retQ F.results R) [.code F.body] (args++Gs (F.ntmps-args.length) .un) H):CallsC P E f args H R:=by
 intro m w vs hs BI;unfold Je at hF
 split at hF
 ·rename_i fn Bn
  split at hF
  ·rename_i c hb
   split at hF
   ·rename_i ic ts gD AO
    cases hF
    have Ad:=JK BI;have hT:JS m.own m.imm (args++Gs (fn.ntmps-args.length) .un) (vs++Hy (fn.ntmps-vs.size) undef).toList:=by
     simp only[Array.toList_append,Array.toList_replicate];refine QQ BI ?_;rw[XB];refine⟨by simp at Ad|-;omega,λi c v hc hv=>?_⟩;have:c=.un:=by have:=H5 hc;exact(H7.1 this).2
     subst this;simp[rel]
    refine callsIn_of_wp_marks Bn hb trivial (λb k cs Rc _ _=>?_);have D9:Yz P [.code ic] [.code c]:=by simp only[Yz];exact⟨c,[],rfl,gD,rfl⟩
    obtain⟨e,a',w',m',T',H',Ae,DC,Dw,hq,Er⟩:=h w.heap.size m w { tmps:=vs++Hy (fn.ntmps-vs.size) undef,defers:=[] } b cs [.code c] k ⟨hs,hT,Gi _⟩ (JdD.nil _ _ (λ_=>Rc) _ _ _ (Gi _)) D9;have fin:resK (Xu T' H' ts) R H'->LeavesInM (WF none) 0 P fn a'.tmps (λe w''=>∃r m' v H',e=.returned r/\Ext H.length m H w m' H' w''/\Sim E m' H' w''/\rel m'.own m'.imm v r/\R v H') a'.defers .returning w':=by
     intro hR;obtain⟨_,_,Ds,MI,FQ,hD⟩:=Dw;rw[MI];have key:∀(Ds:List Nat) (w1:World),Ds.Nodup->(∀D∈Ds,w.heap.size<=D/\w1.heap[D]? = some (.deferred (some []))/\¬owned m' H' D)->Ext H.length m H w m' H' w1->Sim E m' H' w1->
       LeavesInM (WF none) 0 P fn a'.tmps (λe w''=>∃r m' v H',e=.returned r/\Ext H.length m H w m' H' w''/\Sim E m' H' w''/\rel m'.own m'.imm v r/\R v H') (Ds.map λD=>{ target:=.collected D,args:=#[] }) .returning w1:=by
      intro Ds
      induction Ds with
      |nil=>
       intro w1 _ _ he EA;obtain⟨v,cv,Ag,hv,Si⟩:=run_results (P:=P) AO ⟨EA,DC.tmps,DC.long⟩ hR;exact⟨v,Ag,v,m',cv,H',rfl,he,EA,hv,Si⟩
      |cons D Ds ih=>
       intro w1 hn hD he EA;obtain⟨dH,dG,aR⟩:=hD D (by simp);refine⟨by simp,.inl ⟨D,w1.putObj D (.deferred none),rfl,run_takeDeferred dG,?_⟩⟩;have FQ:=(List.nodup_cons.1 hn);refine ih _ FQ.2 (λD' Px=>?_) ?_ (EA.putDef dG (by intro c e f h;cases h) aR)
       ·obtain⟨a1,a2,a3⟩:=hD D' (by simp[Px]);exact⟨a1,(World.putObj_heap_other (by rintro rfl;exact FQ.1 Px)).trans a2,a3⟩
       ·exact { he with size:=by rw[World.putObj_size];exact he.size,frame:=λB hB ho=>(World.putObj_heap_other (by omega)).trans (he.frame B hB ho),same:=he.same }
     exact key Ds w' FQ hD Ae DC.sim
    cases e with
    |normal=>exact⟨.normal,a',w',fin hq,Er⟩
    |ret=>exact⟨.ret,a',w',fin hq,Er⟩
    |exit id=>exact hq.elim
    |goto l=>exact hq.elim
    |panic ch=>exact hq.elim
    |outgrown=>exact hq.elim
   ·cases hF
  ·cases hF
 ·cases hF
end
end
section
theorem YV {id:Nat}:∀(k k':List KItem),Ya id k=some k'->YD k'<=YD k
 |[],_,h=>by simp[Ya]at h
 |.blk id'::k,k',h=>by
  simp only[Ya]at h
  split at h
  ·cases h;simp[YD,KItem.size]
  ·have:=YV k k' h;simp[YD,KItem.size];omega
 |.code _::k,k',h=>by
  simp only[Ya]at h;have:=YV k k' h;simp only[YD,KItem.size];omega
 |.ops _::k,k',h=>by
  simp only[Ya]at h;have:=YV k k' h;simp only[YD,KItem.size];omega
section
variable (P:Program)(E:Env)(n0:Nat)(N:Fr)(Q:Exit->List CV->List CObj->Prop)
def Ko (k:List KItem)(T:List CV)(H:List CObj):Prop:=
 match k with
 |[]=>Q .normal T H
 |.blk _::k=>Ko k T H
 |.ops []::k=>Ko k T H
 |.ops (⟨d,op,none⟩::l)::k=>match exec op T H with
  |some (c,v,H')=>c.holds/\Ko (.ops l::k) (put T d v) H'
  |none=>Ok P E n0 N Q (.ops (⟨d,op,none⟩::l)::k) T H
 |.ops (⟨d,op,some (s,want)⟩::l)::k=>match T.getD s .un with
  |.bool t=>(t=want->match exec op T H with
    |some (c,v,H')=>c.holds/\Ko (.ops l::k) (put T d v) H'
    |none=>Ok P E n0 N Q (.ops (⟨d,op,some (s,want)⟩::l)::k) T H)/\(t=(!want)->Ko (.ops l::k) (put T d (.tup [])) H)
  |.tup []=>Ko (.ops l::k) (put T d (.tup [])) H
  |_=>False
 |.code .skip::k=>Ko k T H
 |.code (.seq a b)::k=>Ko (.code a :: .code b::k) T H
 |.code (.block id a)::k=>Ko (.code a :: .blk id::k) T H
 |.code (.cond i a b)::k=>match Ka T i with
  |.bool t=>(t=true->Ko (.code a::k) T H)/\(t=false->Ko (.code b::k) T H)
  |_=>False
 |.code .ret::_=>Q .ret T H
 |.code (.exit id)::k=>match _h:Ya id k with
  |some k'=>Ko k' T H
  |none=>Q (.exit id) T H
 |.code (.reg l)::k=>Ko (.ops l::k) T H
 |.code (.dreg l es)::k=>Ok P E n0 N Q (.code (.dreg l es)::k) T H
 |.code (.loop a)::k=>Ok P E n0 N Q (.code (.loop a)::k) T H
 |.code (.rfunc f ps a b)::k=>Ok P E n0 N Q (.code (.rfunc f ps a b)::k) T H
 |.code .bad::_=>False
termination_by YD k
decreasing_by
 all_goals simp only[YD,KItem.size,ICode.size,Hm]
 all_goals first
  |omega
  |(have:=YV _ _ ‹_›;omega)
def vrun0 (k:List KItem)(T:List CV)(H:List CObj):Prop:=Ko P E n0 N Q k T H
def vres (r:Option (Cond×CV×List CObj))(d:Option Nat)(op:IOp)(g:Option (Nat×Bool))(l:List IOper)(k:List KItem)(T:List CV)(H:List CObj):Prop:=
 match r with
 |some (c,v,H')=>c.holds/\Ko P E n0 N Q (.ops l::k) (put T d v) H'
 |none=>Ok P E n0 N Q (.ops (⟨d,op,g⟩::l)::k) T H
def Jgn (v:CV)(p q:Prop):Prop:=
 match v with
 |.bool t=>(t=true->p)/\(t=false->q)
 |_=>False
def Xz (v:CV)(want:Bool)(p q:Prop):Prop:=
 match v with
 |.bool t=>(t=want->p)/\(t=(!want)->q)
 |.tup []=>q
 |_=>False
def JcN (r:Option (List KItem))(id:Nat)(T:List CV)(H:List CObj):Prop:=
 match r with
 |some k'=>Ko P E n0 N Q k' T H
 |none=>Q (.exit id) T H
end
section
variable {P:Program}{E:Env}{n0:Nat}{N:Fr}{Q Q':Exit->List CV->List CObj->Prop}{b:Frame}{rest:List Item}{cs:List Frame}{m m':Bk}{H H':List CObj}{w w':World}{T T':List CV}{k:List KItem}
theorem v_nil:Ko P E n0 N Q [] T H=Q .normal T H:=by rw[Ko]
theorem v_blk {id:Nat}:Ko P E n0 N Q (.blk id::k) T H=Ko P E n0 N Q k T H:=by rw[Ko]
theorem v_ops_nil:Ko P E n0 N Q (.ops []::k) T H=Ko P E n0 N Q k T H:=by rw[Ko]
theorem v_op {d:Option Nat}{op:IOp}{l:List IOper}:Ko P E n0 N Q (.ops (⟨d,op,none⟩::l)::k) T H=vres P E n0 N Q (exec op T H) d op none l k T H:=by rw[Ko];rfl
theorem v_gop {d:Option Nat}{op:IOp}{l:List IOper}{s:Nat}{want:Bool}:Ko P E n0 N Q (.ops (⟨d,op,some (s,want)⟩::l)::k) T H=Xz (T.getD s .un) want (vres P E n0 N Q (exec op T H) d op (some (s,want)) l k T H) (Ko P E n0 N Q (.ops l::k) (put T d (.tup [])) H):=by
 rw[Ko];rfl
theorem v_skip:Ko P E n0 N Q (.code .skip::k) T H=Ko P E n0 N Q k T H:=by rw[Ko]
theorem v_seq {x y:ICode}:Ko P E n0 N Q (.code (.seq x y)::k) T H=Ko P E n0 N Q (.code x :: .code y::k) T H:=by rw[Ko]
theorem v_block {id:Nat}{x:ICode}:Ko P E n0 N Q (.code (.block id x)::k) T H=Ko P E n0 N Q (.code x :: .blk id::k) T H:=by rw[Ko]
theorem v_cond {i:IArg}{x y:ICode}:Ko P E n0 N Q (.code (.cond i x y)::k) T H=Jgn (Ka T i) (Ko P E n0 N Q (.code x::k) T H) (Ko P E n0 N Q (.code y::k) T H):=by rw[Ko];rfl
theorem v_ret:Ko P E n0 N Q (.code .ret::k) T H=Q .ret T H:=by rw[Ko]
theorem v_exit {id:Nat}:Ko P E n0 N Q (.code (.exit id)::k) T H=JcN P E n0 N Q (Ya id k) id T H:=by
 rw[Ko];unfold JcN;split <;> simp_all
theorem v_reg {l:List IOper}:Ko P E n0 N Q (.code (.reg l)::k) T H=Ko P E n0 N Q (.ops l::k) T H:=by rw[Ko]
theorem v_loop {a:ICode}:Ko P E n0 N Q (.code (.loop a)::k) T H=Ok P E n0 N Q (.code (.loop a)::k) T H:=by rw[Ko]
theorem v_dreg {l:List IOper}{es:List (List Nat)}:Ko P E n0 N Q (.code (.dreg l es)::k) T H=Ok P E n0 N Q (.code (.dreg l es)::k) T H:=by rw[Ko]
theorem v_rfunc {f:IArg}{ps:List Nat}{x y:ICode}:Ko P E n0 N Q (.code (.rfunc f ps x y)::k) T H=Ok P E n0 N Q (.code (.rfunc f ps x y)::k) T H:=by rw[Ko]
theorem vres_some {c:Cond}{v:CV}{d:Option Nat}{op:IOp}{g:Option (Nat×Bool)}{l:List IOper}:vres P E n0 N Q (some (c,v,H')) d op g l k T H=(c.holds/\Ko P E n0 N Q (.ops l::k) (put T d v) H'):=rfl
theorem vres_none {d:Option Nat}{op:IOp}{g:Option (Nat×Bool)}{l:List IOper}:vres P E n0 N Q none d op g l k T H=Ok P E n0 N Q (.ops (⟨d,op,g⟩::l)::k) T H:=rfl
theorem vcond_bool {t:Bool}{p q:Prop}:Jgn (.bool t) p q=((t=true->p)/\(t=false->q)):=rfl
theorem vguard_bool {t want:Bool}{p q:Prop}:Xz (.bool t) want p q=((t=want->p)/\(t=(!want)->q)):=rfl
theorem vguard_skip {want:Bool}{p q:Prop}:Xz (.tup []) want p q=q:=rfl
theorem vguard_tt {p q:Prop}:Xz (.bool true) true p q=p:=by simp[Xz]
theorem vguard_ff {p q:Prop}:Xz (.bool false) false p q=p:=by simp[Xz]
theorem vguard_tf {p q:Prop}:Xz (.bool true) false p q=q:=by simp[Xz]
theorem vguard_ft {p q:Prop}:Xz (.bool false) true p q=q:=by simp[Xz]
theorem vcond_true {p q:Prop}:Jgn (.bool true) p q=p:=by simp[Jgn]
theorem vcond_false {p q:Prop}:Jgn (.bool false) p q=q:=by simp[Jgn]
theorem vexit_some {id:Nat}{k':List KItem}:JcN P E n0 N Q (some k') id T H=Ko P E n0 N Q k' T H:=rfl
theorem vexit_none {id:Nat}:JcN P E n0 N Q none id T H=Q (.exit id) T H:=rfl
theorem vrun0_eq:vrun0 P E n0 N Q k T H=Ko P E n0 N Q k T H:=rfl
theorem vrun_look {T':List CV}{H':List CObj}(hT:T=T')(hH:H=H'):Ko P E n0 N Q k T H=Ko P E n0 N Q k T' H':=by rw[hT,hH]
theorem ok_look {T':List CV}{H':List CObj}(hT:T=T')(hH:H=H'):Ok P E n0 N Q k T H=Ok P E n0 N Q k T' H':=by rw[hT,hH]
theorem vres_look {r r':Option (Cond×CV×List CObj)}{d:Option Nat}{op:IOp}{g:Option (Nat×Bool)}{l:List IOper}(h:r=r'):vres P E n0 N Q r d op g l k T H=vres P E n0 N Q r' d op g l k T H:=by rw[h]
theorem vcond_look {v v':CV}{p q:Prop}(h:v=v'):Jgn v p q=Jgn v' p q:=by rw[h]
theorem vguard_look {v v':CV}{want:Bool}{p q:Prop}(h:v=v'):Xz v want p q=Xz v' want p q:=by rw[h]
theorem vexit_look {r r':Option (List KItem)}{id:Nat}(h:r=r'):JcN P E n0 N Q r id T H=JcN P E n0 N Q r' id T H:=by rw[h]
attribute [congr] vrun_look ok_look vres_look vcond_look vguard_look vexit_look
theorem Jfr {d:Option Nat}{op:IOp}{g:Option (Nat×Bool)}{l:List IOper}(ih:∀T H,Ko P E n0 N Q (.ops l::k) T H->Ok P E n0 N Q (.ops l::k) T H)(hg:GOk T g)(h:vres P E n0 N Q (exec op T H) d op g l k T H):Ok P E n0 N Q (.ops (⟨d,op,g⟩::l)::k) T H:=by
 cases he:exec op T H with
 |none=>rw[he]at h;exact h
 |some r=>
  obtain⟨c,v,H'⟩:=r;rw[he]at h;exact Jet (io:=⟨d,op,g⟩) hg he h.1 (ih _ _ h.2)
theorem JA (k:List KItem):∀(T:List CV) (H:List CObj),Ko P E n0 N Q k T H->Ok P E n0 N Q k T H:=by
 suffices hs:∀n k,YD k=n->∀(T:List CV) (H:List CObj),Ko P E n0 N Q k T H->Ok P E n0 N Q k T H from hs _ k rfl
 intro n
 induction n using Le with
 |_ n ih=>
  intro k hn T H h
  match k,hn,h with
  |[],_,h=>rw[v_nil]at h;exact ok_nil h
  |.blk id::k,hn,h=>rw[v_blk]at h;exact ok_blk (ih _ (by rw[<-hn];simp[YD,KItem.size]) k rfl _ _ h)
  |.ops []::k,hn,h=>rw[v_ops_nil]at h;exact Jbq (ih _ (by rw[<-hn];simp[YD,KItem.size]) k rfl _ _ h)
  |.ops (⟨d,op,none⟩::l)::k,hn,h=>
   rw[v_op]at h;exact Jfr (λT H=>ih _ (by rw[<-hn];simp[YD,KItem.size]) _ rfl T H) (.inl rfl) h
  |.ops (⟨d,op,some (s,want)⟩::l)::k,hn,h=>
   rw[v_gop]at h;unfold Xz at h
   split at h
   ·rename_i t ht;by_cases Ey:t=want
    ·exact Jfr (λT H=>ih _ (by rw[<-hn];simp[YD,KItem.size]) _ rfl T H) (.inr ⟨s,want,rfl,by rw[ht,Ey]⟩) (h.1 Ey)
    ·have:t = !want:=by cases t <;> cases want <;> simp_all
     exact Jes rfl (.inl (by rw[ht,this])) (ih _ (by rw[<-hn];simp[YD,KItem.size]) _ rfl _ _ (h.2 this))
   ·rename_i ht;exact Jes rfl (.inr ht) (ih _ (by rw[<-hn];simp[YD,KItem.size]) _ rfl _ _ h)
   ·exact h.elim
  |.code .skip::k,hn,h=>rw[v_skip]at h;exact ok_skip (ih _ (by rw[<-hn];simp[YD,KItem.size,ICode.size]) k rfl _ _ h)
  |.code (.seq x y)::k,hn,h=>rw[v_seq]at h;exact ok_seq (ih _ (by rw[<-hn];simp[YD,KItem.size,ICode.size];omega) _ rfl _ _ h)
  |.code (.block id x)::k,hn,h=>rw[v_block]at h;exact ok_block (ih _ (by rw[<-hn];simp[YD,KItem.size,ICode.size];omega) _ rfl _ _ h)
  |.code (.cond i x y)::k,hn,h=>
   rw[v_cond]at h;unfold Jgn at h
   split at h
   ·rename_i t ht;refine ok_cond ht (ih _ ?_ _ rfl _ _ ?_)
    ·rw[<-hn];cases t <;> simp[YD,KItem.size,ICode.size] <;> omega
    ·cases t
     ·exact h.2 rfl
     ·exact h.1 rfl
   ·exact h.elim
  |.code .ret::k,hn,h=>rw[v_ret]at h;exact ok_ret h
  |.code (.exit id)::k,hn,h=>
   rw[v_exit]at h;refine ok_exit ?_;unfold JcN at h
   cases hx:Ya id k with
   |none=>rw[hx]at h;exact h
   |some k'=>
    rw[hx]at h;exact ih _ (by rw[<-hn];have:=YV _ _ hx;simp[YD,KItem.size,ICode.size];omega) _ rfl _ _ h
  |.code (.reg l)::k,hn,h=>rw[v_reg]at h;exact ok_reg (ih _ (by rw[<-hn];simp[YD,KItem.size,ICode.size]) _ rfl _ _ h)
  |.code (.dreg l es)::k,hn,h=>rw[v_dreg]at h;exact h
  |.code (.loop a)::k,hn,h=>rw[v_loop]at h;exact h
  |.code (.rfunc f ps x y)::k,hn,h=>rw[v_rfunc]at h;exact h
  |.code .bad::k,hn,h=>rw[Ko]at h;exact h.elim
theorem Ok.mono (h:Ok P E n0 N Q k T H)(hq:∀e T H,Q e T H->Q' e T H):Ok P E n0 N Q' k T H:=by
 intro m w a b cs kr rest hp hd hk;obtain⟨e,a',w',m',T',H',h1,h2,h3,h4,h5⟩:=h m w a b cs kr rest hp hd hk;exact⟨e,a',w',m',T',H',h1,h2,h3,hq _ _ _ h4,h5⟩
def wk (c c':CV):Prop:=∀own imm v,rel own imm c v->rel own imm c' v
def wks:List CV->List CV->Prop
 |[],[]=>True
 |c::cs,c'::cs'=>wk c c'/\wks cs cs'
 |_,_=>False
theorem Jac {own:List Own}{imm:Nat->Nat->Option Value}:∀{T T':List CV}{vs:List Value},wks T T'->JS own imm T vs->JS own imm T' vs
 |[],[],_,_,h=>h
 |c::cs,c'::cs',vs,hw,h=>by
  simp only[JS]at h|-;obtain⟨r,rs,rfl,h1,h2⟩:=h;exact⟨r,rs,rfl,hw.1 _ _ _ h1,Jac hw.2 h2⟩
 |[],_::_,_,hw,_=>hw.elim
 |_::_,[],_,hw,_=>hw.elim
theorem wk.refl (c:CV):wk c c:=λ_ _ _ h=>h
theorem wk.un (c:CV):wk c .un:=λ_ _ _ _=>by simp[rel]
theorem wk.eq {c c':CV}(h:c=c'):wk c c':=h▸wk.refl c
theorem wk.rslc {z:Nat}{els:List (List CV)}{cap:Option Nat}:wk (.rslc z els cap) (.rslc z els none):=by
 intro own imm v h;simp only[rel]at h|-;rcases h with ⟨_,h1,h2⟩|⟨B,o,c,h1,h2,h3,h4⟩
 ·exact .inl ⟨.inl trivial,h1,h2⟩
 ·exact .inr ⟨B,o,c,h1,h2,by simp,h4⟩
theorem wk.nils {z:Nat}:wk .nils (.rslc z [] none):=by
 intro own imm v h;simp only[rel]at h|-;exact .inl ⟨.inl trivial,trivial,none,h⟩
theorem wks.refl:∀(T:List CV),wks T T
 |[]=>trivial
 |c::cs=>⟨wk.refl c,wks.refl cs⟩
theorem K9 (hw:wks T T')(h:Ok P E n0 N Q k T' H):Ok P E n0 N Q k T H:=by
 intro m w a b cs kr rest hp hd hk;exact h m w a b cs kr rest ⟨hp.sim,Jac hw hp.tmps,hp.long⟩ hd hk
def forget:List CV->List CV->Prop
 |[],[]=>True
 |a::T,b::T'=>(b=.un\/a=b)/\forget T T'
 |_,_=>False
theorem Yl:∀{T T':List CV},forget T T'->wks T T'
 |[],[],_=>trivial
 |_::_,_::_,h=>⟨h.1.elim (λh=>by rw[h];exact wk.un _) λh=>
  wk.eq h,Yl h.2⟩
 |[],_::_,h=>h.elim
 |_::_,[],h=>h.elim
def Jd3 (P:Program)(E:Env)(n0:Nat)(N:Fr)(Q:Exit->List CV->List CObj->Prop)(k:List KItem)(I:List CV->List CObj->Prop)(e:Exit)(T:List CV)(H:List CObj):Prop:=
 match e with
 |.normal=>I T H
 |.exit id=>JcN P E n0 N Q (Ya id k) id T H
 |.ret=>Q .ret T H
 |_=>False
theorem Jgm {I:List CV->List CObj->Prop}:Jd3 P E n0 N Q k I .normal T H=I T H:=rfl
theorem vloopQ_exit {I:List CV->List CObj->Prop}{id:Nat}:Jd3 P E n0 N Q k I (.exit id) T H=JcN P E n0 N Q (Ya id k) id T H:=rfl
theorem vloopQ_ret {I:List CV->List CObj->Prop}:Jd3 P E n0 N Q k I .ret T H=Q .ret T H:=rfl
theorem Jdg {I I':List CV->List CObj->Prop}(hI:∀T H,I T H->I' T H){e:Exit}(h:Jd3 P E n0 N Q k I e T H):loopQ P E n0 N Q k I' e T H:=by
 cases e with
 |normal=>exact hI _ _ h
 |exit id=>
  simp only[Jd3,JcN]at h;simp only[loopQ]
  split <;> rename_i hx <;> rw[hx]at h
  ·exact JA _ _ _ h
  ·exact h
 |ret=>exact h
 |goto _=>exact h.elim
 |panic _=>exact h.elim
 |outgrown=>exact h.elim
theorem JE {x:ICode}{σ:Type}(I:σ->Prop)(inv:σ->List CV)(hp:σ->List CObj)(μ:σ->Nat)(s0:σ)(h0:I s0)(hT:forget T (inv s0))(hH:H=hp s0)
  (hb:∀s,I s->Ko P E n0 N (Jd3 P E n0 N Q k λT' H'=>∃s',I s'/\μ s' < μ s/\H'=hp s'/\forget T' (inv s')) [.code x] (inv s) (hp s)):Ok P E n0 N Q (.code (.loop x)::k) T H:=by
 subst hH;refine ok_loop (I:=λs T H=>I s/\wks T (inv s)/\H=hp s) μ s0 ⟨h0,Yl hT,rfl⟩ ?_;rintro s T H ⟨hs,hw,rfl⟩;refine K9 hw ((JA _ _ _ (hb s hs)).mono λe T' H' hq=>Jdg (λT2 H2 h2=>?_) hq);obtain⟨s',Az,Ab,rfl,hf⟩:=h2;exact⟨s',⟨Az,Yl hf,rfl⟩,Ab⟩
theorem gok {s:Nat}{want:Bool}(h:T.getD s .un=.bool want):GOk T (some (s,want)):=.inr ⟨s,want,rfl,h⟩
theorem Km {d:Option Nat}{g:Option (Nat×Bool)}{f:Nat}{as:List IArg}{l:List IOper}{R:CV->List CObj->Prop}(hg:GOk T g)(Ah:CallsC P E f (as.map (Ka T)) H R)(h:∀v H',R v H'->Ko P E n0 N Q (.ops l::k) (put T d v) H'):Ok P E n0 N Q (.ops (⟨d,.call f as,g⟩::l)::k) T H:=
 Jeu hg Ah λv H' hR=>JA _ _ _ (h v H' hR)
def Pure (P:Program)(E:Env)(f:Nat)(args:List CV)(H:List CObj)(v:CV):Prop:=CallsC P E f args H λv' H'=>v'=v/\H'=H
theorem JaI {d:Option Nat}{f:Nat}{as:List IArg}{l:List IOper}{v:CV}(Ah:Pure P E f (as.map (Ka T)) H v)(h:Ko P E n0 N Q (.ops l::k) (put T d v) H):Ok P E n0 N Q (.ops (⟨d,.call f as,none⟩::l)::k) T H:=
 Km (.inl rfl) Ah λv' H' ⟨hv,hH⟩=>by rw[hv,hH];exact h
theorem vr_pureg {d:Option Nat}{g:Option (Nat×Bool)}{f:Nat}{as:List IArg}{l:List IOper}{v:CV}(hg:GOk T g)(Ah:Pure P E f (as.map (Ka T)) H v)(h:Ko P E n0 N Q (.ops l::k) (put T d v) H):Ok P E n0 N Q (.ops (⟨d,.call f as,g⟩::l)::k) T H:=
 Km hg Ah λv' H' ⟨hv,hH⟩=>by rw[hv,hH];exact h
theorem CallsC.mono {f:Nat}{args:List CV}{R R':CV->List CObj->Prop}(h:CallsC P E f args H R)(hR:∀v H',R v H'->R' v H'):CallsC P E f args H R':=by
 intro m w vs hs hv;refine(h m w vs hs hv).mono ?_;rintro e w' ⟨r,m',v,H',h1,h2,h3,h4,h5⟩;exact⟨r,m',v,H',h1,h2,h3,h4,hR _ _ h5⟩
theorem CallsC.weaken {f:Nat}{args args':List CV}{R:CV->List CObj->Prop}(hw:wks args args')(h:CallsC P E f args' H R):CallsC P E f args H R:=
 λm w vs hs hv=>h m w vs hs (Jac hw hv)
theorem Kc {f:Nat}{F:IFunc}{args:List CV}{R:CV->List CObj->Prop}(hF:Je P f=some F)(h:∀n,vrun0 P E H.length ⟨n,false⟩ (retQ F.results R) [.code F.body] (args++Gs (F.ntmps-args.length) .un) H):CallsC P E f args H R:=
 callsC_of hF λN=>JA _ _ _ (h N)
end
end
end Go.Cm
end
end
