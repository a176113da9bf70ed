/-
  A part of the proof. Conditions: none.
-/
import Derived.RangeFuncWrites
import Derived.KernelRfl
import Derived.Laws.Sem
import Derived.Laws.World
import Derived.OrdersIn
import Derived.Lib.ItoaNum
import Derived.Laws.StructEq
import Derived.Laws.CopyRow
import Derived.Laws.Rows
import Derived.ChangeKeysEq
import Derived.Laws.BitsLemmas
set_option linter.unusedSimpArgs false
set_option linter.unusedVariables false
open Array renaming getElem?_eq_getElem->Gt,getElem?_push_lt->Gw,length_toList->Gu,getElem?_eq_some_iff->GJ,mem_of_getElem?->GK,range->GD,mem_toList_iff->G5,getElem?_toList->Hl,getElem?_map->Hm,replicate->Ho,ext'->Hq
open Option.some renaming injEq->Ga,inj->Hr
open List renaming getElem?_append_left->Gc,getElem?_eq_some_iff->Gf,getElem?_eq_getElem->Gh,getElem?_append_right->Gm,getElem?_set->Gi,length_append->Gn,length_take->Gl,getElem?_take_of_lt->Gq,eq_nil_of_length_eq_zero->Gx,getElem?_drop->Gr,getElem?_of_mem->Gy,append_assoc->Gz,replicate->Gv,take_of_length_le->GL,getElem?_toArray->GM,getElem?_eq_none->GN,getD->Gp,flatten_cons->GQ,mem_append->GR,getElem?_take->GY,mem_of_mem_take->G6,size_toArray->G7,length_drop->G8,length_cons->G9,take_zero->Ha,drop_eq_getElem_cons->Ht,map_cons->Hd,mem_of_mem_drop->Hu,take_succ_cons->Hw,mapM_toArray->Hy,ext_getElem?->Hz,mapM_cons->HV
open Nat renaming mul_le_mul_right->Gj,add_mul->Gd,le_refl->Gg,one_mul->Gs,zero_add->GG,le_trans->GH,add_assoc->GU,add_zero->GV,strongRecOn->HY,zero_mul->HZ,lt_or_ge->H5
open Int renaming not_lt->GZ,toNat_natCast->H6,ofNat_lt->H7
open BitVec renaming ofInt->GI
open Prod.mk renaming injEq->Gb
open Bool renaming false_eq_true->GA,and_eq_true->H8,false_or->H9
open Option renaming getD_some->GX,bind_some->He,map_some->Hf,isSome_iff_ne_none->La,map->Hg,getD_none->Lb
noncomputable section
namespace Go.Cm
theorem om {p:Prop}(h:p:=by omega):p:=h
theorem vM {p:Prop}(h:p:=by decide +kernel):p:=h
theorem vk {p:Prop}(h:p:=by decide):p:=h
theorem kR {p:Prop}(h:p:=by kernel_rfl):p:=h
theorem sM {p:Prop}(h:p:=by simp):p:=h
variable {w w':World}{B cap f k n n0 off sCap sLen z:Nat}{p q:Prop}{a:Act}{g:Option (Nat×Bool)}{h:Int}{α:Sort _}{ob:Obj}{P:Program}{r u' xv:Value}{elem kt t ty u:TypeId}{ag want:Bool}{cs:List Frame}{places:List (Nat×Nat)}{ps:Array (Nat×Operand)}{op:BinOp}{d ro:Option Nat}{ko:Operand}{es:Array MapEntry}{cl:Call}{lo:Option Operand}{du:TypeDesc}{sb:Option Addr}{kr rest:List Item}
abbrev LK:=List Bool
abbrev LJ:=Array Value
variable {tmps zv:LJ}
abbrev LH:=List Value
variable {news vs vs':LH}
abbrev LG:=Option Value
variable {imm imm':Nat->Nat->LG}
abbrev LB:=List Nat
abbrev LA:=List UInt8
abbrev LV:=List LA
abbrev Lx:=List Int
abbrev LU:=List Lx
def gN:Nat:=6
def gTab:Nat:=3
def gErr:LB:=[1,2]
def glP (f:Nat->Option Obj):Prop:=(∀B,B<gN->∃c e q,f B=some (.cells c e q))/\(∃e q,f gTab=some (.cells (Lib.pow10Tab.map λz=>Value.int .u64 z).toArray e q))/\∀B∈gErr,∃te pe e q,f B=some (.cells #[.iface te pe] e q)
def GLw (w:World):Prop:=glP λB=>if B<gN then w.heap[B]? else none
theorem GLw.mono(h:GLw w)(hf:∀B,B<gN->w'.heap[B]? = w.heap[B]?):GLw w':=by
 unfold GLw at h|-;have e:(λB=>if B<gN then w'.heap[B]? else none)=λB=>if B<gN then w.heap[B]? else none:=by
  funext B
  split
  ·rename_i hB;exact hf B hB
  ·rfl
 rw[e];exact h
theorem GLw.lt(h:GLw w)(hB:B<gN):B<w.heap.size:=by obtain⟨c,e,q,ho⟩:=h.1 B hB;simp only[if_pos hB]at ho;exact(GJ.1 ho).1
theorem GLw.cells(h:GLw w)(hB:B<gN){x:Obj}(hx:w.heap[B]? = some x):∃c e q,x=.cells c e q:=by obtain⟨c,e,q,ho⟩:=h.1 B hB;simp only[if_pos hB]at ho;rw[hx]at ho;exact⟨c,e,q,Hr ho⟩
theorem J4(h:p:=by omega):p=True:=eq_true h
theorem JS(h:¬p:=by omega):p=False:=eq_false h
inductive CV where
 |un
 |bool (b:Bool)
 |int (k:IntKind) (n:Int)
 |str (s:ByteArray)
 |nilp
 |ptr (id i off:Nat)
 |rptr (cs:List CV)
 |nils
 |slc (id off len:Nat) (cap:Option Nat)
 |rslc (z:Nat) (els:List (List CV)) (cap:Option Nat)
 |nilm
 |map (id:Nat)
 |fn (f:Nat) (first captured:List CV)
 |yld (l:Nat)
 |nilf
 |iface (t:Nat) (v:CV)
 |nili
 |agg (l:List CV)
 |tup (l:List CV)
 deriving Inhabited
abbrev Lu:=List CV
variable {T:Lu}
abbrev LQ:=List Lu
variable {els els':LQ}
structure Own where
 B:Nat
 o:Nat
 n:Nat
 z:Nat
abbrev LC:=List Own
variable {own own':LC}
structure Bk where
 own:LC
 imm:Nat->Nat->LG
 ext:Nat->Prop
variable {m m':Bk}
mutual
def rel (own:LC)(imm:Nat->Nat->LG):CV->Value->Prop
 |.un,_=>True
 |.bool b,v=>v=.bool b
 |.int k n,v=>v=.int k n
 |.str s,v=>v=.string s
 |.nilp,v=>v=.pointer none
 |.ptr id i off,v=>∃x,own[id]? = some x/\v=.pointer (some ⟨x.B,x.o+i*x.z+off,none⟩)
 |.rptr cs,v=>∃B o,v=.pointer (some ⟨B,o,none⟩)/\JfK imm cs (imm B) o
 |.nils,v=>v=.slice none 0 0
 |.slc id off len cap,v=>∃x a c,own[id]? = some x/\v=.slice (some a) len c/\len<=c/\(∀n,cap=some n->c=n)/\
   (c≠0->a=⟨x.B,x.o+off*x.z,none⟩)/\x.o+off*x.z+c*x.z<=x.n
 |.rslc z els cap,v=>((cap=none\/cap=some 0)/\els=[]/\∃b,v=.slice b 0 0)\/∃B o c,v=.slice (some ⟨B,o,none⟩) els.length c/\els.length<=c/\(∀n,cap=some n->c=n)/\XL imm z els (imm B) o
 |.nilm,v=>v=.map none
 |.map id,v=>∃x,own[id]? = some x/\v=.map (some x.B)
 |.fn f l1 l2,v=>∃vs1 vs2,v=.func (.func f) vs1 vs2/\J7 own imm l1 vs1.toList/\J7 own imm l2 vs2.toList
 |.yld l,v=>v=.func (.yield l) #[] #[]
 |.nilf,v=>v=.nilFunc
 |.iface t c,v=>∃r,v=.iface t r/\rel own imm c r
 |.nili,v=>v=.nilIface
 |.agg l,v=>∃vs,v=.agg vs/\J7 own imm l vs.toList
 |.tup l,v=>∃vs,v=.tuple vs/\J7 own imm l vs.toList
def J7 (own:LC)(imm:Nat->Nat->LG):Lu->LH->Prop
 |[],vs=>vs=[]
 |c::cs,vs=>∃r rs,vs=r::rs/\rel own imm c r/\J7 own imm cs rs
def JfK (imm:Nat->Nat->LG):Lu->(Nat->LG)->Nat->Prop
 |[],_,_=>True
 |c::cs,R,o=>(∃r,R o=some r/\rel [] imm c r)/\JfK imm cs R (o+1)
def XL (imm:Nat->Nat->LG)(z:Nat):LQ->(Nat->LG)->Nat->Prop
 |[],_,_=>True
 |e::es,R,o=>e.length=z/\JfK imm e R o/\XL imm z es R (o+z)
end
def KZ (a b:LC):Prop:=∀(i:Nat) x,a[i]? = some x->b[i]? = some x
def KJ (f g:Nat->Nat->LG):Prop:=∀B i v,f B i=some v->g B i=some v
theorem KZ.refl (a:LC):KZ a a:=λ_ _ h=>h
theorem KZ.trans {a b c:LC}(h:KZ a b)(k:KZ b c):KZ a c:=λi x e=>k i x (h i x e)
theorem KZ.nil (a:LC):KZ [] a:=λi x e=>by simp at e
theorem KZ.append (a b:LC):KZ a (a++b):=λi x e=>by rw[Gc (Gf.1 e).1];exact e
theorem KJ.refl (f:Nat->Nat->LG):KJ f f:=λ_ _ _ h=>h
theorem KJ.trans {f g h:Nat->Nat->LG}(a:KJ f g)(b:KJ g h):KJ f h:=λB i v e=>b B i v (a B i v e)
mutual
theorem Xr {own own':LC}{imm imm':Nat->Nat->LG}(ho:KZ own own')(hi:KJ imm imm'):∀(c:CV) (v:Value),rel own imm c v->rel own' imm' c v
 |.un,_,h=>by simp only[rel]
 |.bool _,_,h=>by simp only[rel]at h|-;exact h
 |.int _ _,_,h=>by simp only[rel]at h|-;exact h
 |.str _,_,h=>by simp only[rel]at h|-;exact h
 |.nilp,_,h=>by simp only[rel]at h|-;exact h
 |.ptr _ _ _,_,h=>by simp only[rel]at h|-;obtain⟨x,hx,e⟩:=h;exact⟨x,ho _ _ hx,e⟩
 |.rptr cs,_,h=>by simp only[rel]at h|-;obtain⟨B,o,e,r⟩:=h;exact⟨B,o,e,Jdf hi cs _ _ o (λi v=>hi B i v) r⟩
 |.nils,_,h=>by simp only[rel]at h|-;exact h
 |.slc _ _ _ _,_,h=>by simp only[rel]at h|-;obtain⟨x,a,c,hx,e⟩:=h;exact⟨x,a,c,ho _ _ hx,e⟩
 |.rslc z els _,_,h=>by
  simp only[rel]at h|-;rcases h with h|⟨B,o,c,e,h1,h2,r⟩
  ·exact .inl h
  ·exact .inr ⟨B,o,c,e,h1,h2,JeJ hi z els _ _ o (λi v=>hi B i v) r⟩
 |.nilm,_,h=>by simp only[rel]at h|-;exact h
 |.map _,_,h=>by simp only[rel]at h|-;obtain⟨x,hx,e⟩:=h;exact⟨x,ho _ _ hx,e⟩
 |.fn _ l1 l2,_,h=>by simp only[rel]at h|-;obtain⟨vs1,vs2,e,h1,h2⟩:=h;exact⟨vs1,vs2,e,KY ho hi l1 _ h1,KY ho hi l2 _ h2⟩
 |.yld _,_,h=>by simp only[rel]at h|-;exact h
 |.nilf,_,h=>by simp only[rel]at h|-;exact h
 |.iface _ c,_,h=>by simp only[rel]at h|-;obtain⟨r,e,h1⟩:=h;exact⟨r,e,Xr ho hi c _ h1⟩
 |.nili,_,h=>by simp only[rel]at h|-;exact h
 |.agg l,_,h=>by simp only[rel]at h|-;obtain⟨vs,e,h1⟩:=h;exact⟨vs,e,KY ho hi l _ h1⟩
 |.tup l,_,h=>by simp only[rel]at h|-;obtain⟨vs,e,h1⟩:=h;exact⟨vs,e,KY ho hi l _ h1⟩
theorem KY {own own':LC}{imm imm':Nat->Nat->LG}(ho:KZ own own')(hi:KJ imm imm'):∀(l:Lu) (vs:LH),J7 own imm l vs->J7 own' imm' l vs
 |[],_,h=>by simp only[J7]at h|-;exact h
 |c::cs,_,h=>by simp only[J7]at h|-;obtain⟨r,rs,e,h1,h2⟩:=h;exact⟨r,rs,e,Xr ho hi c _ h1,KY ho hi cs _ h2⟩
theorem Jdf {imm imm':Nat->Nat->LG}(hi:KJ imm imm'):∀(cs:Lu) (R R':Nat->LG) (o:Nat),(∀i v,R i=some v->R' i=some v)->JfK imm cs R o->JfK imm' cs R' o
 |[],_,_,_,_,_=>by simp only[JfK]
 |c::cs,R,R',o,hR,h=>by simp only[JfK]at h|-;obtain⟨⟨r,e,h1⟩,h2⟩:=h;exact⟨⟨r,hR _ _ e,Xr (KZ.nil _) hi c _ h1⟩,Jdf hi cs R R' _ hR h2⟩
theorem JeJ {imm imm':Nat->Nat->LG}(hi:KJ imm imm'):∀(z:Nat) (els:LQ) (R R':Nat->LG) (o:Nat),(∀i v,R i=some v->R' i=some v)->XL imm z els R o->XL imm' z els R' o
 |_,[],_,_,_,_,_=>by simp only[XL]
 |z,e::es,R,R',o,hR,h=>by simp only[XL]at h|-;obtain⟨h0,h1,h2⟩:=h;exact⟨h0,Jdf hi e R R' _ hR h1,JeJ hi z es R R' _ hR h2⟩
end
theorem Jap{R:Nat->LG}:∀(cs:Lu) (o:Nat),JfK imm cs R o↔∀(t:Nat) c,cs[t]? = some c->∃r,R (o+t)=some r/\rel [] imm c r
 |[],o=>by simp[JfK]
 |c::cs,o=>by
  simp only[JfK,Jap cs]
  constructor
  ·rintro⟨h1,h2⟩ t d hd
   cases t with
   |zero=>simp at hd;subst hd;simpa using h1
   |succ t=>simp at hd;have:=h2 t d hd;rw[show o+(t+1)=o+1+t by omega];exact this
  ·intro h;refine⟨by simpa using h 0 c rfl,λt d hd=>?_⟩;have:=h (t+1) d (by simpa using hd);rw[show o+(t+1)=o+1+t by omega]at this;exact this
theorem Qs{R:Nat->LG}:∀(els:LQ) (o:Nat),XL imm z els R o↔
  ∀(j:Nat) e,els[j]? = some e->e.length=z/\∀(t:Nat) c,e[t]? = some c->∃r,R (o+j*z+t)=some r/\rel [] imm c r
 |[],o=>by simp[XL]
 |e::es,o=>by
  simp only[XL,Qs es,Jap]
  constructor
  ·rintro⟨h0,h1,h2⟩ j d hd
   cases j with
   |zero=>simp at hd;subst hd;simpa using ⟨h0,h1⟩
   |succ j=>simp at hd;have:=h2 j d hd;rw[show o+(j+1)*z=o+z+j*z by rw[Gd];omega];exact this
  ·intro h;have h0:=h 0 e rfl;refine⟨h0.1,by simpa using h0.2,λj d hd=>?_⟩;have:=h (j+1) d (by simpa using hd);rw[show o+(j+1)*z=o+z+j*z by rw[Gd];omega]at this;exact this
theorem XK:∀(l:Lu) (vs:LH),J7 own imm l vs↔l.length=vs.length/\∀(i:Nat) c v,l[i]? = some c->vs[i]? = some v->rel own imm c v
 |[],vs=>by
  cases vs <;> simp[J7]
 |c::cs,vs=>by
  cases vs with
  |nil=>simp[J7]
  |cons v vs=>
   simp only[J7,List.cons.injEq]
   constructor
   ·rintro⟨r,rs,⟨rfl,rfl⟩,h1,h2⟩;obtain⟨hl,h2⟩:=(XK cs vs).1 h2;refine⟨by simp[hl],λi d e hd he=>?_⟩
    cases i with
    |zero=>simp at hd he;subst hd;subst he;exact h1
    |succ i=>simp at hd he;exact h2 i d e hd he
   ·rintro⟨hl,h⟩;refine⟨v,vs,⟨rfl,rfl⟩,h 0 c v rfl rfl,(XK cs vs).2 ⟨by simpa using hl,λi d e hd he=>h (i+1) d e (by simpa using hd) (by simpa using he)⟩⟩
theorem Ke{l:Lu}(h:J7 own imm l vs):l.length=vs.length:=((XK _ _).1 h).1
theorem Yv{l:Lu}(h:J7 own imm l vs){i:Nat}{c:CV}(hc:l[i]? = some c):∃v,vs[i]? = some v/\rel own imm c v:=by obtain⟨hl,h⟩:=(XK _ _).1 h;have hi:i<vs.length:=hl▸(Gf.1 hc).1;exact⟨vs[i],Gh hi,h i c _ hc (Gh hi)⟩
theorem Q9{l l':Lu}(h:J7 own imm l vs)(h':J7 own imm l' vs'):J7 own imm (l++l') (vs++vs'):=by
 induction l generalizing vs with
 |nil=>simp only[J7]at h;subst h;simpa using h'
 |cons c cs ih=>simp only[J7]at h;obtain⟨r,rs,rfl,h1,h2⟩:=h;simp only[List.cons_append,J7];exact⟨r,rs++vs',rfl,h1,ih h2⟩
theorem rels_set{l:Lu}(h:J7 own imm l vs)(i:Nat){c:CV}{v:Value}(hc:rel own imm c v):J7 own imm (l.set i c) (vs.set i v):=by
 rw[XK]at h|-;refine⟨by simpa using h.1,λj d e hd he=>?_⟩;rw[Gi]at hd he
 split at hd
 ·rename_i Cv;subst Cv;rw[if_pos rfl]at he
  split at hd <;> simp at hd
  split at he <;> simp at he
  subst hd;subst he;exact hc
 ·rename_i Cv;rw[if_neg Cv]at he;exact h.2 j d e hd he
theorem rels_take{l:Lu}(h:J7 own imm l vs)(n:Nat):J7 own imm (l.take n) (vs.take n):=by
 rw[XK]at h|-;refine⟨by simp[h.1],λj d e hd he=>?_⟩;rw[GY]at hd he
 split at hd <;> simp_all
 exact h.2 j d e hd he
theorem rels_drop{l:Lu}(h:J7 own imm l vs)(n:Nat):J7 own imm (l.drop n) (vs.drop n):=by rw[XK]at h|-;refine⟨by simp[h.1],λj d e hd he=>?_⟩;rw[Gr]at hd he;exact h.2 _ d e hd he
inductive CObj where
 |arr (z:Nat) (els:LQ)
 |map (kvs:List (CV×CV))
 |dead
 |ext (s:Nat) (b:Bool)
 deriving Inhabited
abbrev Lv:=List CObj
variable {R:CV->Lv->Prop}{H H':Lv}{Q:Exit->Lu->Lv->Prop}{I:Lu->Lv->Prop}
def CObj.alive:CObj->Bool
 |.arr _ _=>true
 |.map _=>true
 |_=>false
def relO (own:LC)(imm:Nat->Nat->LG)(z:Nat)(els:LQ)(R:Nat->LG)(o:Nat):Prop:=∀(j:Nat) e,els[j]? = some e->e.length=z/\∀(t:Nat) c,e[t]? = some c->∃r,R (o+j*z+t)=some r/\rel own imm c r
def Y7 (own:LC)(imm:Nat->Nat->LG)(x:Own)(o:CObj)(w:World):Prop:=
 match o with
 |.arr z els=>x.z=z/\∃c elem,w.heap[x.B]? = some (.cells c elem (0,0))/\c.size=x.n/\x.o+els.length*x.z<=x.n/\relO own imm x.z els (λi=>c[i]?) x.o/\∀(i:Nat) v,c[i]? = some v->v.oneCell'=true
 |.map kvs=>∃es clock,w.heap[x.B]? = some (.map es clock)/\kvs.length=es.size/\∀(i:Nat) k v e,kvs[i]? = some (k,v)->es[i]? = some e->rel own imm k e.key/\rel own imm v e.val
 |.dead=>True
 |.ext _ _=>True
theorem Ja8(ho:KZ own own')(hi:KJ imm imm'){R:Nat->LG}{o:Nat}(h:relO own imm z els R o):relO own' imm' z els R o:=λj e he=>⟨(h j e he).1,λt c hc=>let ⟨r,h1,h2⟩:=(h j e he).2 t c hc;⟨r,h1,Xr ho hi c r h2⟩⟩
theorem KO(ho:KZ own own')(hi:KJ imm imm'){x:Own}{o:CObj}(hw:o.alive=true->w'.heap[x.B]? = w.heap[x.B]?)(h:Y7 own imm x o w):Y7 own' imm' x o w':=by
 cases o with
 |arr z els=>obtain⟨hz,c,elem,h1,h2,h3,h4,h5⟩:=h;exact⟨hz,c,elem,(hw rfl).trans h1,h2,h3,Ja8 ho hi h4,h5⟩
 |map kvs=>obtain⟨es,clock,h1,h2,h3⟩:=h;exact⟨es,clock,(hw rfl).trans h1,h2,λi k v e hk he=>⟨Xr ho hi _ _ (h3 i k v e hk he).1,Xr ho hi _ _ (h3 i k v e hk he).2⟩⟩
 |dead=>trivial
 |ext s b=>trivial
structure Env where
 X:Nat->Bool->(Nat->Prop)->(Nat->Nat->LG)->World->Prop
 stable:∀s b bs imm imm' w w',X s b bs imm w->(∀B,bs B\/B<gN->w'.heap[B]? = w.heap[B]?)->w.heap.size<=w'.heap.size->KJ imm imm'->
  (∀B i v,imm' B i=some v->imm B i=some v\/¬bs B)->(∀B i v,imm' B i=some v->w'.cell? ⟨B,i,none⟩=some v)->(∀B i v,imm' B i=some v->v.oneCell'=true)->X s b bs imm' w'
variable {E:Env}
def Env.none:Env:={ X:=λ_ _ _ _ _=>False,stable:=λ_ _ _ _ _ _ _ h=>h.elim }
structure Sim (E:Env)(m:Bk)(H:Lv)(w:World):Prop where
 len:m.own.length=H.length
 obj:∀(k:Nat) o x,H[k]? = some o->m.own[k]? = some x->Y7 m.own m.imm x o w
 imm:∀B i v,m.imm B i=some v->w.cell? ⟨B,i,none⟩=some v
 one:∀B i v,m.imm B i=some v->v.oneCell'=true
 sep:∀(k k':Nat) o o' x x',H[k]? = some o->H[k']? = some o'->o.alive=true->o'.alive=true->m.own[k]? = some x->m.own[k']? = some x'->x.B=x'.B->k=k'
 ro:∀(k:Nat) o x,H[k]? = some o->o.alive=true->m.own[k]? = some x->∀i,x.o<=i->m.imm x.B i=none
 ext:∀(k:Nat) s b,H[k]? = some (.ext s b)->E.X s b m.ext m.imm w
 extsep:∀(k:Nat) o x,H[k]? = some o->o.alive=true->m.own[k]? = some x->¬(m.ext x.B\/x.B<gN)
 extlt:∀B,m.ext B\/B<gN->B<w.heap.size
 gl:GLw w/\∀B,m.ext B->¬B<gN
def owned (m:Bk)(H:Lv)(B:Nat):Prop:=m.ext B\/∃(k:Nat) (o:CObj) (x:Own),H[k]? = some o/\o.alive=true/\m.own[k]? = some x/\x.B=B
structure Ext (n0:Nat)(m:Bk)(H:Lv)(w:World)(m':Bk)(H':Lv)(w':World):Prop where
 size:w.heap.size<=w'.heap.size
 frame:∀B,B<w.heap.size->¬owned m H B->w'.heap[B]? = w.heap[B]?
 imm:KJ m.imm m'.imm
 newOwn:∀B,owned m' H' B->owned m H B\/w.heap.size<=B
 newImm:∀B i v,m'.imm B i=some v->m.imm B i=some v\/owned m H B\/w.heap.size<=B
 base:∀(k:Nat) x,k<n0->m.own[k]? = some x->m'.own[k]? = some x
 long:n0<=m.own.length->n0<=m'.own.length
 same:w'.os=w.os/\w'.output=w.output/\w'.tape=w.tape
theorem Ext.refl (n0:Nat)(m:Bk)(H:Lv)(w:World):Ext n0 m H w m H w:=⟨Gg _,λ_ _ _=>rfl,KJ.refl _,λ_ h=>.inl h,λ_ _ _ h=>.inl h,λ_ _ _ h=>h,id,rfl,rfl,rfl⟩
theorem Ext.trans{m1 m2:Bk}{H1 H2:Lv}{w1 w2:World}(h:Ext n0 m H w m1 H1 w1)(k:Ext n0 m1 H1 w1 m2 H2 w2):Ext n0 m H w m2 H2 w2 where
 size:=GH h.size k.size
 frame B hB hn:=by
  have h1:=h.frame B hB hn;have RP:¬owned m1 H1 B:=λho=>by
   rcases h.newOwn B ho with h'|h'
   ·exact hn h'
   ·omega
  exact(k.frame B (Nat.lt_of_lt_of_le hB h.size) RP).trans h1
 imm:=h.imm.trans k.imm
 newOwn B ho:=by
  rcases k.newOwn B ho with h'|h'
  ·exact h.newOwn B h'
  ·exact .inr (GH h.size h')
 newImm B i v hv:=by
  rcases k.newImm B i v hv with h'|h'|h'
  ·exact h.newImm B i v h'
  ·exact .inr (h.newOwn B h')
  ·exact .inr (.inr (GH h.size h'))
 base j x hj hx:=k.base j x hj (h.base j x hj hx)
 long hl:=k.long (h.long hl)
 same:=⟨k.same.1.trans h.same.1,k.same.2.1.trans h.same.2.1,k.same.2.2.trans h.same.2.2⟩
theorem dtT (a b:Nat)(h:a<b:=by omega):((a:Int)<(b:Int))=True:=eq_true (H7.2 h)
theorem dfF (a b:Nat)(h:¬a<b:=by omega):((a:Int)<(b:Int))=False:=eq_false (λe=>h (H7.1 e))
theorem iN7 {c:Prop}[Decidable c]{a b:α}(h:¬c:=by omega):(if c then a else b)=b:=if_neg h
theorem iP7 {c:Prop}[Decidable c]{a b:α}(h:c:=by omega):(if c then a else b)=a:=if_pos h
theorem anO {a b:Prop}(h:b)(h2:a:=by first|omega|exact⟨om,om⟩):a/\b:=⟨h2,h⟩
theorem cell?_congr{a:Addr}(h:w'.heap[a.block]? = w.heap[a.block]?):w'.cell? a=w.cell? a:=by simp only[World.cell?,h]
theorem Sim.congr(hs:Sim E m H w)(h:w'.heap=w.heap):Sim E m H w' where
 len:=hs.len
 obj k o x hk hx:=KO (KZ.refl _) (KJ.refl _) (λ_=>by rw[h]) (hs.obj k o x hk hx)
 imm B i v hv:=(cell?_congr (by rw[h])).trans (hs.imm B i v hv)
 one:=hs.one
 sep:=hs.sep
 ro:=hs.ro
 ext k s b hk:=E.stable _ _ _ _ _ _ _ (hs.ext k s b hk) (λB _=>by rw[h]) (by rw[h];exact Gg _) (KJ.refl _) (λB i v h=>.inl h) (λB i v hv=>(cell?_congr (by rw[h])).trans (hs.imm B i v hv)) hs.one
 extsep:=hs.extsep
 extlt B hB:=by rw[h];exact hs.extlt B hB
 gl:=⟨hs.gl.1.mono λB _=>by rw[h],hs.gl.2⟩
theorem Ext.congr(h:w'.heap=w.heap)(hs:w'.os=w.os/\w'.output=w.output/\w'.tape=w.tape):Ext n0 m H w m H w' where
 size:=by rw[h];exact Gg _
 frame B hB hn:=by rw[h]
 imm:=KJ.refl _
 newOwn B h:=.inl h
 newImm B i v h:=.inl h
 base _ _ _ h:=h
 long:=id
 same:=hs
theorem Yq(hs:Sim E m H w){o:CObj}{x:Own}(hk:H[k]? = some o)(ha:o.alive=true)(hx:m.own[k]? = some x):x.B<w.heap.size:=by
 have h:=hs.obj k o x hk hx
 cases o with
 |arr z els=>obtain⟨_,c,elem,h1,_⟩:=h;exact(GJ.1 h1).1
 |map kvs=>obtain⟨es,clock,h1,_⟩:=h;exact(GJ.1 h1).1
 |dead=>cases ha
 |ext s b=>cases ha
theorem Jgp(hs:Sim E m H w){i:Nat}{v:Value}(h:m.imm B i=some v):B<w.heap.size:=World.block_lt_of_cell? w _ (hs.imm B i v h)
theorem owned_lt(hs:Sim E m H w)(h:owned m H B):B<w.heap.size:=by
 rcases h with h|⟨k,o,x,hk,ha,hx,rfl⟩
 ·exact hs.extlt B (.inl h)
 ·exact Yq hs hk ha hx
theorem owned_gl(hs:Sim E m H w)(h:owned m H B):¬B<gN:=by
 rcases h with h|⟨k,o,x,hk,ha,hx,rfl⟩
 ·exact hs.gl.2 B h
 ·exact λhb=>hs.extsep k o x hk ha hx (.inr hb)
theorem Sim.alloc(hs:Sim E m H w)(hw:w'.heap=w.heap.push ob)(x:Own)(o:CObj)(hB:x.B=w.heap.size)
  (ho:o.alive=true->Y7 (m.own++[x]) m.imm x o w') (Ai:∀s b,o≠.ext s b):Sim E { m with own:=m.own++[x] } (H++[o]) w' where
 len:=by simp[hs.len]
 obj k o' x' hk hx:=by
  simp only at hx;by_cases Ab:k<H.length
  ·rw[Gc Ab]at hk;rw[Gc (by rw[hs.len];exact Ab)]at hx;refine KO (KZ.append _ _) (KJ.refl _) (λha=>?_) (hs.obj k o' x' hk hx);have:=Yq hs hk ha hx;rw[hw,Gw this,Gt this]
  ·have Dz:k<(H++[o]).length:=(Gf.1 hk).1;have:k=H.length:=by simp at Dz;omega
   subst this;simp at hk;rw[<-hs.len]at hx;simp at hx;obtain rfl:o'=o:=hk.symm;obtain rfl:x'=x:=hx.symm
   cases o' with
   |arr z els=>exact ho rfl
   |map kvs=>exact ho rfl
   |dead=>trivial
   |ext s b=>exact(Ai s b rfl).elim
 imm B i v hv:=by have Ab:=Jgp hs hv;refine(cell?_congr ?_).trans (hs.imm B i v hv);rw[hw,Gw Ab,Gt Ab]
 one:=hs.one
 sep k k' o1 o2 x1 x2 hk AC ha AX hx Aw he:=by
  simp only at hx Aw;have key:∀(k:Nat) o1 x1,(H++[o])[k]? = some o1->o1.alive=true->(m.own++[x])[k]? = some x1->(k<H.length/\x1.B<w.heap.size/\H[k]? = some o1/\m.own[k]? = some x1)\/(k=H.length/\x1.B=w.heap.size):=by
   intro k o1 x1 hk ha hx;by_cases Ab:k<H.length
   ·rw[Gc Ab]at hk;rw[Gc (by rw[hs.len];exact Ab)]at hx;exact .inl ⟨Ab,Yq hs hk ha hx,hk,hx⟩
   ·have Dz:k<(H++[o]).length:=(Gf.1 hk).1;have:k=H.length:=by simp at Dz;omega
    subst this;rw[<-hs.len]at hx;simp at hx;subst hx;exact .inr ⟨rfl,hB⟩
  rcases key k o1 x1 hk ha hx with ⟨_,h1,h2,h3⟩|⟨h1,h2⟩ <;> rcases key k' o2 x2 AC AX Aw with ⟨_,DN,FU,CS⟩|⟨DN,FU⟩
  ·exact hs.sep k k' o1 o2 x1 x2 h2 FU ha AX h3 CS he
  ·omega
  ·omega
  ·omega
 ro k o1 x1 hk ha hx i hi:=by
  simp only at hx|-;by_cases Ab:k<H.length
  ·rw[Gc Ab]at hk;rw[Gc (by rw[hs.len];exact Ab)]at hx;exact hs.ro k o1 x1 hk ha hx i hi
  ·have Dz:k<(H++[o]).length:=(Gf.1 hk).1;have:k=H.length:=by simp at Dz;omega
   subst this;rw[<-hs.len]at hx;simp at hx;subst hx;rw[hB]
   cases hv:m.imm w.heap.size i with
   |none=>rfl
   |some v=>have:=Jgp hs hv;omega
 ext k s b hk:=by
  by_cases Ab:k<H.length
  ·rw[Gc Ab]at hk;refine E.stable _ _ _ _ _ _ _ (hs.ext k s b hk) (λB hB=>?_) (by rw[hw];simp) (KJ.refl _) (λB i v h=>.inl h) (λB i v hv=>?_) hs.one
   ·have:=hs.extlt B hB;rw[hw,Gw this,Gt this]
   ·have Ab:=Jgp hs hv;refine(cell?_congr ?_).trans (hs.imm B i v hv);rw[hw,Gw Ab,Gt Ab]
  ·have Dz:k<(H++[o]).length:=(Gf.1 hk).1;have:k=H.length:=by simp at Dz;omega
   subst this;simp at hk;exact(Ai s b hk).elim
 extsep k o1 x1 hk ha hx:=by
  simp only at hx|-;by_cases Ab:k<H.length
  ·rw[Gc Ab]at hk;rw[Gc (by rw[hs.len];exact Ab)]at hx;exact hs.extsep k o1 x1 hk ha hx
  ·have Dz:k<(H++[o]).length:=(Gf.1 hk).1;have:k=H.length:=by simp at Dz;omega
   subst this;rw[<-hs.len]at hx;simp at hx;subst hx;rw[hB];exact λh=>by have:=hs.extlt _ h;omega
 extlt B hB:=by have:=hs.extlt B hB;rw[hw];simp;omega
 gl:=⟨hs.gl.1.mono λB hB=>by rw[hw,Gw (hs.gl.1.lt hB),Gt (hs.gl.1.lt hB)],hs.gl.2⟩
theorem Ext.alloc(hs:Sim E m H w)(hw:w'.heap=w.heap.push ob)(AL:w'.os=w.os/\w'.output=w.output/\w'.tape=w.tape)(x:Own)(o:CObj)(hB:x.B=w.heap.size) :
  Ext n0 m H w { m with own:=m.own++[x] } (H++[o]) w' where
 size:=by rw[hw];simp
 frame B hB hn:=by rw[hw,Gw hB,Gt hB]
 imm:=KJ.refl _
 newOwn B ho:=by
  rcases ho with h|⟨k,o1,x1,hk,ha,hx,rfl⟩
  ·exact .inl (.inl h)
  ·simp only at hx;by_cases Ab:k<H.length
   ·rw[Gc Ab]at hk;rw[Gc (by rw[hs.len];exact Ab)]at hx;exact .inl (.inr ⟨k,o1,x1,hk,ha,hx,rfl⟩)
   ·have Dz:k<(H++[o]).length:=(Gf.1 hk).1;have:k=H.length:=by simp at Dz;omega
    subst this;rw[<-hs.len]at hx;simp at hx;subst hx;exact .inr om
 newImm B i v h:=.inl h
 base k x1 hk hx:=by simp only;rw[Gc (Gf.1 hx).1];exact hx
 long h:=by simp;omega
 same:=AL
theorem Sim.put(hs:Sim E m H w){o o':CObj}{x:Own}(hk:H[k]? = some o)(ha:o.alive=true)(hx:m.own[k]? = some x)
  (BP:w'.heap.size=w.heap.size) (AV:∀B,B≠x.B->w'.heap[B]? = w.heap[B]?) (MO:∀i,i<x.o->w'.cell? ⟨x.B,i,none⟩=w.cell? ⟨x.B,i,none⟩)
  (ho:Y7 m.own m.imm x o' w') (Ai:∀s b,o'≠.ext s b):Sim E m (H.set k o') w' where
 len:=by simp[hs.len]
 obj j o1 x1 hj Bh:=by
  rw[Gi]at hj
  split at hj
  ·rename_i e;subst e
   split at hj
   ·simp at hj;subst hj;rw[hx]at Bh;cases Bh;exact ho
   ·cases hj
  ·rename_i OT;refine KO (KZ.refl _) (KJ.refl _) (λDh=>?_) (hs.obj j o1 x1 hj Bh);exact AV _ λe=>OT (hs.sep k j o o1 x x1 hk hj ha Dh hx Bh e.symm)
 imm B i v hv:=by
  by_cases hB:B=x.B
  ·subst hB;by_cases hi:i<x.o
   ·exact(MO i hi).trans (hs.imm _ i v hv)
   ·have:=hs.ro k o x hk ha hx i om;rw[this]at hv;cases hv
  ·exact(cell?_congr (AV B hB)).trans (hs.imm B i v hv)
 one:=hs.one
 sep j j' o1 o2 x1 x2 hj Oe Dh Dp Bh Bg he:=by
  have key:∀(j:Nat) o1,(H.set k o')[j]? = some o1->o1.alive=true->∃o2,H[j]? = some o2/\o2.alive=true:=by
   intro j o1 hj h1;rw[Gi]at hj
   split at hj
   ·rename_i e;subst e;exact⟨o,hk,ha⟩
   ·exact⟨o1,hj,h1⟩
  obtain⟨p,hp,CU⟩:=key j o1 hj Dh;obtain⟨q,hq,gP⟩:=key j' o2 Oe Dp;exact hs.sep j j' p q x1 x2 hp hq CU gP Bh Bg he
 ro j o1 x1 hj Dh Bh i hi:=by
  rw[Gi]at hj
  split at hj
  ·rename_i e;subst e;rw[hx]at Bh;cases Bh;exact hs.ro k o x hk ha hx i hi
  ·exact hs.ro j o1 x1 hj Dh Bh i hi
 ext j s b hj:=by
  rw[Gi]at hj
  split at hj
  ·split at hj
   ·simp at hj;exact(Ai s b hj).elim
   ·cases hj
  ·refine E.stable _ _ _ _ _ _ _ (hs.ext j s b hj) (λB hB=>AV B λe=>?_) om (KJ.refl _) (λB i v h=>.inl h) (λB i v hv=>?_) hs.one
   ·subst e;exact hs.extsep k o x hk ha hx hB
   ·by_cases hB:B=x.B
    ·subst hB;by_cases hi:i<x.o
     ·exact(MO i hi).trans (hs.imm _ i v hv)
     ·have:=hs.ro k o x hk ha hx i om;rw[this]at hv;cases hv
    ·exact(cell?_congr (AV B hB)).trans (hs.imm B i v hv)
 extsep j o1 x1 hj Dh Bh:=by
  rw[Gi]at hj
  split at hj
  ·rename_i e;subst e;rw[hx]at Bh;cases Bh;exact hs.extsep k o x hk ha hx
  ·exact hs.extsep j o1 x1 hj Dh Bh
 extlt B hB:=by rw[BP];exact hs.extlt B hB
 gl:=⟨hs.gl.1.mono λB hB=>AV B λe=>hs.extsep k o x hk ha hx (.inr (e▸hB)),hs.gl.2⟩
theorem Ext.put{o o':CObj}{x:Own}(hk:H[k]? = some o)(ha:o.alive=true)(hx:m.own[k]? = some x)
  (BP:w'.heap.size=w.heap.size) (AV:∀B,B≠x.B->w'.heap[B]? = w.heap[B]?) (AL:w'.os=w.os/\w'.output=w.output/\w'.tape=w.tape) :
  Ext n0 m H w m (H.set k o') w' where
 size:=om
 frame B hB hn:=AV B λe=>hn (e▸.inr ⟨k,o,x,hk,ha,hx,rfl⟩)
 imm:=KJ.refl _
 newOwn B h:=by
  rcases h with h|⟨j,o1,x1,hj,Dh,Bh,rfl⟩
  ·exact .inl (.inl h)
  ·rw[Gi]at hj
   split at hj
   ·rename_i e;subst e;rw[hx]at Bh;cases Bh;exact .inl (.inr ⟨k,o,x,hk,ha,hx,rfl⟩)
   ·exact .inl (.inr ⟨j,o1,x1,hj,Dh,Bh,rfl⟩)
 newImm B i v h:=.inl h
 base _ _ _ h:=h
 long:=id
 same:=AL
theorem Sim.kill(hs:Sim E m H w)(k:Nat)(Ai:∀s b,H[k]?≠some (.ext s b)):Sim E m (H.set k .dead) w where
 len:=by simp[hs.len]
 obj j o1 x1 hj Bh:=by
  rw[Gi]at hj
  split at hj
  ·split at hj
   ·simp at hj;subst hj;trivial
   ·cases hj
  ·exact hs.obj j o1 x1 hj Bh
 imm:=hs.imm
 one:=hs.one
 sep j j' o1 o2 x1 x2 hj Oe Dh Dp Bh Bg he:=by
  have key:∀(j:Nat) o1,(H.set k .dead)[j]? = some o1->o1.alive=true->H[j]? = some o1:=by
   intro j o1 hj h1;rw[Gi]at hj
   split at hj
   ·split at hj
    ·simp at hj;subst hj;cases h1
    ·cases hj
   ·exact hj
  exact hs.sep j j' o1 o2 x1 x2 (key j o1 hj Dh) (key j' o2 Oe Dp) Dh Dp Bh Bg he
 ro j o1 x1 hj Dh Bh i hi:=by
  rw[Gi]at hj
  split at hj
  ·split at hj
   ·simp at hj;subst hj;cases Dh
   ·cases hj
  ·exact hs.ro j o1 x1 hj Dh Bh i hi
 ext j s b hj:=by
  rw[Gi]at hj
  split at hj
  ·split at hj
   ·simp at hj
   ·cases hj
  ·exact hs.ext j s b hj
 extsep j o1 x1 hj Dh Bh:=by
  rw[Gi]at hj
  split at hj
  ·split at hj
   ·simp at hj;subst hj;cases Dh
   ·cases hj
  ·exact hs.extsep j o1 x1 hj Dh Bh
 extlt:=hs.extlt
 gl:=hs.gl
theorem owned_kill(h:owned m (H.set k .dead) B):owned m H B:=by
 rcases h with h|⟨j,o1,x1,hj,Dh,Bh,rfl⟩
 ·exact .inl h
 ·rw[Gi]at hj
  split at hj
  ·split at hj
   ·simp at hj;subst hj;cases Dh
   ·cases hj
  ·exact .inr ⟨j,o1,x1,hj,Dh,Bh,rfl⟩
theorem Ext.kill (n0:Nat)(m:Bk)(H:Lv)(w:World)(k:Nat):Ext n0 m H w m (H.set k .dead) w:=⟨Gg _,λ_ _ _=>rfl,KJ.refl _,λ_ h=>.inl (owned_kill h),λ_ _ _ h=>.inl h,λ_ _ _ h=>h,id,rfl,rfl,rfl⟩
inductive Cond where
 |tt
 |rng (k:IntKind) (n:Int)
 |idx (i:Int) (n:Nat)
 |ile (a b:Int)
 |le (a b:Nat)
 |nz (n:Int)
 |and (a b:Cond)
structure InR (k:IntKind)(n:Int):Prop where
 lo:k.min<=n
 hi:n<=k.max
def Cond.holds:Cond->Prop
 |.tt=>True
 |.rng k n=>InR k n
 |.idx i n=>0<=i/\i<n
 |.ile a b=>a<=b
 |.le a b=>a<=b
 |.nz n=>n≠0
 |.and a b=>a.holds/\b.holds
def Cond.check:Cond->Bool
 |.tt=>true
 |.rng k n=>decide (k.min<=n) && decide (n<=k.max)
 |.idx i n=>decide (0<=i) && decide (i<n)
 |.ile a b=>decide (a<=b)
 |.le a b=>Nat.ble a b
 |.nz n=>n != 0
 |.and a b=>a.check && b.check
inductive IArg where
 |s (n:Nat)
 |c (v:CV)
 deriving Inhabited
variable {i ii ik im ix:IArg}{ihi ilo:Option IArg}
abbrev LP:=List IArg
variable {as:LP}
inductive TK where
 |bool|int|str|slice|map|ptr|func|other
 deriving DecidableEq,Inhabited
inductive IOp where
 |mv (a:IArg)
 |pick (c a b:IArg)
 |alloc (zero:Lu)
 |box (a:IArg)
 |build (zero:Lu) (parts:List (Nat×Nat×IArg))
 |bslice (z n:Nat) (zero:Lu) (parts:List (Nat×IArg))
 |load (agg:Bool) (n:Nat) (a:IArg)
 |store (n:Nat) (a v:IArg)
 |bin (op:BinOp) (tk:TK) (x y:IArg)
 |eqs (ks:List TK) (neg:Bool) (x y:IArg)
 |not (x:IArg)
 |neg (x:IArg)
 |conv (k:IntKind) (x:IArg)
 |mkfn (f:Nat) (first captured:LP)
 |mkmap
 |mkslice (z bytes:Nat) (zero:Lu) (l c:IArg)
 |slice (z:Nat) (x:IArg) (lo hi mx:Option IArg)
 |faddr (off:Nat) (x:IArg)
 |field (agg:Bool) (off n:Nat) (x:IArg)
 |iaddr (z:Nat) (x i:IArg)
 |indexS (x i:IArg)
 |lookup (tk:TK) (zero:CV) (ok:Bool) (m k:IArg)
 |mapset (tk:TK) (m k v:IArg)
 |len (tk:TK) (x:IArg)
 |append (z bytes:Nat) (s x:IArg)
 |clear (zero:Lu) (x:IArg)
 |extract (x:IArg) (i:Nat)
 |nchk (x:IArg)
 |sliceS (x:IArg) (lo hi:Option IArg)
 |mmx (big:Bool) (x y:IArg)
 |copy (z:Nat) (x y:IArg)
 |call (f:Nat) (args:LP)
 |callv (x:IArg) (args:LP)
 deriving Inhabited
structure IOper where
 dst:Option Nat
 op:IOp
 guard:Option (Nat×Bool)
 deriving Inhabited
variable {io:IOper}
abbrev LD:=List IOper
variable {l:LD}
inductive ICode where
 |skip
 |reg (ops:LD)
 |dreg (ops:LD) (edges:List LB)
 |seq (a b:ICode)
 |cond (c:IArg) (a b:ICode)
 |block (id:Nat) (a:ICode)
 |loop (a:ICode)
 |rfunc (f:IArg) (ps:LB) (a b:ICode)
 |exit (id:Nat)
 |ret
 |bad
 deriving Inhabited
variable {y:ICode}
inductive RVar where
 |tmp (t:Nat)
 |cell (agg:Bool) (n t:Nat)
 deriving Inhabited
structure IFunc where
 body:ICode
 ntmps:Nat
 results:List RVar
 deriving Inhabited
variable {F:IFunc}
def Kg (T:Lu):IArg->CV
 |.s n=>T.getD n .un
 |.c v=>v
def CV.cells:CV->Option Lu
 |.agg l=>some l
 |.un=>none
 |.tup _=>none
 |v=>some [v]
def CV.oneCell:CV->Bool
 |.un=>false
 |.agg _=>false
 |.tup _=>false
 |_=>true
def Xk:Lu->Bool
 |[]=>true
 |c::cs=>c.oneCell && Xk cs
def splice (e:Lu)(off:Nat)(l:Lu):Lu:=e.take off++(l++e.drop (off+l.length))
def XR (T:Lu):Lu->List (Nat×Nat×IArg)->Option Lu
 |cells,[]=>some cells
 |cells,(off,n,x)::ps=>
  match (Kg T x).cells with
  |none=>none
  |some l=>if l.length=n/\off+n<=cells.length then XR T (splice cells off l) ps else none
def X7 (T:Lu)(z:Nat):LQ->List (Nat×IArg)->Option LQ
 |els,[]=>some els
 |els,(i,x)::ps=>
  match (Kg T x).cells with
  |none=>none
  |some l=>if l.length=z/\i<els.length/\Xk l=true then X7 T z (els.set i l) ps else none
def JhZ (H:Lv)(z:Nat):CV->Option LQ
 |.nils=>some []
 |.slc id off len _=>match H[id]? with
  |some (.arr z' els)=>if z'=z/\off+len<=els.length then some ((els.drop off).take len) else none
  |_=>none
 |.rslc z' els _=>if z'=z then some els else none
 |.str s=>if z=1 then some (s.data.toList.map λb=>[.int .u8 b.toNat]) else none
 |_=>none
def JaX (tk:TK)(x y:CV):Option Bool:=
 match tk with
 |.int=>match x,y with
  |.int j a,.int k b=>if j=k then some (a == b) else none
  |_,_=>none
 |.str=>match x,y with
  |.str a,.str b=>some (a == b)
  |_,_=>none
 |.bool=>match x,y with
  |.bool a,.bool b=>some (a == b)
  |_,_=>none
 |_=>none
def QZ (tk:TK)(k:CV):List (CV×CV)->Nat->Option (Option (Nat×CV))
 |[],_=>some none
 |(k',v)::kvs,i=>match JaX tk k k' with
  |some true=>some (some (i,v))
  |some false=>QZ tk k kvs (i+1)
  |none=>none
def isKey (tk:TK)(k:CV):Bool:=
 match tk with
 |.int=>match k with
  |.int _ _=>true
  |_=>false
 |.str=>match k with
  |.str _=>true
  |_=>false
 |.bool=>match k with
  |.bool _=>true
  |_=>false
 |_=>false
def cellsEq:List TK->Lu->Lu->Option Bool
 |[],[],[]=>some true
 |k::ks,a::as,b::bs=>match JaX k a b with
  |some true=>cellsEq ks as bs
  |some false=>some false
  |none=>none
 |_,_,_=>none
def binI (op:BinOp)(k:IntKind)(x y:Int):Option (Cond×CV):=
 match op with
 |.add=>some (.rng k (x+y),.int k (x+y))
 |.sub=>some (.rng k (x-y),.int k (x-y))
 |.mul=>some (.rng k (x*y),.int k (x*y))
 |.quo=>some (.and (.nz y) (.rng k (x.tdiv y)),.int k (x.tdiv y))
 |.rem=>some (.nz y,.int k (x.tmod y))
 |.eql=>some (.tt,.bool (x == y))
 |.neq=>some (.tt,.bool (x != y))
 |.lss=>some (.tt,.bool (decide (x<y)))
 |.leq=>some (.tt,.bool (decide (x<=y)))
 |.gtr=>some (.tt,.bool (decide (y<x)))
 |.geq=>some (.tt,.bool (decide (y<=x)))
 |.and=>some (.tt,.int k (k.wrap (GI k.bits x &&& GI k.bits y).toNat))
 |.or=>some (.tt,.int k (k.wrap (GI k.bits x ||| GI k.bits y).toNat))
 |.xor=>some (.tt,.int k (k.wrap (GI k.bits x ^^^ GI k.bits y).toNat))
 |.shl=>some (.ile 0 y,.int k (k.wrap (x*2 ^ (min y.toNat k.bits))))
 |.shr=>some (.ile 0 y,.int k (x.fdiv (2 ^ (min y.toNat k.bits))))
 |_=>none
def binK (op:BinOp)(k k':IntKind)(x y:Int):Option (Cond×CV):=
 if k=k' then binI op k x y else match op with
  |.shl=>binI .shl k x y
  |.shr=>binI .shr k x y
  |_=>none
def binS (op:BinOp)(x y:ByteArray):Option (Cond×CV):=
 match op with
 |.add=>some (.ile ((x.size+y.size:Nat):Int) 9223372036854775807,.str (x++y))
 |.eql=>some (.tt,.bool (x.toList == y.toList))
 |.neq=>some (.tt,.bool (!(x.toList == y.toList)))
 |.lss=>some (.tt,.bool (Op.bytesLess x.toList y.toList))
 |.leq=>some (.tt,.bool (Op.bytesLess x.toList y.toList || x.toList == y.toList))
 |.gtr=>some (.tt,.bool (!(Op.bytesLess x.toList y.toList || x.toList == y.toList)))
 |.geq=>some (.tt,.bool (!Op.bytesLess x.toList y.toList))
 |_=>none
def JbS (op:BinOp)(b:Bool):Option CV:=
 match op with
 |.eql=>some (.bool b)
 |.neq=>some (.bool !b)
 |_=>none
def exBin (op:BinOp)(tk:TK)(x y:CV):Option (Cond×CV):=
 match x,y with
 |.int k a,.int k' b=>binK op k k' a b
 |.str a,.str b=>binS op a b
 |.bool a,.bool b=>if tk=.bool then(JbS op (a == b)).map λv=>(.tt,v) else none
 |.nils,.nils=>if tk=.slice then(JbS op true).map λv=>(.tt,v) else none
 |.nils,.slc _ _ _ _=>if tk=.slice then(JbS op false).map λv=>(.tt,v) else none
 |.nils,.rslc _ (_::_) (some _)=>if tk=.slice then(JbS op false).map λv=>(.tt,v) else none
 |.slc _ _ _ _,.nils=>if tk=.slice then(JbS op false).map λv=>(.tt,v) else none
 |.rslc _ (_::_) (some _),.nils=>if tk=.slice then(JbS op false).map λv=>(.tt,v) else none
 |.nils,.rslc _ (_::_) none=>if tk=.slice then(JbS op false).map λv=>(.tt,v) else none
 |.rslc _ (_::_) none,.nils=>if tk=.slice then(JbS op false).map λv=>(.tt,v) else none
 |.nilp,.nilp=>if tk=.ptr then(JbS op true).map λv=>(.tt,v) else none
 |.nilp,.ptr _ _ _=>if tk=.ptr then(JbS op false).map λv=>(.tt,v) else none
 |.nilp,.rptr _=>if tk=.ptr then(JbS op false).map λv=>(.tt,v) else none
 |.ptr _ _ _,.nilp=>if tk=.ptr then(JbS op false).map λv=>(.tt,v) else none
 |.rptr _,.nilp=>if tk=.ptr then(JbS op false).map λv=>(.tt,v) else none
 |_,_=>none
def Jbn (v:CV):Option Int:=
 match v with
 |.int _ n=>some n
 |_=>none
def X9 (T:Lu)(d:Int):Option IArg->Option Int
 |none=>some d
 |some x=>Jbn (Kg T x)
def exLen:CV->Option Nat
 |.nils=>some 0
 |.rslc _ els _=>some els.length
 |.slc _ _ len _=>some len
 |_=>none
def exHi (T:Lu)(x:CV):Option IArg->Option Int
 |some h=>Jbn (Kg T h)
 |none=>match exLen x with
  |some n=>some (n:Int)
  |none=>none
def exMx (T:Lu):Option IArg->Option (Option Int)
 |some h=>(Jbn (Kg T h)).map some
 |none=>some none
def X8 (z:Nat)(H:Lv)(x:CV)(lo hi:Int)(mx:Option Int):Option (Cond×CV):=
 match x with
 |.nils=>match mx with
  |none=>some (.and (.ile 0 lo) (.and (.ile lo hi) (.ile hi 0)),.nils)
  |some _=>none
 |.rslc z' els cap=>if z'=z then
   match mx with
   |none=>some (.and (.ile 0 lo) (.and (.ile lo hi) (.ile hi els.length)),.rslc z ((els.drop lo.toNat).take (hi.toNat-lo.toNat)) (cap.map (· - lo.toNat)))
   |some m=>some (.and (.ile 0 lo) (.and (.ile lo hi) (.and (.ile hi m) (.and (.ile hi els.length) (.ile m (cap.getD els.length))))),.rslc z ((els.drop lo.toNat).take (hi.toNat-lo.toNat)) (cap.map λ_=>m.toNat-lo.toNat))
  else none
 |.slc id off len cap=>match H[id]? with
  |some (.arr z' _)=>if z'=z then
   match mx with
   |none=>some (.and (.ile 0 lo) (.and (.ile lo hi) (.ile hi len)),.slc id (off+lo.toNat) (hi.toNat-lo.toNat) (cap.map (· - lo.toNat)))
   |some m=>some (.and (.ile 0 lo) (.and (.ile lo hi) (.and (.ile hi m) (.and (.ile hi len) (.ile m (cap.getD len))))),.slc id (off+lo.toNat) (hi.toNat-lo.toNat) (some (m.toNat-lo.toNat)))
   else none
  |_=>none
 |_=>none
def JA (n bytes:Nat):Cond:=.and (.le n 140737488355328) (.le (n*bytes) 140737488355328)
def K9 (z bytes:Nat)(H:Lv)(s:CV)(xs:LQ):Option (Cond×CV×Lv):=
 match xs with
 |[]=>match s with
  |.nils=>some (.tt,s,H)
  |.slc _ _ _ _=>some (.tt,s,H)
  |.rslc _ _ _=>some (.tt,s,H)
  |_=>none
 |x0::xs'=>match s with
  |.nils=>some (JA (x0::xs').length bytes,.slc H.length 0 (x0::xs').length none,H++[.arr z (x0::xs')])
  |.rslc z' els (some c)=>if z'=z then
    some (.and (.le (c+1) (els.length+(x0::xs').length)) (JA (els.length+(x0::xs').length) bytes),.slc H.length 0 (els.length+(x0::xs').length) none,H++[.arr z (els++(x0::xs'))])
   else none
  |.slc id off len cap=>match H[id]? with
   |some (.arr z' els)=>if z'=z/\off+len=els.length then
     match cap with
     |none=>some (JA (len+(x0::xs').length) bytes,.slc H.length 0 (len+(x0::xs').length) none,(H.set id .dead)++[.arr z (els.drop off++(x0::xs'))])
     |some c=>some (.and (.le (c+1) (len+(x0::xs').length)) (JA (len+(x0::xs').length) bytes),.slc H.length 0 (len+(x0::xs').length) none,H++[.arr z (els.drop off++(x0::xs'))])
    else if z'=z/\off+len<=els.length/\cap=none then
     some (JA (len+(x0::xs').length) bytes,.slc H.length 0 (len+(x0::xs').length) none,(H.set id .dead)++[.arr z ((els.take (off+len)).drop off++(x0::xs'))])
    else none
   |_=>none
  |_=>none
def exec (o:IOp)(T:Lu)(H:Lv):Option (Cond×CV×Lv):=
 match o with
 |.mv a=>some (.tt,Kg T a,H)
 |.pick c a b=>match Kg T c with
  |.bool true=>some (.tt,Kg T a,H)
  |.bool false=>some (.tt,Kg T b,H)
  |_=>none
 |.alloc zero=>some (.tt,.ptr H.length 0 0,H++[.arr zero.length [zero]])
 |.box a=>match (Kg T a).cells with
  |some l=>if Xk l=true then some (.tt,.ptr H.length 0 0,H++[.arr l.length [l]]) else none
  |none=>none
 |.build zero parts=>match XR T zero parts with
  |some l=>some (.tt,.agg l,H)
  |none=>none
 |.bslice z n zero parts=>match X7 T z (Gv n zero) parts with
  |some els=>some (.tt,.slc H.length 0 n (some n),H++[.arr z els])
  |none=>none
 |.load ag n a=>match Kg T a with
  |.ptr id i off=>match H[id]? with
   |some (.arr _ els)=>if ag then some (.and (.le (i+1) els.length) (.le (off+n) (els.getD i []).length),.agg (((els.getD i []).drop off).take n),H)
    else some (.and (.le (i+1) els.length) (.le (off+1) (els.getD i []).length),(els.getD i []).getD off .un,H)
   |_=>none
  |.rptr cs=>if ag then some (.le n cs.length,.agg (cs.take n),H) else match cs with
   |c::_=>some (.tt,c,H)
   |[]=>none
  |_=>none
 |.store n a v=>match Kg T a,(Kg T v).cells with
  |.ptr id i off,some l=>match H[id]? with
   |some (.arr z els)=>if l.length=n/\Xk l=true then
     some (.and (.le (i+1) els.length) (.le (off+n) (els.getD i []).length),.un,H.set id (.arr z (els.set i (splice (els.getD i []) off l))))
    else none
   |_=>none
  |_,_=>none
 |.bin op tk x y=>match exBin op tk (Kg T x) (Kg T y) with
  |some (c,v)=>some (c,v,H)
  |none=>none
 |.eqs ks ng x y=>match Kg T x,Kg T y with
  |.agg l,.agg l'=>match (if l.length=ks.length/\l'.length=ks.length then cellsEq ks l l' else none) with
   |some b=>some (.tt,.bool (if ng then !b else b),H)
   |none=>none
  |_,_=>none
 |.not x=>match Kg T x with
  |.bool b=>some (.tt,.bool !b,H)
  |_=>none
 |.neg x=>match Kg T x with
  |.int k n=>some (.rng k (0-n),.int k (0-n),H)
  |_=>none
 |.conv k x=>match Kg T x with
  |.int _ n=>some (.rng k n,.int k n,H)
  |_=>none
 |.mkfn f l1 l2=>some (.tt,.fn f (l1.map (Kg T)) (l2.map (Kg T)),H)
 |.mkmap=>some (.tt,.map H.length,H++[.map []])
 |.mkslice z bytes zero l c=>match Kg T l,Kg T c with
  |.int .i64 l,.int .i64 c=>some (.and (.ile 0 l) (.and (.ile l c) (.and (.ile c 281474976710656) (.ile (bytes*c) 281474976710656))),.slc H.length 0 l.toNat (some c.toNat),H++[.arr z (Gv l.toNat zero)])
  |_,_=>none
 |.slice z x lo hi mx=>
  match X9 T 0 lo,exHi T (Kg T x) hi,exMx T mx with
  |some l,some h,some m=>match X8 z H (Kg T x) l h m with
   |some (c,v)=>some (c,v,H)
   |none=>none
  |_,_,_=>none
 |.faddr off x=>match Kg T x with
  |.ptr id i o=>some (.tt,.ptr id i (o+off),H)
  |.rptr cs=>some (.le off cs.length,.rptr (cs.drop off),H)
  |_=>none
 |.field ag off n x=>match Kg T x with
  |.agg l=>if ag then some (.le (off+n) l.length,.agg ((l.drop off).take n),H) else some (.le (off+1) l.length,l.getD off .un,H)
  |_=>none
 |.iaddr z x i=>match Kg T x,Kg T i with
  |.slc id off len _,.int _ n=>match H[id]? with
   |some (.arr z' _)=>if z'=z then some (.idx n len,.ptr id (off+n.toNat) 0,H) else none
   |_=>none
  |.rslc z' els _,.int _ n=>if z'=z then some (.idx n els.length,.rptr (els.getD n.toNat []),H) else none
  |_,_=>none
 |.indexS x i=>match Kg T x,Kg T i with
  |.str s,.int _ n=>some (.idx n s.size,.int .u8 ((s.data.getD n.toNat 0).toNat:Int),H)
  |_,_=>none
 |.lookup tk zero ok m k=>if isKey tk (Kg T k) then match Kg T m with
  |.nilm=>some (.tt,(if ok then .tup [zero,.bool false] else zero),H)
  |.map id=>match H[id]? with
   |some (.map kvs)=>match QZ tk (Kg T k) kvs 0 with
    |some (some (_,v))=>some (.tt,(if ok then .tup [v,.bool true] else v),H)
    |some none=>some (.tt,(if ok then .tup [zero,.bool false] else zero),H)
    |none=>none
   |_=>none
  |_=>none else none
 |.mapset tk m k v=>if isKey tk (Kg T k) then match Kg T m with
  |.map id=>match H[id]? with
   |some (.map kvs)=>match QZ tk (Kg T k) kvs 0 with
    |some (some (i,_))=>some (.tt,.un,H.set id (.map (kvs.set i (Kg T k,Kg T v))))
    |some none=>some (.tt,.un,H.set id (.map (kvs++[(Kg T k,Kg T v)])))
    |none=>none
   |_=>none
  |_=>none else none
 |.len tk x=>match Kg T x with
  |.str s=>if tk=.str then some (.tt,.int .i64 s.size,H) else none
  |.nils=>if tk=.slice then some (.tt,.int .i64 0,H) else none
  |.slc _ _ len _=>if tk=.slice then some (.tt,.int .i64 len,H) else none
  |.rslc _ els _=>if tk=.slice then some (.tt,.int .i64 els.length,H) else none
  |.nilm=>if tk=.map then some (.tt,.int .i64 0,H) else none
  |.map id=>match H[id]? with
   |some (.map kvs)=>if tk=.map then some (.tt,.int .i64 kvs.length,H) else none
   |_=>none
  |_=>none
 |.append z bytes s x=>match JhZ H z (Kg T x) with
  |some xs=>K9 z bytes H (Kg T s) xs
  |none=>none
 |.clear zero x=>match Kg T x with
  |.nils=>some (.tt,.tup [],H)
  |.slc id off len _=>match H[id]? with
   |some (.arr z els)=>if zero.length=z/\Xk zero=true then
     some (.le (off+len) els.length,.tup [],H.set id (.arr z (els.take off++(Gv len zero++els.drop (off+len)))))
    else none
   |_=>none
  |.rslc _ [] _=>some (.tt,.tup [],H)
  |_=>none
 |.extract x i=>match Kg T x with
  |.tup l=>if i<l.length then some (.tt,l.getD i .un,H) else none
  |_=>none
 |.nchk x=>match Kg T x with
  |.ptr id i o=>some (.tt,.ptr id i o,H)
  |.rptr cs=>some (.tt,.rptr cs,H)
  |.fn f l1 l2=>some (.tt,.fn f l1 l2,H)
  |_=>none
 |.sliceS x lo hi=>match Kg T x with
  |.str s=>match X9 T 0 lo,X9 T s.size hi with
   |some l,some h=>some (.and (.ile 0 l) (.and (.ile l h) (.ile h s.size)),.str (s.extract l.toNat h.toNat),H)
   |_,_=>none
  |_=>none
 |.mmx big x y=>match Kg T x,Kg T y with
  |.int k a,.int k' b=>if k=k' then some (.tt,.int k (if big then(if b > a then b else a) else(if b<a then b else a)),H) else none
  |_,_=>none
 |.copy z x y=>match JhZ H z (Kg T y) with
  |none=>none
  |some xs=>match Kg T x with
   |.nils=>some (.tt,.int .i64 0,H)
   |.slc id off len _=>match H[id]? with
    |some (.arr z' els)=>if z'=z then
      some (.le (off+len) els.length,.int .i64 (min xs.length len:Nat),H.set id (.arr z (els.take off++(xs.take (min xs.length len)++els.drop (off+min xs.length len)))))
     else none
    |_=>none
   |.rslc _ [] _=>some (.tt,.int .i64 0,H)
   |_=>none
 |.call _ _=>none
 |.callv _ _=>none
def ofCell:Value->Option CV
 |.bool b=>some (.bool b)
 |.int k n=>some (.int k n)
 |.string s=>some (.str s)
 |.pointer none=>some .nilp
 |.slice none 0 0=>some .nils
 |.map none=>some .nilm
 |.nilFunc=>some .nilf
 |.nilIface=>some .nili
 |_=>none
def Jbf:LH->Option Lu
 |[]=>some []
 |v::vs=>match ofCell v,Jbf vs with
  |some c,some cs=>some (c::cs)
  |_,_=>none
def ofVal:Value->Option CV
 |.agg cs=>(Jbf cs.toList).map .agg
 |v=>ofCell v
def JP:Operand->Option IArg
 |.tmp t=>some (.s t)
 |.const v=>(ofVal v).map .c
 |.func f=>some (.c (.fn f [] []))
 |.global _=>none
def JaV:List Operand->Option LP
 |[]=>some []
 |x::xs=>match JP x,JaV xs with
  |some a,some as=>some (a::as)
  |_,_=>none
def isAggD:TypeDesc->Bool
 |.struct _=>true
 |.array _ _=>true
 |_=>false
def zeroOf (P:Program)(t:TypeId):Option Lu:=
 match P.info? t with
 |some i=>match i.zero with
  |some v=>match Jbf v.cells.toList with
   |some l=>if l.length=i.size/\Xk l=true then some l else none
   |none=>none
  |none=>none
 |none=>none
def zeroVal (P:Program)(t:TypeId):Option CV:=
 match P.info? t with
 |some i=>match i.zero with
  |some v=>ofVal v
  |none=>none
 |none=>none
def Jg6 (P:Program)(t:TypeId):Option Nat:=(P.info? t).map (·.size)
def Jh8 (P:Program)(t:TypeId):Option Bool:=(P.underlying t).map isAggD
def Jdb (P:Program):List Field->Option (List (Nat×Nat))
 |[]=>some []
 |f::fs=>match Jg6 P f.type,Jdb P fs with
  |some n,some l=>some ((f.offset,n)::l)
  |_,_=>none
def partsOf (places:List (Nat×Nat)):List (Nat×Operand)->Option (List (Nat×Nat×IArg))
 |[]=>some []
 |(i,x)::ps=>match places[i]?,JP x,partsOf places ps with
  |some (off,n),some a,some l=>some ((off,n,a)::l)
  |_,_,_=>none
def JbD:List (Nat×Operand)->Option (List (Nat×IArg))
 |[]=>some []
 |(i,x)::ps=>match JP x,JbD ps with
  |some a,some l=>some ((i,a)::l)
  |_,_=>none
def XX:TypeDesc->TK
 |.bool=>.bool
 |.int _=>.int
 |.string=>.str
 |.slice _=>.slice
 |.map _ _=>.map
 |.pointer _=>.ptr
 |.func _ _ _=>.func
 |_=>.other
def Xa:Option Operand->Option (Option IArg)
 |none=>some none
 |some x=>(JP x).map some
def XV (P:Program)(o:Op):Option IOp:=
 match o with
 |.move x=>(JP x).map .mv
 |.assign x=>(JP x).map .mv
 |.pick c a b=>match JP c,JP a,JP b with
  |some c,some a,some b=>some (.pick c a b)
  |_,_,_=>none
 |.alloc t=>(zeroOf P t).map .alloc
 |.box _ x=>(JP x).map .box
 |.build t ps=>match zeroOf P t,P.underlying t with
  |some z,some (.struct fs)=>match Jdb P fs.toList with
   |some places=>(partsOf places ps.toList).map (.build z)
   |none=>none
  |_,_=>none
 |.buildSlice t n ps=>match P.underlying t with
  |some (.slice e)=>match zeroOf P e,JbD ps.toList with
   |some z,some l=>if z.length≠0/\n*z.length<=2 ^ 24 then some (.bslice z.length n z l) else none
   |_,_=>none
  |_=>none
 |.load t a=>match Jh8 P t,Jg6 P t,JP a with
  |some ag,some n,some a=>some (.load ag n a)
  |_,_,_=>none
 |.store t a v=>match Jg6 P t,JP a,JP v with
  |some n,some a,some v=>some (.store n a v)
  |_,_,_=>none
 |.binOp op t x y _=>match P.underlying t,JP x,JP y with
  |some (.struct _),_,_=>none
  |some d,some x,some y=>some (.bin op (XX d) x y)
  |_,_,_=>none
 |.unOp .not _ x=>(JP x).map .not
 |.unOp .neg _ x=>(JP x).map .neg
 |.convert s d x=>match P.underlying s,P.underlying d,JP x with
  |some (.int _),some (.int k),some x=>some (.conv k x)
  |_,_,_=>none
 |.makeFunc (.func f) l1 l2=>match JaV l1.toList,JaV l2.toList with
  |some a,some b=>some (.mkfn f a b)
  |_,_=>none
 |.makeMap _ none=>some .mkmap
 |.makeSlice t l c=>match P.underlying t with
  |some (.slice e)=>match zeroOf P e,P.info? e,JP l,JP c with
   |some z,some i,some l,some c=>if z.length≠0 then some (.mkslice z.length i.bytes z l c) else none
   |_,_,_,_=>none
  |_=>none
 |.slice t x lo hi mx=>match P.underlying t with
  |some (.slice e)=>match Jg6 P e,JP x,Xa lo,Xa hi,Xa mx with
   |some z,some x,some lo,some hi,some mx=>if hi.isNone && mx.isSome then none else some (.slice z x lo hi mx)
   |_,_,_,_,_=>none
  |some .string=>match JP x,Xa lo,Xa hi,mx with
   |some x,some lo,some hi,none=>some (.sliceS x lo hi)
   |_,_,_,_=>none
  |_=>none
 |.fieldAddr t x f=>match P.underlying t with
  |some (.struct fs)=>match fs[f]? with
   |some fd=>match Jg6 P fd.type,JP x with
    |some n,some x=>if n≠0 then some (.faddr fd.offset x) else none
    |_,_=>none
   |none=>none
  |_=>none
 |.indexAddr t x i=>match P.underlying t with
  |some (.slice e)=>match Jg6 P e,JP x,JP i with
   |some z,some x,some i=>some (.iaddr z x i)
   |_,_,_=>none
  |_=>none
 |.index t x i=>match P.underlying t with
  |some .string=>match JP x,JP i with
   |some x,some i=>some (.indexS x i)
   |_,_=>none
  |_=>none
 |.lookup t m k ok=>match P.underlying t with
  |some (.map kt e)=>match P.underlying kt,zeroVal P e,JP m,JP k with
   |some d,some z,some m,some k=>if XX d=.int\/XX d=.str\/XX d=.bool then some (.lookup (XX d) z ok m k) else none
   |_,_,_,_=>none
  |_=>none
 |.mapUpdate t m k v=>match P.underlying t with
  |some (.map kt _)=>match P.underlying kt,JP m,JP k,JP v with
   |some d,some m,some k,some v=>if XX d=.int\/XX d=.str\/XX d=.bool then some (.mapset (XX d) m k v) else none
   |_,_,_,_=>none
  |_=>none
 |.insert t m k v=>match P.underlying t with
  |some (.map kt _)=>match P.underlying kt,JP m,JP k,JP v with
   |some d,some m,some k,some v=>if XX d=.int\/XX d=.str\/XX d=.bool then some (.mapset (XX d) m k v) else none
   |_,_,_,_=>none
  |_=>none
 |.nilCheck x=>(JP x).map .nchk
 |.extract x i=>(JP x).map λa=>.extract a i
 |.call c=>match c.callee with
  |.value (.func f)=>match P.funcs[f]? with
   |some fn=>if fn.body.isSome && fn.name != "runtime.NumGoroutine" then(JaV c.args.toList).map (.call f) else none
   |none=>none
  |.value x=>match JP x,JaV c.args.toList with
   |some x,some l=>some (.callv x l)
   |_,_=>none
  |.builtin .len=>match c.argTypes.toList,c.args.toList with
   |[t],[x]=>match P.underlying t with
    |some d=>(JP x).map (.len (XX d))
    |none=>none
   |_,_=>none
  |.builtin .append=>match c.argTypes.toList,c.args.toList with
   |[t,u],[s,x]=>match P.underlying t,P.underlying u with
    |some (.slice e),some (.slice _)=>match zeroOf P e,P.info? e,JP s,JP x with
     |some z,some i,some s,some x=>if z.length≠0 then some (.append z.length i.bytes s x) else none
     |_,_,_,_=>none
    |some (.slice e),some .string=>match zeroOf P e,P.info? e,JP s,JP x with
     |some z,some i,some s,some x=>if z.length≠0 then some (.append z.length i.bytes s x) else none
     |_,_,_,_=>none
    |_,_=>none
   |_,_=>none
  |.builtin .max=>match c.args.toList with
   |[x,y]=>match JP x,JP y with
    |some x,some y=>some (.mmx true x y)
    |_,_=>none
   |_=>none
  |.builtin .min=>match c.args.toList with
   |[x,y]=>match JP x,JP y with
    |some x,some y=>some (.mmx false x y)
    |_,_=>none
   |_=>none
  |.builtin .copy=>match c.argTypes.toList,c.args.toList with
   |[t,_],[x,y]=>match P.underlying t with
    |some (.slice e)=>match zeroOf P e,JP x,JP y with
     |some z,some x,some y=>if z.length≠0 then some (.copy z.length x y) else none
     |_,_,_=>none
    |_=>none
   |_,_=>none
  |_=>none
 |_=>none
def Jbo (o:Oper):LB:=(o.after.toList.filter λe=>Region.binds .any e).map (·.on)
def XU (P:Program)(ops:Array Oper)(o:Oper):Option IOper:=
 match XV P o.op with
 |none=>none
 |some i=>match o.guard with
  |none=>some ⟨o.dst,i,none⟩
  |some (j,want)=>match (ops[j]?).bind (·.dst) with
   |some d=>some ⟨o.dst,i,some (d,want)⟩
   |none=>none
def YW (P:Program)(ops:Array Oper):List Oper->Option LD
 |[]=>some []
 |o::os=>match XU P ops o,YW P ops os with
  |some i,some is=>some (i::is)
  |_,_=>none
def JM (P:Program):Code->Option ICode
 |.skip=>some .skip
 |.region _ ops dr=>match YW P ops ops.toList with
  |some is=>if dr then some (.dreg is (ops.toList.map Jbo)) else some (.reg is)
  |none=>some .bad
 |.seq a b=>match JM P a,JM P b with
  |some a,some b=>some (.seq a b)
  |_,_=>none
 |.cond c a b=>match JP c,JM P a,JM P b with
  |some c,some a,some b=>some (.cond c a b)
  |_,_,_=>some .bad
 |.block id a=>match JM P a with
  |some a=>some (.block id a)
  |none=>none
 |.loop a=>match JM P a with
  |some a=>some (.loop a)
  |none=>none
 |.rangeFunc f ps a b=>match JP f,JM P a,JM P b with
  |some f,some a,some b=>some (.rfunc f ps.toList a b)
  |_,_,_=>some .bad
 |.exit id=>some (.exit id)
 |.ret=>some .ret
 |_=>some .bad
def JaG (P:Program):List ResultVar->Option (List RVar)
 |[]=>some []
 |.tmp t::l=>match JaG P l with
  |some ts=>some (.tmp t::ts)
  |none=>none
 |.cell a t::l=>match Jh8 P t,Jg6 P t,JaG P l with
  |some ag,some n,some ts=>some (.cell ag n a::ts)
  |_,_,_=>none
def Jd (P:Program)(f:Nat):Option IFunc:=
 match P.funcs[f]? with
 |some fn=>match fn.body with
  |some c=>match JM P c,JaG P fn.results.toList with
   |some ic,some ts=>some ⟨ic,fn.ntmps,ts⟩
   |_,_=>none
  |none=>none
 |none=>none
@[reducible] def Zo (d : Nat)(x : IOp) : IOper := ⟨some d, x, none⟩
@[reducible] def Zg (d : Nat)(x : IOp)(g : Nat)(b : Bool) : IOper := ⟨some d, x, some (g, b)⟩
@[reducible] def Zm (d a : Nat) : IOper := ⟨some d, .mv (.s a), none⟩
@[reducible] def Zx (d a g : Nat)(b : Bool) : IOper := ⟨some d, .mv (.s a), some (g, b)⟩
@[reducible] def Zl (d a : Nat) : IOper := ⟨some d, .load false 1 (.s a), none⟩
@[reducible] def Zk (d n a : Nat) : IOper := ⟨some d, .load true n (.s a), none⟩
@[reducible] def Za (d i a : Nat) : IOper := ⟨some d, .faddr i (.s a), none⟩
@[reducible] def Zq (d a : Nat)(k : Int) : IOper := ⟨some d, .bin .eql .int (.s a) (.c (.int .u8 k)), none⟩
@[reducible] def Zi (d z a i : Nat) : IOper := ⟨some d, .iaddr z (.s a) (.s i), none⟩
@[reducible] def Zz (d a : Nat) : IOper := ⟨some d, .len .slice (.s a), none⟩
@[reducible] def Zc (k : Int) : IArg := .c (.int .i64 k)
@[reducible] def Zu (k : Int) : IArg := .c (.int .u8 k)
@[reducible] def Zb (o : BinOp)(d a b : Nat) : IOper := ⟨some d, .bin o .int (.s a) (.s b), none⟩
@[reducible] def Zh (o : BinOp)(d a : Nat)(k : Int) : IOper := ⟨some d, .bin o .int (.s a) (.c (.int .i64 k)), none⟩
@[reducible] def Zv (o : BinOp)(d a : Nat)(k : Int) : IOper := ⟨some d, .bin o .int (.s a) (.c (.int .u8 k)), none⟩
@[reducible] def Zd (d c a : Nat) : IOper := ⟨some d, .pick (.s c) (.s a) (.c (.bool false)), none⟩
@[reducible] def Ze (d c a : Nat) : IOper := ⟨some d, .pick (.s c) (.c (.bool true)) (.s a), none⟩
@[reducible] def Zt (d : Nat)(b : Bool) : IOper := ⟨some d, .mv (.c (.bool b)), none⟩
@[reducible] def Zn (d : Nat)(k : Int) : IOper := ⟨some d, .mv (.c (.int .i64 k)), none⟩
@[reducible] def Zw (d a : Nat) : IOper := ⟨some d, .not (.s a), none⟩
@[reducible] def Zj (d a i : Nat) : IOper := ⟨some d, .extract (.s a) i, none⟩
@[reducible] def Zf (d i a g : Nat)(b : Bool) : IOper := ⟨some d, .faddr i (.s a), some (g, b)⟩
@[reducible] def Zy (d a g : Nat)(b : Bool) : IOper := ⟨some d, .load false 1 (.s a), some (g, b)⟩
@[reducible] def ZN (d f : Nat) : IOper := ⟨some d, .call f [], none⟩
@[reducible] def Zp (d f a : Nat) : IOper := ⟨some d, .call f [.s a], none⟩
@[reducible] def Zr (d f a b : Nat) : IOper := ⟨some d, .call f [.s a, .s b], none⟩
@[reducible] def ZR (d f a b c : Nat) : IOper := ⟨some d, .call f [.s a, .s b, .s c], none⟩
@[reducible] def ZV (d f a : Nat)(x : UInt8) : IOper := ⟨some d, .call f [.s a, .c (.str ⟨#[x]⟩)], none⟩
@[reducible] def ZP (d x y a : Nat) : IOper := ⟨some d, .bslice x y [.int .i64 0] [(0, .s a)], none⟩
@[reducible] def ZE (d x y a b : Nat) : IOper := ⟨some d, .append x y (.s a) (.s b), none⟩
@[reducible] def ZK (d : Nat) : IOper := ⟨some d, .alloc [.int .u8 0, .str ⟨#[]⟩, .int .i64 0, .nils, .int .i64 0], none⟩
@[reducible] def ZX (d a : Nat) : IOper := ⟨some d, .box (.s a), none⟩
@[reducible] def ZY (d a : Nat) : IOper := ⟨some d, .nchk (.s a), none⟩
@[reducible] def ZM (d : Nat) : IOper := ⟨some d, .mv (.c .nils), none⟩
@[reducible] def ZF (d a : Nat) : IOper := ⟨some d, .len .str (.s a), none⟩
@[reducible] def ZL (d n a g : Nat)(b : Bool) : IOper := ⟨some d, .load true n (.s a), some (g, b)⟩
@[reducible] def ZI (d z a i g : Nat)(b : Bool) : IOper := ⟨some d, .iaddr z (.s a) (.s i), some (g, b)⟩
@[reducible] def ZC (d f a g : Nat)(b : Bool) : IOper := ⟨some d, .call f [.s a], some (g, b)⟩
@[reducible] def ZW (d f a c g : Nat)(b : Bool) : IOper := ⟨some d, .call f [.s a, .s c], some (g, b)⟩
@[reducible] def ZZ (d a g : Nat)(b : Bool) : IOper := ⟨some d, .len .slice (.s a), some (g, b)⟩
@[reducible] def ZB (o : BinOp)(d a c g : Nat)(b : Bool) : IOper := ⟨some d, .bin o .int (.s a) (.s c), some (g, b)⟩
@[reducible] def ZH (o : BinOp)(d a : Nat)(k : Int)(g : Nat)(b : Bool) : IOper := ⟨some d, .bin o .int (.s a) (.c (.int .i64 k)), some (g, b)⟩
@[reducible] def ZU (o : BinOp)(d a : Nat)(k : Int)(g : Nat)(b : Bool) : IOper := ⟨some d, .bin o .int (.s a) (.c (.int .u8 k)), some (g, b)⟩
@[reducible] def ZT (z a b : Nat) : IOper := ⟨none, .store z (.s a) (.s b), none⟩
@[reducible] def ZQ (n : Nat)(a b : ICode) : ICode := .cond (.s n) a b
@[reducible] def Zs (l : LD)(x : ICode) : ICode := .seq (.reg l) x
theorem Jgc:∀(v:Value) (c:CV),ofCell v=some c->rel own imm c v:=by
 intro v c h;unfold ofCell at h
 split at h <;> (try cases h) <;> simp[rel]
theorem Jb7:∀(vs:LH) (cs:Lu),Jbf vs=some cs->J7 own imm cs vs
 |[],cs,h=>by simp[Jbf]at h;subst h;simp[J7]
 |v::vs,cs,h=>by
  simp only[Jbf]at h
  split at h
  ·rename_i c cs' h1 h2
   cases h
   simp only[J7];exact⟨v,vs,rfl,Jgc v c h1,Jb7 vs cs' h2⟩
  ·cases h
theorem ofVal_rel(v:Value)(c:CV)(h:ofVal v=some c):rel own imm c v:=by
 unfold ofVal at h
 split at h
 ·rename_i cs
  cases h1:Jbf cs.toList with
  |none=>simp[h1]at h
  |some l=>simp[h1]at h;subst h;simp only[rel];exact⟨cs,rfl,Jb7 _ _ h1⟩
 ·exact Jgc v c h
theorem getD_rel(h:J7 own imm T tmps.toList)(t:Nat):rel own imm (T.getD t .un) (tmps.getD t undef):=by
 have hl:=Ke h;by_cases ht:t<T.length
 ·obtain⟨v,hv,hr⟩:=Yv h (Gh ht);have e1:T.getD t .un=T[t]:=by simp[Gp,Gh ht]
  have e2:tmps.getD t undef=v:=by
   have:tmps[t]? = some v:=by simpa using hv
   simp[this]
  rw[e1,e2];exact hr
 ·have e1:T.getD t .un=.un:=by simp[Gp,GN (Nat.le_of_not_lt ht)]
  rw[e1];simp[rel]
theorem JZ(h:J7 own imm T a.tmps.toList){x:Operand}(hx:JP x=some i):rel own imm (Kg T i) (a.eval x):=by
 cases x with
 |tmp t=>simp[JP]at hx;subst hx;exact getD_rel h t
 |const v=>
  simp only[JP]at hx
  cases hv:ofVal v with
  |none=>simp[hv]at hx
  |some c=>simp[hv]at hx;subst hx;exact ofVal_rel v c hv
 |global g=>simp[JP]at hx
 |func f=>simp[JP]at hx;subst hx;simp[Kg,rel,Act.eval,J7]
theorem JbP(h:J7 own imm T a.tmps.toList):∀{xs:List Operand}{is:LP},JaV xs=some is->J7 own imm (is.map (Kg T)) (xs.map a.eval)
 |[],is,hx=>by simp[JaV]at hx;subst hx;simp[J7]
 |x::xs,is,hx=>by
  simp only[JaV]at hx
  split at hx
  ·rename_i b bs h1 h2
   cases hx
   simp only[Hd,J7];exact⟨_,_,rfl,JZ h h1,JbP h h2⟩
  ·cases hx
theorem JcU{c:CV}{v:Value}{l:Lu}(h:rel own imm c v)(hc:c.cells=some l):J7 own imm l v.cells.toList:=by
 cases c <;> simp[CV.cells]at hc <;> (try subst hc) <;> (try (simp only[rel]at h))
 case agg l'=>obtain⟨vs,rfl,h⟩:=h;simpa [Value.cells]using h
 case bool=>subst h;simp[Value.cells,J7,rel]
 case int=>subst h;simp[Value.cells,J7,rel]
 case str=>subst h;simp[Value.cells,J7,rel]
 case nilp=>subst h;simp[Value.cells,J7,rel]
 case ptr=>obtain⟨x,hx,rfl⟩:=h;simp[Value.cells,J7,rel,hx]
 case rptr=>obtain⟨B,o,rfl,h⟩:=h;simp only[Value.cells,J7,rel];exact⟨_,[],sM,⟨B,o,rfl,h⟩,rfl⟩
 case nils=>subst h;simp[Value.cells,J7,rel]
 case slc=>obtain⟨x,a,c,hx,rfl,h⟩:=h;simp only[Value.cells,J7,rel];exact⟨_,[],sM,⟨x,a,c,hx,rfl,h⟩,rfl⟩
 case rslc=>
  rcases h with ⟨h1,h2,b,rfl⟩|⟨B,o,c,rfl,h⟩
  ·simp only[Value.cells,J7,rel];exact⟨_,[],sM,.inl ⟨h1,h2,b,rfl⟩,rfl⟩
  ·simp only[Value.cells,J7,rel];exact⟨_,[],sM,.inr ⟨B,o,c,rfl,h⟩,rfl⟩
 case nilm=>subst h;simp[Value.cells,J7,rel]
 case map=>obtain⟨x,hx,rfl⟩:=h;simp[Value.cells,J7,rel,hx]
 case fn=>obtain⟨v1,v2,rfl,h⟩:=h;simp only[Value.cells,J7,rel];exact⟨_,[],sM,⟨v1,v2,rfl,h⟩,rfl⟩
 case yld=>subst h;simp[Value.cells,J7,rel]
 case nilf=>subst h;simp[Value.cells,J7,rel]
 case iface=>obtain⟨r,rfl,h⟩:=h;simp only[Value.cells,J7,rel];exact⟨_,[],sM,⟨r,rfl,h⟩,rfl⟩
 case nili=>subst h;simp[Value.cells,J7,rel]
theorem oneCell_rel{c:CV}{v:Value}(h:rel own imm c v)(hc:c.oneCell=true):v.oneCell'=true:=by
 cases c <;> simp[CV.oneCell]at hc <;> simp only[rel]at h
 case bool=>subst h;rfl
 case int=>subst h;rfl
 case str=>subst h;rfl
 case nilp=>subst h;rfl
 case ptr=>obtain⟨x,hx,rfl⟩:=h;rfl
 case rptr=>obtain⟨B,o,rfl,h⟩:=h;rfl
 case nils=>subst h;rfl
 case slc=>obtain⟨x,a,c,hx,rfl,h⟩:=h;rfl
 case rslc=>rcases h with ⟨_,_,b,rfl⟩|⟨B,o,c,rfl,h⟩ <;> rfl
 case nilm=>subst h;rfl
 case map=>obtain⟨x,hx,rfl⟩:=h;rfl
 case fn=>obtain⟨v1,v2,rfl,h⟩:=h;rfl
 case yld=>subst h;rfl
 case nilf=>subst h;rfl
 case iface=>obtain⟨r,rfl,h⟩:=h;rfl
 case nili=>subst h;rfl
theorem YG:∀{l:Lu}{vs:LH},J7 own imm l vs->Xk l=true->∀v∈vs,v.oneCell'=true
 |[],vs,h,_,v,hv=>by simp[J7]at h;subst h;cases hv
 |c::cs,vs,h,ha,v,hv=>by
  simp only[J7]at h;obtain⟨r,rs,rfl,h1,h2⟩:=h;simp[Xk]at ha
  cases hv with
  |head=>exact oneCell_rel h1 ha.1
  |tail _ hv=>exact YG h2 ha.2 v hv
def Good (P:Program)(E:Env)(n0:Nat)(m:Bk)(H:Lv)(w:World)(s:Sem Next)(v:CV)(H':Lv):Prop:=∃m' w' r nx,s.run P w=.ok nx w'/\(nx=.value r\/(nx=.skip/\r=undef))/\Ext n0 m H w m' H' w'/\Sim E m' H' w'/\rel m'.own m'.imm v r/\KZ m.own m'.own
section
variable{s:Sem Next}{v:CV}
theorem JE(hs:Sim E m H w)(h:s.run P w=.ok (.value r) w)(hr:rel m.own m.imm v r):Good P E n0 m H w s v H:=⟨m,w,r,_,h,.inl rfl,Ext.refl _ _ _ _,hs,hr,KZ.refl _⟩
theorem Jgr{x:Own}{o:CObj}(hs:Sim E m H w)(h:s.run P w=.ok (.value r) (w.alloc ob))(hB:x.B=w.heap.size)
  (ho:o.alive=true->Y7 (m.own++[x]) m.imm x o (w.alloc ob)) (Ai:∀s b,o≠.ext s b) (hr:rel (m.own++[x]) m.imm v r):Good P E n0 m H w s v (H++[o]):=
 ⟨{ m with own:=m.own++[x] },w.alloc ob,r,_,h,.inl rfl,Ext.alloc (w':=w.alloc ob) hs rfl ⟨rfl,rfl,rfl⟩ x o hB,hs.alloc (w':=w.alloc ob) rfl x o hB ho Ai,hr,KZ.append _ _⟩
theorem good_row{cells:LJ}(hs:Sim E m H w)(h:s.run P w=.ok (.value r) (w.alloc (.cells cells elem)))
  (hz:els.length*z<=cells.size) (hc:relO m.own m.imm z els (λi=>cells[i]?) 0) (h1:∀(i:Nat) v,cells[i]? = some v->v.oneCell'=true) (hr:rel (m.own++[⟨w.heap.size,0,cells.size,z⟩]) m.imm v r):Good P E n0 m H w s v (H++[.arr z els]):=by
 refine Jgr (x:=⟨w.heap.size,0,cells.size,z⟩) (o:=.arr z els) hs h rfl (λ_=>?_) (by intro s b h;cases h) hr;refine⟨rfl,cells,elem,heap_alloc_new w _,rfl,by simpa using hz,?_,h1⟩;exact Ja8 (KZ.append _ _) (KJ.refl _) hc
theorem last_own (hs:Sim E m H w)(x:Own):(m.own++[x])[H.length]? = some x:=by rw[<-hs.len];simp
end
theorem relO_one{l:Lu}{cells:LJ}(h:J7 own imm l cells.toList):relO own imm l.length [l] (λi=>cells[i]?) 0:=by
 intro j e he
 cases j with
 |succ j=>simp at he
 |zero=>simp at he;subst he;refine⟨rfl,λt c hc=>?_⟩;obtain⟨v,hv,hr⟩:=Yv h hc;exact⟨v,by simpa using hv,hr⟩
theorem relO_flat:∀(els:LQ) (o:Nat) (R:Nat->LG),(∀e∈els,e.length=z)->(∀(i:Nat) c,els.flatten[i]? = some c->∃r,R (o+i)=some r/\rel own imm c r)->relO own imm z els R o
 |[],_,_,_,_=>by intro j e he;simp at he
 |e::es,o,R,hz,h=>by
  have he:e.length=z:=hz e sM;have ih:=relO_flat es (o+z) R (λx hx=>hz x (by simp[hx])) (λi c hc=>by have:=h (z+i) c (by simp only[GQ];rw[Gm om,he];simpa using hc);rw[show o+z+i=o+(z+i) by omega];exact this)
  intro j d hd
  cases j with
  |zero=>simp at hd;subst hd;refine⟨he,λt c hc=>?_⟩;have:=h t c (by simp only[GQ];rw[Gc (Gf.1 hc).1];exact hc);simpa using this
  |succ j=>simp at hd;have:=ih j d hd;rw[show o+(j+1)*z=o+z+j*z by rw[Gd];omega];exact this
theorem flat_relO:∀(els:LQ) (o:Nat) (R:Nat->LG),relO own imm z els R o->(∀e∈els,e.length=z)/\(∀(i:Nat) c,els.flatten[i]? = some c->∃r,R (o+i)=some r/\rel own imm c r)
 |[],_,_,_=>sM
 |e::es,o,R,h=>by
  have h0:=h 0 e rfl;have ih:=flat_relO es (o+z) R (λj d hd=>by have:=h (j+1) d (by simpa using hd);rw[show o+(j+1)*z=o+z+j*z by rw[Gd];omega]at this;exact this)
  refine⟨λx hx=>?_,λi c hc=>?_⟩
  ·cases hx with
   |head=>exact h0.1
   |tail _ hx=>exact ih.1 x hx
  ·simp only[GQ]at hc;by_cases hi:i<e.length
   ·rw[Gc hi]at hc;simpa using h0.2 i c hc
   ·rw[Gm om]at hc;have:=ih.2 (i-e.length) c hc;rw[h0.1]at this hi;rw[show o+z+(i-z)=o+i by omega]at this;exact this
theorem JbZ:∀(els:LQ),(∀e∈els,e.length=z)->els.flatten.length=els.length*z
 |[],_=>sM
 |e::es,h=>by simp only[GQ,Gn,G9];rw[JbZ es (λx hx=>h x (by simp[hx])),h e sM,Gd];omega
theorem JbC{l:Lu}(h:zeroOf P t=some l):∃i zv,P.info? t=some i/\i.zero=some zv/\(zeroValue t).run P w=.ok zv w/\(∀own imm,J7 own imm l zv.cells.toList)/\l.length=i.size/\Xk l=true:=by
 unfold zeroOf at h
 cases hi:P.info? t with
 |none=>simp[hi]at h
 |some i=>
  simp only[hi]at h
  cases hz:i.zero with
  |none=>simp[hz]at h
  |some zv=>
   simp only[hz]at h
   cases hc:Jbf zv.cells.toList with
   |none=>simp[hc]at h
   |some l'=>
    simp only[hc]at h
    split at h
    ·rename_i Ad
     cases h
     exact⟨i,zv,rfl,hz,by simp[zeroValue,typeInfo,hi,hz],λown imm=>Jb7 _ _ hc,Ad.1,Ad.2⟩
    ·cases h
theorem Jf1(h:Jg6 P t=some n):(sizeOf t).run P w=.ok n w:=by
 unfold Jg6 at h
 cases hi:P.info? t with
 |none=>simp[hi]at h
 |some i=>simp[hi]at h;subst h;simp[sizeOf,typeInfo,hi]
theorem Jhd{b:Bool}(h:Jh8 P t=some b):(isAgg t).run P w=.ok b w:=by
 unfold Jh8 at h
 cases hi:P.underlying t with
 |none=>simp[hi]at h
 |some d=>simp[hi]at h;subst h;cases d <;> simp[isAgg,underlying,hi,isAggD]
theorem InR.wrap {k:IntKind}{n:Int}(h:InR k n):k.wrap n=n:=by
 have h1:=h.lo;have h2:=h.hi
 cases k <;> simp[IntKind.min,IntKind.max,IntKind.signed,IntKind.bits]at h1 h2 <;> simp[IntKind.wrap,IntKind.signed,IntKind.bits] <;> (try split) <;> omega
theorem addr_add (B o n:Nat):(⟨B,o,none⟩:Addr).add n=⟨B,o+n,none⟩:=by unfold Addr.add;split <;> simp_all
section
variable{c:Cond}{v:CV}{o:Oper}
structure Pre (E:Env)(n0:Nat)(m:Bk)(H:Lv)(w:World)(T:Lu)(a:Act):Prop where
 sim:Sim E m H w
 tmps:J7 m.own m.imm T a.tmps.toList
 long:n0<=H.length
theorem snd_mv {x:Operand}(ho:o.op=.move x\/o.op=.assign x)(hx:JP x=some i)(he:exec (.mv i) T H=some (c,v,H'))(hp:Pre E n0 m H w T a):Good P E n0 m H w (execOp a.eval o) v H':=by simp only[exec,Ga,Gb]at he;obtain⟨_,rfl,rfl⟩:=he;refine JE (r:=a.eval x) hp.sim ?_ (JZ hp.tmps hx);rcases ho with ho|ho <;> simp[execOp,ho]
theorem snd_pick {x y z:Operand}{j k:IArg}(ho:o.op=.pick x y z)(hx:JP x=some i)(hy:JP y=some j)(hz:JP z=some k)(he:exec (.pick i j k) T H=some (c,v,H'))(hp:Pre E n0 m H w T a):Good P E n0 m H w (execOp a.eval o) v H':=by
 have h1:=JZ hp.tmps hx;have h2:=JZ hp.tmps hy;have h3:=JZ hp.tmps hz;simp only[exec]at he
 split at he
 ·rename_i e;rw[e]at h1;simp only[rel]at h1;simp only[Ga,Gb]at he;obtain⟨_,rfl,rfl⟩:=he;exact JE (r:=a.eval y) hp.sim (by simp[execOp,ho,h1,asBool]) h2
 ·rename_i e;rw[e]at h1;simp only[rel]at h1;simp only[Ga,Gb]at he;obtain⟨_,rfl,rfl⟩:=he;exact JE (r:=a.eval z) hp.sim (by simp[execOp,ho,h1,asBool]) h3
 ·cases he
theorem JeV (hs:Sim E m H w)(x:Own):(m.own++[x])[H.length]? = some x:=last_own hs x
theorem snd_alloc{z:Lu}(ho:o.op=.alloc t)(hz:zeroOf P t=some z)(he:exec (.alloc z) T H=some (c,v,H'))(hp:Pre E n0 m H w T a):Good P E n0 m H w (execOp a.eval o) v H':=by
 simp only[exec,Ga,Gb]at he;obtain⟨_,rfl,rfl⟩:=he;obtain⟨i,zv,_,_,Ak,hrel,Ad,Oy⟩:=JbC (w:=w) hz;have hr:=hrel m.own m.imm;refine good_row (r:=.pointer (some ⟨w.heap.size,0,none⟩)) (cells:=zv.cells) (elem:=t) hp.sim ?_ ?_ (relO_one hr) (λi v hv=>YG hr Oy v (G5.2 (GK hv))) ?_
 ·simp[execOp,ho,Instr.alloc,Ak,newVar,newRow]
 ·have:=Ke hr;simp at this;simp[this]
 ·simp only[rel];exact⟨_,JeV hp.sim _,sM⟩
theorem snd_box{x:Operand}(ho:o.op=.box t x)(hx:JP x=some i)(he:exec (.box i) T H=some (c,v,H'))(hp:Pre E n0 m H w T a):Good P E n0 m H w (execOp a.eval o) v H':=by
 have h1:=JZ hp.tmps hx;simp only[exec]at he
 split at he
 ·rename_i l hl
  split at he
  ·rename_i jT;simp only[Ga,Gb]at he;obtain⟨_,rfl,rfl⟩:=he;have hr:=JcU h1 hl;refine good_row (r:=.pointer (some ⟨w.heap.size,0,none⟩)) (cells:=(a.eval x).cells) (elem:=t) hp.sim ?_ ?_ (relO_one hr) (λi v hv=>YG hr jT v (G5.2 (GK hv))) ?_
   ·simp[execOp,ho,Instr.box,newVar,newRow]
   ·have:=Ke hr;simp at this;simp[this]
   ·simp only[rel];exact⟨_,JeV hp.sim _,sM⟩
  ·cases he
 ·cases he
theorem JdD{o':Nat}(Cs:Jh8 P t=some ag)(hn:Jg6 P t=some n)
  (hc:∀(j:Nat) v,(vs.take n)[j]? = some v->w.cell? ⟨B,o' + j,none⟩=some v) (Ad:n<=vs.length) (h1:ag=false->1<=vs.length) (DN:ag=false->∀v,vs[0]? = some v->w.cell? ⟨B,o',none⟩=some v) :
  (loadVar t ⟨B,o',none⟩).run P w=.ok (if ag then .agg (vs.take n).toArray else vs.headD undef) w:=by
 unfold loadVar
 cases ag with
 |true=>
  have hl:=run_loadCells_list (P:=P) w ⟨B,o',none⟩ (vs.take n) (λj v hv=>by rw[addr_add];exact hc j v hv);have:(vs.take n).length=n:=by simp;omega
  rw[this]at hl;simp[Jhd Cs,Jf1 hn,hl]
 |false=>
  have h2:=h1 rfl
  cases vs with
  |nil=>simp at h2
  |cons v vs=>have:=DN rfl v rfl;simp[Jhd Cs,this]
theorem rel_taken{e:Lu}{R:Nat->LG}{b:Nat}(h:∀(t:Nat) c,e[t]? = some c->∃r,R (b+t)=some r/\rel own imm c r)(hn:off+n<=e.length) :
  ∃vs:LH,vs.length=n/\J7 own imm ((e.drop off).take n) vs/\∀(j:Nat) v,vs[j]? = some v->R (b+off+j)=some v:=by
 induction n generalizing off with
 |zero=>exact⟨[],rfl,by simp[J7],λj v hv=>by simp at hv⟩
 |succ n ih=>
  obtain⟨vs,hl,hr,hR⟩:=ih (off:=off+1) om;have Ab:off<e.length:=om
  obtain⟨r,M8,hrel⟩:=h off e[off] (Gh Ab);refine⟨r::vs,by simp[hl],?_,λj v hv=>?_⟩
  ·rw[Ht Ab];simp only[Hw,J7];exact⟨r,vs,rfl,hrel,hr⟩
  ·cases j with
   |zero=>simp at hv;subst hv;simpa using M8
   |succ j=>simp at hv;have:=hR j v hv;rw[show b+off+(j+1)=b+(off+1)+j by omega];exact this
theorem rel_weak{c:CV}{v:Value}(h:rel [] imm c v):rel own imm c v:=Xr (KZ.nil _) (KJ.refl _) c v h
theorem load_val{x:Operand}(Cs:Jh8 P t=some ag)(hn:Jg6 P t=some n)(hx:JP x=some i)(he:exec (.load ag n i) T H=some (c,v,H'))(hc:c.holds)(hp:Pre E n0 m H w T a) :
  H'=H/\∃ad r,a.eval x=.pointer (some ad)/\(loadVar t ad).run P w=.ok r w/\rel m.own m.imm v r:=by
 have h1:=JZ hp.tmps hx;simp only[exec]at he
 split at he
 ·rename_i id i' off e;rw[e]at h1;simp only[rel]at h1;obtain⟨x',Aw,hv⟩:=h1
  split at he
  ·rename_i z els hH;obtain⟨hz,cells,elem,hb,BP,Be,AR,Cx⟩:=hp.sim.obj id _ x' hH Aw;have key:∀k,i' + 1<=els.length/\off+k<=(els.getD i' []).length->∃vs:LH,vs.length=k/\J7 m.own m.imm (((els.getD i' []).drop off).take k) vs/\∀(j:Nat) v,vs[j]? = some v->w.cell? ⟨x'.B,x'.o+i' * x'.z+off+j,none⟩=some v:=by
    rintro k ⟨Dz,Aq⟩;have Bf:els[i']? = some (els.getD i' []):=by simp[Gp,Gh (show i' < els.length by omega)]
    obtain⟨_,ED⟩:=AR i' _ Bf;obtain⟨vs,hl,hr,hR⟩:=rel_taken ED Aq;exact⟨vs,hl,hr,λj v hv=>by simp[World.cell?,hb,hR j v hv]⟩
   cases ag with
   |true=>simp only[if_true,Ga,Gb]at he;obtain⟨rfl,rfl,rfl⟩:=he;obtain⟨vs,hl,hr,hR⟩:=key n hc;have:=JdD (w:=w) (B:=x'.B) (o':=x'.o+i' * x'.z+off) (vs:=vs) Cs hn (λj v hv=>hR j v (by rw[GL om]at hv;exact hv)) om sM sM;refine⟨rfl,_,_,hv,this,?_⟩;simp only[if_true,rel];have et:vs.take n=vs:=GL om;exact⟨_,rfl,by rw[et];exact hr⟩
   |false=>
    simp only[GA,if_false,Ga,Gb]at he;obtain⟨rfl,rfl,rfl⟩:=he;obtain⟨vs,hl,hr,hR⟩:=key 1 hc;obtain⟨v0,rfl⟩:∃v0,vs=[v0]:=by
     cases vs with
     |nil=>simp at hl
     |cons v0 vs=>cases vs with
      |nil=>exact⟨v0,rfl⟩
      |cons _ _=>simp at hl
    have h0:=hR 0 v0 rfl;refine⟨rfl,_,v0,hv,?_,?_⟩
    ·rw[GV]at h0;simp only[loadVar,Sem.run_bind,Jhd Cs,Result.andThen_ok,GA,if_false,run_load,h0]
    ·have Ab:off<(els.getD i' []).length:=hc.2;rw[Ht Ab]at hr;simp only[Hw,Ha,J7]at hr;obtain⟨r,rs,e1,hr,_⟩:=hr
     cases e1
     have:(els.getD i' []).getD off .un=(els.getD i' [])[off]:=by generalize els.getD i' []=e0 at Ab;simp only[Gp,Gh Ab,GX]
     rw[this];exact hr
  ·cases he
 ·rename_i cs e;rw[e]at h1;simp only[rel]at h1;obtain⟨B,o',hv,hat⟩:=h1;have SC:=(Jap _ _).1 hat
  cases ag with
  |true=>simp only[if_true,Ga,Gb]at he;obtain⟨rfl,rfl,rfl⟩:=he;obtain⟨vs,hl,hr,hR⟩:=rel_taken (off:=0) (n:=n) (b:=o') SC (by simpa [Cond.holds]using hc);have:=JdD (w:=w) (B:=B) (o':=o') (vs:=vs) Cs hn (λj v hv=>hp.sim.imm _ _ _ (by have:=hR j v (by rw[GL om]at hv;exact hv);rw[GV]at this;exact this)) om sM sM;refine⟨rfl,_,_,hv,this,?_⟩;simp only[if_true,rel];refine⟨_,rfl,?_⟩;have et:vs.take n=vs:=GL om;rw[et];rw[List.drop_zero]at hr;exact KY (KZ.nil _) (KJ.refl _) _ _ hr
  |false=>
   simp only[GA,if_false]at he
   split at he
   ·rename_i c0 cs';simp only[Ga,Gb]at he;obtain⟨rfl,rfl,rfl⟩:=he;obtain⟨r,hr,hrel⟩:=SC 0 _ rfl;have h0:=hp.sim.imm B o' r (by simpa using hr);exact⟨rfl,_,r,hv,by simp only[loadVar,Sem.run_bind,Jhd Cs,Result.andThen_ok,GA,if_false,run_load,h0],rel_weak hrel⟩
   ·cases he
 ·cases he
theorem snd_load{x:Operand}(ho:o.op=.load t x)(Cs:Jh8 P t=some ag)(hn:Jg6 P t=some n)(hx:JP x=some i)(he:exec (.load ag n i) T H=some (c,v,H'))(hc:c.holds)(hp:Pre E n0 m H w T a) :
  Good P E n0 m H w (execOp a.eval o) v H':=by
 obtain⟨rfl,ad,r,hv,hr,hrel⟩:=load_val Cs hn hx he hc hp;exact JE hp.sim (by simp[execOp,ho,Instr.loadAt,hv,Instr.sureAddr,hr]) hrel
theorem spliced{i base:Nat}{cells:LJ}{l:Lu}
  (h:relO own imm z els (λi=>cells[i]?) base) (hi:i<els.length) (MC:off+l.length<=(els.getD i []).length) (hr:J7 own imm l vs) (hb:base+els.length*z<=cells.size) :
  relO own imm z (els.set i (splice (els.getD i []) off l)) (λj=>(cells.toList.take (base+i*z+off)++vs++cells.toList.drop (base+i*z+off+vs.length)).toArray[j]?) base:=by
 have Ad:=Ke hr;have Bf:els[i]? = some (els.getD i []):=by simp[Gp,Gh hi]
 have hz:(els.getD i []).length=z:=(h i _ Bf).1;have Eh:(i+1)*z<=els.length*z:=Gj z hi;rw[Gd,Gs]at Eh;have rd:∀p,(cells.toList.take (base+i*z+off)++vs++cells.toList.drop (base+i*z+off+vs.length)).toArray[p]? =
   if base+i*z+off<=p/\p<base+i*z+off+vs.length then vs[p-(base+i*z+off)]? else cells[p]?:=by
  intro p;simp only[GM];have hA:(cells.toList.take (base+i*z+off)).length=base+i*z+off:=by simp only[Gl,Gu];omega
  by_cases h1:p<base+i*z+off
  ·rw[Gz,Gc om,Gq h1,iN7];simp
  ·by_cases h2:p<base+i*z+off+vs.length
   ·rw[Gc (by simp only[Gl,Gn,Gu];omega),Gm om,hA,if_pos ⟨om,h2⟩]
   ·rw[Gm (by simp only[Gl,Gn,Gu];omega),iN7,Gr];simp only[Gn,hA];rw[show base+i*z+off+vs.length+(p-(base+i*z+off+vs.length))=p by omega];simp
 intro j e he;rw[Gi]at he
 split at he
 ·rename_i Cv;subst Cv;obtain rfl:splice (els.getD i []) off l=e:=by simpa using he
  have Ck:(splice (els.getD i []) off l).length=z:=by simp only[splice,Gn,Gl,G8];omega
  refine⟨Ck,λt c hc=>?_⟩;have ht:t<z:=Ck▸(Gf.1 hc).1;show ∃r,(_:LJ)[base+i*z+t]? = some r/\_;rw[rd];simp only[splice]at hc;by_cases h1:t<off
  ·rw[iN7];rw[Gc (by simp only[Gl];omega),Gq h1]at hc;exact(h i _ Bf).2 t c hc
  ·by_cases h2:t<off+l.length
   ·rw[iP7];rw[Gm (by simp only[Gl];omega)]at hc;have e1:((els.getD i []).take off).length=off:=by simp only[Gl];omega
    rw[e1,Gc om]at hc;obtain⟨v,hv,hrel⟩:=Yv hr hc;exact⟨v,by rw[show base+i*z+t-(base+i*z+off)=t-off by omega];exact hv,hrel⟩
   ·rw[iN7];rw[Gm (by simp only[Gl];omega)]at hc;have e1:((els.getD i []).take off).length=off:=by simp only[Gl];omega
    rw[e1,Gm om,Gr,show off+l.length+(t-off-l.length)=t by omega]at hc;exact(h i _ Bf).2 t c hc
 ·rename_i Cv;have hj:=h j e he;refine⟨hj.1,λt c hc=>?_⟩;have ht:t<z:=hj.1▸(Gf.1 hc).1;obtain⟨r,CB,CJ⟩:=hj.2 t c hc;refine⟨r,?_,CJ⟩;show (_:LJ)[base+j*z+t]? = some r;rw[rd,if_neg]
  ·exact CB
  ·rintro⟨h1,h2⟩;rcases Nat.lt_or_gt_of_ne Cv with Ab|PE
   ·have:(i+1)*z<=j*z:=Gj z Ab;rw[Gd,Gs]at this;omega
   ·have:(j+1)*z<=i*z:=Gj z PE;rw[Gd,Gs]at this;omega
theorem Jb6 {cells:LJ}{p q:Nat}(h:∀(i:Nat) v,cells[i]? = some v->v.oneCell'=true)(h1:∀v∈vs,v.oneCell'=true):∀(i:Nat) v,(cells.toList.take p++vs++cells.toList.drop q).toArray[i]? = some v->v.oneCell'=true:=by
 intro i v hv;have hm:v∈cells.toList.take p++vs++cells.toList.drop q:=by have:=GK hv;simpa using this
 have hc:∀v∈cells.toList,v.oneCell'=true:=by intro v hv;obtain⟨j,hj⟩:=Gy hv;exact h j v (by simpa using hj)
 rcases GR.1 hm with h2|h2
 ·rcases GR.1 h2 with h3|h3
  ·exact hc v (G6 h3)
  ·exact h1 v h3
 ·exact hc v (Hu h2)
theorem JdC (w:World)(g:Nat)(cs:LJ):(w.setRow g cs).os=w.os/\(w.setRow g cs).output=w.output/\(w.setRow g cs).tape=w.tape:=⟨rfl,rfl,rfl⟩
theorem good_put {s:Sem Next}{x:Own}{cells cs:LJ}{nx:Next}(hp:Pre E n0 m H w T a)(hk:H[k]? = some (.arr z els))(hx:m.own[k]? = some x)
  (hb:w.heap[x.B]? = some (.cells cells elem (0,0))) (hz:x.z=z) (Ak:s.run P w=.ok nx (w.setRow x.B cs)) (Dt:nx=.value r\/(nx=.skip/\r=undef)) (BP:cs.size=x.n) (Be:x.o+els'.length*x.z<=x.n)
  (OW:∀i,i<x.o->cs[i]? = cells[i]?) (AR:relO m.own m.imm x.z els' (λi=>cs[i]?) x.o) (Eo:∀(i:Nat) v,cs[i]? = some v->v.oneCell'=true) (hv:rel m.own m.imm v r):Good P E n0 m H w s v (H.set k (.arr z els')):=by
 refine⟨m,_,r,nx,Ak,Dt,Ext.put hk rfl hx (setRow_size _ _ _) (λB hB=>setRow_other w x.B B cs hB) (JdC _ _ _),?_,hv,KZ.refl _⟩;refine hp.sim.put hk rfl hx (setRow_size _ _ _) (λB hB=>setRow_other w x.B B cs hB) (λi hi=>?_) ⟨hz,cs,elem,setRow_heap w x.B cells cs elem (0,0) hb,BP,Be,AR,Eo⟩ (by intro s b h;cases h);rw[cell_setRow_same w x.B i cells cs elem (0,0) hb,OW i hi];simp[World.cell?,hb]
theorem snd_store{x y:Operand}{j:IArg}(ho:o.op=.store t x y)(hn:Jg6 P t=some n)(hx:JP x=some i)(hy:JP y=some j)(he:exec (.store n i j) T H=some (c,v,H'))(hc:c.holds)(hp:Pre E n0 m H w T a) :
  Good P E n0 m H w (execOp a.eval o) v H':=by
 have h1:=JZ hp.tmps hx;have h2:=JZ hp.tmps hy;simp only[exec]at he
 split at he
 ·rename_i id i' off l e el;rw[e]at h1;simp only[rel]at h1;obtain⟨x',Aw,hv⟩:=h1
  split at he
  ·rename_i z els hH
   split at he
   ·rename_i hl;simp only[Ga,Gb]at he;obtain⟨rfl,rfl,rfl⟩:=he;obtain⟨hz,cells,elem,hb,BP,Be,AR,Cx⟩:=hp.sim.obj id _ x' hH Aw;have hr:=JcU h2 el;obtain⟨vs,BI⟩:∃vs,(a.eval y).cells.toList=vs:=⟨_,rfl⟩;rw[BI]at hr;have Ad:=Ke hr;have Bl:=YG hr hl.2;have jZ:(a.eval y).cells.size=vs.length:=by rw[<-BI];simp
    simp only[Cond.holds]at hc;have Dc:i' < els.length:=om
    have Bf:els[i']? = some (els.getD i' []):=by simp[Gp,Gh Dc]
    have DJ:(els.getD i' []).length=x'.z:=(AR i' _ Bf).1;have Eh:(i' + 1)*x'.z<=els.length*x'.z:=Gj _ Dc;rw[Gd,Gs]at Eh;have Al:=run_storeCells_at P x'.B (x'.o+i' * x'.z+off) elem vs 0 cells w hb om Bl;refine good_put (r:=undef) (nx:=.skip) (cs:=(cells.toList.take (x'.o+i' * x'.z+off+0)++vs++cells.toList.drop (x'.o+i' * x'.z+off+0+vs.length)).toArray) hp hH Aw hb hz ?_ (.inr ⟨rfl,rfl⟩) ?_ (by simpa using Be) ?_ ?_ ?_ (by simp[rel])
    ·have RI:(a.eval y).cells.size=n:=om
     simp only[execOp,ho,Instr.storeAt,hv,Instr.sureAddr,storeVar,Sem.run_bind,Sem.run_pure,Result.andThen_ok,Jf1 hn,RI,ne_eq,not_true_eq_false,if_false,BI,Al]
    ·simp only[G7,Gn,Gl,G8,Gu];omega
    ·intro q hq;have e1:q<(cells.toList.take (x'.o+i' * x'.z+off+0)).length:=by simp only[Gl,Gu];omega
     have e2:q<x'.o+i' * x'.z+off+0:=om
     simp only[GM,Gz];rw[Gc e1,Gq e2,Hl]
    ·have:=spliced (l:=l) (off:=off) AR Dc om hr om;simpa using this
    ·exact Jb6 Cx Bl
   ·cases he
  ·cases he
 ·cases he
end
section
variable{c:Cond}{v:CV}{o:Oper}
theorem Jgs (off:Nat):∀(l:LH) (k:Nat) (cells:LJ),off+k+l.length<=cells.size->
  ((l.zipIdx k).foldl (λcs (p:Value×Nat)=>cs.setIfInBounds (off+p.2) p.1) cells).toList=cells.toList.take (off+k)++l++cells.toList.drop (off+k+l.length)
 |[],k,cells,_=>sM
 |v::l,k,cells,h=>by simp only[List.zipIdx_cons,List.foldl_cons];rw[Jgs off l (k+1) _ (by simp at h|-;omega)];simp only[Array.toList_setIfInBounds,G9];have:=list_seg_step cells.toList (off+k) v l (by simp at h|-;omega);rw[show off+(k+1)=off+k+1 by omega];rw[this]
theorem JeH{e l:Lu}{lv:LH}(h:J7 own imm e vs)(hl:J7 own imm l lv)(off:Nat):J7 own imm (splice e off l) (vs.take off++lv++vs.drop (off+lv.length)):=by have Ad:=Ke hl;simp only[splice,Gz];rw[Ad];exact Q9 (rels_take h _) (Q9 hl (rels_drop h _))
theorem fill_one{cells:LJ}{x:Value}(hx:x.cells.size=n)(Be:off+n<=cells.size) :
  (x.cells.zipIdx.foldl (λcs (c,j)=>cs.setIfInBounds (off+j) c) cells).toList=cells.toList.take off++x.cells.toList++cells.toList.drop (off+n):=by
 have:=Jgs off x.cells.toList 0 cells (by simp;omega);simp only[GV,Gu,hx]at this;rw[<-this];rw[<-Array.foldl_toList];simp
theorem Jgz{pf:Nat->Option (Nat×Nat)}(cZ:∀i,places[i]? = pf i)(hT:J7 own imm T a.tmps.toList):∀(ps:List (Nat×Operand)) (l:List (Nat×Nat×IArg)) (cs out:Lu) (vs:LJ),
  partsOf places ps=some l->XR T cs l=some out->J7 own imm cs vs.toList->
  ∃vs',Instr.fill pf vs (ps.map λp=>(p.1,a.eval p.2))=some vs'/\J7 own imm out vs'.toList
 |[],l,cs,out,vs,hl,hf,hr=>by simp[partsOf]at hl;subst hl;simp[XR]at hf;subst hf;exact⟨vs,by simp[Instr.fill],hr⟩
 |(i,x)::ps,l,cs,out,vs,hl,hf,hr=>by
  simp only[partsOf]at hl
  split at hl
  ·rename_i off n ia l' h1 h2 h3
   cases hl
   simp only[XR]at hf
   split at hf
   ·cases hf
   ·rename_i lc DV
    split at hf
    ·rename_i Ad;have hx:=JcU (JZ hT h2) DV;have Br:=Ke hx;have I5:=Ke hr;have FW:(a.eval x).cells.size=n:=by have:=Ad.1;simp at Br;omega
     have Be:off+n<=vs.size:=by have:=Ad.2;simp at I5;omega
     have hs:=JeH hr hx off;simp only[Gu,FW]at hs;rw[<-fill_one FW Be]at hs;obtain⟨vs',hv,Pw⟩:=Jgz cZ hT ps l' _ out _ h3 hf hs;refine⟨vs',?_,Pw⟩;simp only[Hd,Instr.fill];rw[<-cZ i,h1];simp only[FW,ne_eq,not_true_eq_false,decide_false,H9,decide_eq_true_eq];rw[iN7];exact hv
    ·cases hf
  ·cases hl
theorem run_places (w:World):∀(fs:List Field) (l:List (Nat×Nat)),Jdb P fs=some l->(fs.mapM (λf=>do pure (f.offset,<-sizeOf f.type)):Sem (List (Nat×Nat))).run P w=.ok l w
 |[],l,h=>by simp[Jdb]at h;subst h;simp
 |f::fs,l,h=>by
  simp only[Jdb]at h
  split at h
  ·rename_i n l' h1 h2
   cases h
   have ih:=run_places w fs l' h2;simp only[HV,Sem.run_bind,Jf1 h1,Result.andThen_ok,Sem.run_pure];rw[ih];rfl
  ·cases h
theorem snd_build{z:Lu}{fs:Array Field}{l:List (Nat×Nat×IArg)}(ho:o.op=.build t ps)(hz:zeroOf P t=some z)(hu:P.underlying t=some (.struct fs))(MB:Jdb P fs.toList=some places)(hl:partsOf places ps.toList=some l)
  (he:exec (.build z l) T H=some (c,v,H')) (hp:Pre E n0 m H w T a):Good P E n0 m H w (execOp a.eval o) v H':=by
 simp only[exec]at he
 split at he
 ·rename_i out A7;simp only[Ga,Gb]at he;obtain⟨_,rfl,rfl⟩:=he;obtain⟨i,zv,_,_,Ak,hrel,Ad,_⟩:=JbC (w:=w) hz;obtain⟨vs',hv,hr⟩:=Jgz (places:=places) (pf:=λi=>places.toArray[i]?) (λi=>by simp) hp.tmps ps.toList l z out zv.cells hl A7 (hrel _ _);refine JE (r:=.agg vs') hp.sim ?_ (by simp only[rel];exact⟨vs',rfl,hr⟩);have hm:=run_places w fs.toList places MB;have dh:(fs.mapM (λf=>do pure (f.offset,<-sizeOf f.type)):Sem (Array (Nat×Nat))).run P w=.ok places.toArray w:=by
   have e:fs=fs.toList.toArray:=sM
   rw[e,Hy,Sem.run_map,hm];rfl
  have Ez:(ps.map (λ(p:Nat×Operand)=>(p.1,a.eval p.2))).toList=ps.toList.map λp=>(p.1,a.eval p.2):=sM
  simp only[execOp,ho,Instr.build,Sem.run_bind,Ak,Result.andThen_ok,run_underlying hu,dh,Ez,hv,Sem.run_pure]
 ·cases he
theorem binI_sound{k:IntKind}{x y:Int}{v:CV}(h:binI op k x y=some (c,v))(hc:c.holds):∃r,(∀own imm,rel own imm v r)/\∀w,(binOp op t (.int k x) (.int k y)).run P w=.ok r w:=by
 unfold binI at h
 split at h <;> (try cases h) <;> simp only[Cond.holds]at hc
 ·exact⟨_,λ_ _=>rfl,λw=>by simp[binOp,Op.intArith,hc.wrap]⟩
 ·exact⟨_,λ_ _=>rfl,λw=>by simp[binOp,Op.intArith,hc.wrap]⟩
 ·exact⟨_,λ_ _=>rfl,λw=>by simp[binOp,Op.intArith,hc.wrap]⟩
 ·exact⟨_,λ_ _=>rfl,λw=>by simp[binOp,Op.intDiv,hc.1,hc.2.wrap]⟩
 ·exact⟨_,λ_ _=>rfl,λw=>by simp[binOp,Op.intDiv,hc]⟩
 ·exact⟨_,λ_ _=>rfl,λw=>by simp[binOp,Op.intCmp]⟩
 ·exact⟨_,λ_ _=>rfl,λw=>by simp[binOp,Op.intCmp]⟩
 ·exact⟨_,λ_ _=>rfl,λw=>by simp[binOp,Op.intCmp]⟩
 ·exact⟨_,λ_ _=>rfl,λw=>by simp[binOp,Op.intCmp]⟩
 ·exact⟨_,λ_ _=>rfl,λw=>by simp[binOp,Op.intCmp]⟩
 ·exact⟨_,λ_ _=>rfl,λw=>by simp[binOp,Op.intCmp]⟩
 ·exact⟨_,λ_ _=>rfl,λw=>by simp[binOp,Op.intBits]⟩
 ·exact⟨_,λ_ _=>rfl,λw=>by simp[binOp,Op.intBits]⟩
 ·exact⟨_,λ_ _=>rfl,λw=>by simp[binOp,Op.intBits]⟩
 ·exact⟨_,λ_ _=>rfl,λw=>by simp[binOp,Op.shift,GZ.2 hc]⟩
 ·exact⟨_,λ_ _=>rfl,λw=>by simp[binOp,Op.shift,GZ.2 hc]⟩
theorem binK_sound{k k':IntKind}{x y:Int}{v:CV}(h:binK op k k' x y=some (c,v))(hc:c.holds):∃r,(∀own imm,rel own imm v r)/\∀w,(binOp op t (.int k x) (.int k' y)).run P w=.ok r w:=by
 unfold binK at h
 split at h
 ·rename_i hk;subst hk;exact binI_sound h hc
 ·split at h
  ·simp only[binI,Ga,Gb]at h;obtain⟨rfl,rfl⟩:=h;simp only[Cond.holds]at hc;exact⟨_,λ_ _=>rfl,λw=>by simp[binOp,Op.shift,GZ.2 hc]⟩
  ·simp only[binI,Ga,Gb]at h;obtain⟨rfl,rfl⟩:=h;simp only[Cond.holds]at hc;exact⟨_,λ_ _=>rfl,λw=>by simp[binOp,Op.shift,GZ.2 hc]⟩
  ·cases h
theorem binS_sound{x y:ByteArray}{v:CV}(h:binS op x y=some (c,v))(hc:c.holds):∃r,(∀own imm,rel own imm v r)/\∀w,(binOp op t (.string x) (.string y)).run P w=.ok r w:=by
 unfold binS at h
 split at h <;> (try cases h) <;> simp only[Cond.holds]at hc
 ·refine⟨_,λ_ _=>rfl,λw=>?_⟩;have:¬(IntKind.i64.max<(x.size:Int)+y.size):=by simp[IntKind.max,IntKind.signed,IntKind.bits];omega
  simp[binOp,Op.stringOp];omega
 all_goals exact⟨_,λ_ _=>rfl,λw=>by simp[binOp,Op.stringOp]⟩
end
section
variable{c:Cond}{v:CV}{o:Oper}
theorem JcO (op:BinOp)(t:TypeId)(x y:Operand)(u v:Value)(w:World)(h:∀cs ds,¬(u=.agg cs/\v=.agg ds))(h':¬(u=.nilIface/\v=.nilIface)):(eqGuard op t x y u v).run P w=.ok () w:=by
 unfold eqGuard
 cases op <;> simp only[Bool.not_true,Bool.not_false,GA,if_false,if_true] <;> (try rfl) <;>
  (cases u <;> cases v <;> (try rfl) <;> first|(exfalso;exact h _ _ ⟨rfl,rfl⟩)|(exfalso;exact h' ⟨rfl,rfl⟩))
theorem eqv{b:Bool}{v:CV}{z z':Value}(he:∀n w,(Op.equalIn (n+1) t z z').run P w=.ok b w)(IM:(JbS op b).map (λv=>(Cond.tt,v))=some (c,v))
  (h1:binOp .eql t z z'=do pure (.bool (<-Op.equal t z z'))) (h2:binOp .neq t z z'=do pure (.bool (!(<-Op.equal t z z'))))
  (h3:∀cs ds,¬(z=.agg cs/\z'=.agg ds)) (h4:¬(z=.nilIface/\z'=.nilIface)):∃r,rel own imm v r/\(∀cs ds,¬(z=.agg cs/\z'=.agg ds))/\¬(z=.nilIface/\z'=.nilIface)/\∀w,(binOp op t z z').run P w=.ok r w:=by
 have Ak:∀w,(Op.equal t z z').run P w=.ok b w:=λw=>he 9999 w
 cases op <;> simp[JbS]at IM
 ·obtain⟨_,rfl⟩:=IM;exact⟨.bool b,rfl,h3,h4,λw=>by rw[h1];simp[Ak w]⟩
 ·obtain⟨_,rfl⟩:=IM;exact⟨.bool !b,rfl,h3,h4,λw=>by rw[h2];simp[Ak w]⟩
theorem XJ {d:TypeDesc}(h:XX d=.slice):∃e,d=.slice e:=by cases d <;> simp[XX]at h;exact⟨_,rfl⟩
theorem tk_ptr {d:TypeDesc}(h:XX d=.ptr):∃e,d=.pointer e:=by cases d <;> simp[XX]at h;exact⟨_,rfl⟩
theorem tk_bool {d:TypeDesc}(h:XX d=.bool):d=.bool:=by cases d <;> simp[XX]at h;rfl
theorem exBin_sound{d:TypeDesc}{x y v:CV}{u:Value}(hd:P.underlying t=some d)(h:exBin op (XX d) x y=some (c,v))(hc:c.holds)(hx:rel own imm x u)(hy:rel own imm y u') :
  ∃r,rel own imm v r/\(∀cs ds,¬(u=.agg cs/\u'=.agg ds))/\¬(u=.nilIface/\u'=.nilIface)/\∀w,(binOp op t u u').run P w=.ok r w:=by
 unfold exBin at h
 split at h <;> (try split at h) <;> (try cases h;done)
 ·simp only[rel]at hx hy;subst hx;subst hy;obtain⟨r,h1,h2⟩:=binK_sound (t:=t) (P:=P) h hc;exact⟨r,h1 _ _,sM,sM,h2⟩
 ·simp only[rel]at hx hy;subst hx;subst hy;obtain⟨r,h1,h2⟩:=binS_sound (t:=t) (P:=P) h hc;exact⟨r,h1 _ _,sM,sM,h2⟩
 ·simp only[rel]at hx hy;subst hx;subst hy;rename_i hk;obtain rfl:=tk_bool hk;exact eqv (λn w=>by simp only[Op.equalIn,Sem.run_bind,run_underlying hd,Result.andThen_ok];rfl) h rfl rfl sM sM
 ·simp only[rel]at hx hy;subst hx;subst hy;obtain⟨e,rfl⟩:=XJ ‹XX d=_›;exact eqv (λn w=>by simp only[Op.equalIn,Sem.run_bind,run_underlying hd,Result.andThen_ok];rfl) h rfl rfl sM sM
 ·simp only[rel]at hx hy;obtain⟨x1,a1,c1,_,rfl,_⟩:=hy;subst hx;obtain⟨e,rfl⟩:=XJ ‹XX d=_›;exact eqv (λn w=>by simp only[Op.equalIn,Sem.run_bind,run_underlying hd,Result.andThen_ok];rfl) h rfl rfl sM sM
 ·simp only[rel]at hx hy;obtain⟨x1,a1,c1,rfl,_⟩:=hy.resolve_left (by rintro⟨_,h,_⟩;cases h);subst hx;obtain⟨e,rfl⟩:=XJ ‹XX d=_›;exact eqv (λn w=>by simp only[Op.equalIn,Sem.run_bind,run_underlying hd,Result.andThen_ok];rfl) h rfl rfl sM sM
 ·simp only[rel]at hx hy;obtain⟨x1,a1,c1,_,rfl,_⟩:=hx;subst hy;obtain⟨e,rfl⟩:=XJ ‹XX d=_›;exact eqv (λn w=>by simp only[Op.equalIn,Sem.run_bind,run_underlying hd,Result.andThen_ok];rfl) h rfl rfl sM sM
 ·simp only[rel]at hx hy;obtain⟨x1,a1,c1,rfl,_⟩:=hx.resolve_left (by rintro⟨_,h,_⟩;cases h);subst hy;obtain⟨e,rfl⟩:=XJ ‹XX d=_›;exact eqv (λn w=>by simp only[Op.equalIn,Sem.run_bind,run_underlying hd,Result.andThen_ok];rfl) h rfl rfl sM sM
 ·simp only[rel]at hx hy;obtain⟨x1,a1,c1,rfl,_⟩:=hy.resolve_left (by rintro⟨_,h,_⟩;cases h);subst hx;obtain⟨e,rfl⟩:=XJ ‹XX d=_›;exact eqv (λn w=>by simp only[Op.equalIn,Sem.run_bind,run_underlying hd,Result.andThen_ok];rfl) h rfl rfl sM sM
 ·simp only[rel]at hx hy;obtain⟨x1,a1,c1,rfl,_⟩:=hx.resolve_left (by rintro⟨_,h,_⟩;cases h);subst hy;obtain⟨e,rfl⟩:=XJ ‹XX d=_›;exact eqv (λn w=>by simp only[Op.equalIn,Sem.run_bind,run_underlying hd,Result.andThen_ok];rfl) h rfl rfl sM sM
 ·simp only[rel]at hx hy;subst hx;subst hy;obtain⟨e,rfl⟩:=tk_ptr ‹XX d=_›;exact eqv (λn w=>by simp only[Op.equalIn,Sem.run_bind,run_underlying hd,Result.andThen_ok];rfl) h rfl rfl sM sM
 ·simp only[rel]at hx hy;obtain⟨x1,_,rfl⟩:=hy;subst hx;obtain⟨e,rfl⟩:=tk_ptr ‹XX d=_›;exact eqv (λn w=>by simp only[Op.equalIn,Sem.run_bind,run_underlying hd,Result.andThen_ok];rfl) h rfl rfl sM sM
 ·simp only[rel]at hx hy;obtain⟨B,o1,rfl,_⟩:=hy;subst hx;obtain⟨e,rfl⟩:=tk_ptr ‹XX d=_›;exact eqv (λn w=>by simp only[Op.equalIn,Sem.run_bind,run_underlying hd,Result.andThen_ok];rfl) h rfl rfl sM sM
 ·simp only[rel]at hx hy;obtain⟨x1,_,rfl⟩:=hx;subst hy;obtain⟨e,rfl⟩:=tk_ptr ‹XX d=_›;exact eqv (λn w=>by simp only[Op.equalIn,Sem.run_bind,run_underlying hd,Result.andThen_ok];rfl) h rfl rfl sM sM
 ·simp only[rel]at hx hy;obtain⟨B,o1,rfl,_⟩:=hx;subst hy;obtain⟨e,rfl⟩:=tk_ptr ‹XX d=_›;exact eqv (λn w=>by simp only[Op.equalIn,Sem.run_bind,run_underlying hd,Result.andThen_ok];rfl) h rfl rfl sM sM
theorem snd_bin{d:TypeDesc}{x y:Operand}{j:IArg}(ho:o.op=.binOp op t x y ty)(hd:P.underlying t=some d)(hx:JP x=some i)(hy:JP y=some j)(he:exec (.bin op (XX d) i j) T H=some (c,v,H'))(hc:c.holds)(hp:Pre E n0 m H w T a) :
  Good P E n0 m H w (execOp a.eval o) v H':=by
 simp only[exec]at he
 split at he
 ·rename_i c' v' hb;simp only[Ga,Gb]at he;obtain⟨rfl,rfl,rfl⟩:=he;obtain⟨r,hr,h1,h2,Ak⟩:=exBin_sound hd hb hc (JZ hp.tmps hx) (JZ hp.tmps hy);refine JE (r:=r) hp.sim ?_ hr;simp only[execOp,ho,Sem.run_bind,JcO op t x y _ _ w h1 h2,Result.andThen_ok,Ak w,Sem.run_pure]
 ·cases he
theorem Jgk{tk:TK}{x y:CV}{u:Value}{b:Bool}(h:JaX tk x y=some b)(hx:rel own imm x u)(hy:rel own imm y u') :
  (tk=.int/\∃k p q,u=.int k p/\u'=.int k q/\b=(p == q))\/(tk=.str/\∃p q,u=.string p/\u'=.string q/\b=(p == q))\/(tk=.bool/\∃p q,u=.bool p/\u'=.bool q/\b=(p == q)):=by
 unfold JaX at h
 split at h
 ·split at h
  ·split at h
   ·rename_i hk;subst hk;simp only[rel]at hx hy
    cases h
    exact .inl ⟨rfl,_,_,_,hx,hy,rfl⟩
   ·cases h
  ·cases h
 ·split at h
  ·simp only[rel]at hx hy
   cases h
   exact .inr (.inl ⟨rfl,_,_,hx,hy,rfl⟩)
  ·cases h
 ·split at h
  ·simp only[rel]at hx hy
   cases h
   exact .inr (.inr ⟨rfl,_,_,hx,hy,rfl⟩)
  ·cases h
 ·cases h
end
section
variable{c:Cond}{v:CV}{o:Oper}
end
section
variable{c:Cond}{v:CV}{o:Oper}
theorem snd_not{x:Operand}(ho:o.op=.unOp .not t x)(hx:JP x=some i)(he:exec (.not i) T H=some (c,v,H'))(hp:Pre E n0 m H w T a):Good P E n0 m H w (execOp a.eval o) v H':=by
 have h1:=JZ hp.tmps hx;simp only[exec]at he
 split at he
 ·rename_i b e;rw[e]at h1;simp only[rel]at h1;simp only[Ga,Gb]at he;obtain⟨_,rfl,rfl⟩:=he;exact JE (r:=.bool !b) hp.sim (by simp[execOp,ho,h1,Op.unary]) rfl
 ·cases he
theorem snd_neg{x:Operand}(ho:o.op=.unOp .neg t x)(hx:JP x=some i)(he:exec (.neg i) T H=some (c,v,H'))(hc:c.holds)(hp:Pre E n0 m H w T a):Good P E n0 m H w (execOp a.eval o) v H':=by
 have h1:=JZ hp.tmps hx;simp only[exec]at he
 split at he
 ·rename_i k n e;rw[e]at h1;simp only[rel]at h1;simp only[Ga,Gb]at he;obtain⟨rfl,rfl,rfl⟩:=he;have:k.wrap (0-n)=0-n:=InR.wrap hc;exact JE (r:=.int k (0-n)) hp.sim (by simp only[execOp,ho,h1,Op.unary,Op.intArith,this,Sem.run_bind,Sem.run_pure,Result.andThen_ok]) rfl
 ·cases he
theorem snd_conv {s d:TypeId}{k k':IntKind}{x:Operand}(ho:o.op=.convert s d x)(hs:P.underlying s=some (.int k'))(hd:P.underlying d=some (.int k))(hx:JP x=some i)(he:exec (.conv k i) T H=some (c,v,H'))(hc:c.holds)(hp:Pre E n0 m H w T a) :
  Good P E n0 m H w (execOp a.eval o) v H':=by
 have h1:=JZ hp.tmps hx;simp only[exec]at he
 split at he
 ·rename_i k2 n e;rw[e]at h1;simp only[rel]at h1;simp only[Ga,Gb]at he;obtain⟨rfl,rfl,rfl⟩:=he;have:k.wrap n=n:=InR.wrap hc;exact JE (r:=.int k n) hp.sim (by simp only[execOp,ho,h1,convert,run_underlying hs,run_underlying hd,Conv.intToInt,this,Sem.run_bind,Sem.run_pure,Result.andThen_ok]) rfl
 ·cases he
theorem snd_mkfn{l1 l2:Array Operand}{i j:LP}(ho:o.op=.makeFunc (.func f) l1 l2)(hx:JaV l1.toList=some i)(hy:JaV l2.toList=some j)(he:exec (.mkfn f i j) T H=some (c,v,H'))(hp:Pre E n0 m H w T a):Good P E n0 m H w (execOp a.eval o) v H':=by simp only[exec,Ga,Gb]at he;obtain⟨_,rfl,rfl⟩:=he;refine JE (r:=.func (.func f) (l1.map a.eval) (l2.map a.eval)) hp.sim (by simp[execOp,ho,Instr.makeFunc]) ?_;simp only[rel];exact⟨_,_,rfl,by simpa using JbP hp.tmps hx,by simpa using JbP hp.tmps hy⟩
theorem snd_faddr{fs:Array Field}{fd:Field}{x:Operand}(ho:o.op=.fieldAddr t x f)(hd:P.underlying t=some (.struct fs))(hf:fs[f]? = some fd)(hn:Jg6 P fd.type=some n)(Ij:n≠0)(hx:JP x=some i)(he:exec (.faddr fd.offset i) T H=some (c,v,H'))(hc:c.holds)(hp:Pre E n0 m H w T a) :
  Good P E n0 m H w (execOp a.eval o) v H':=by
 have h1:=JZ hp.tmps hx;have Ak:∀B q,a.eval x=.pointer (some ⟨B,q,none⟩)->(execOp a.eval o).run P w=.ok (.value (.pointer (some ⟨B,q+fd.offset,none⟩))) w:=by intro B q hq;simp only[execOp,ho,Instr.fieldAt,Sem.run_bind,run_underlying hd,Result.andThen_ok,hf,hq,Instr.sureAddr,fieldPlace,Jf1 hn,Sem.run_ite,Ij,if_false,Sem.run_pure,addr_add]
 simp only[exec]at he
 split at he
 ·rename_i id i' off e;rw[e]at h1;simp only[rel]at h1;obtain⟨x',Aw,hv⟩:=h1;simp only[Ga,Gb]at he;obtain⟨_,rfl,rfl⟩:=he;refine JE hp.sim (Ak _ _ hv) ?_;simp only[rel];exact⟨x',Aw,by rw[GU]⟩
 ·rename_i cs e;rw[e]at h1;simp only[rel]at h1;obtain⟨B,q,hv,hat⟩:=h1;simp only[Ga,Gb]at he;obtain⟨rfl,rfl,rfl⟩:=he;refine JE hp.sim (Ak _ _ hv) ?_;simp only[rel];refine⟨B,q+fd.offset,rfl,?_⟩;rw[Jap]at hat|-;intro t' c' C8;rw[Gr]at C8;have:=hat _ _ C8;rw[GU];exact this
 ·cases he
theorem run_indexAt{e:TypeId}{x i:Operand}{ba:Addr}{len:Nat}{k:IntKind}{n:Int}(ho:o.op=.indexAddr t x i)(hd:P.underlying t=some (.slice e))(hz:Jg6 P e=some z)(hx:a.eval x=.slice (some ba) len cap)(hi:a.eval i=.int k n)(h0:0<=n)(h1:n<len) :
  (execOp a.eval o).run P w=.ok (.value (.pointer (some (ba.add (n.toNat*z))))) w:=by
 simp only[execOp,ho,Instr.indexAt,asIntOf,hx,hi,Sem.run_bind,Sem.run_pure,run_underlying hd,Result.andThen_ok,h0,h1,and_self,if_true,Jf1 hz]
theorem snd_iaddr{e:TypeId}{x i:Operand}(ho:o.op=.indexAddr t x i)(hd:P.underlying t=some (.slice e))(hz:Jg6 P e=some z)(hx:JP x=some ix)(hi:JP i=some ii)(he:exec (.iaddr z ix ii) T H=some (c,v,H'))(hc:c.holds)(hp:Pre E n0 m H w T a) :
  Good P E n0 m H w (execOp a.eval o) v H':=by
 have h1:=JZ hp.tmps hx;have h2:=JZ hp.tmps hi;simp only[exec]at he
 split at he
 ·rename_i id off len cap k n e1 e2;rw[e1]at h1;rw[e2]at h2;simp only[rel]at h1 h2;obtain⟨x',ba,rc,Aw,hv,DV,_,Mi,Be⟩:=h1
  split at he
  ·rename_i z' els hH
   split at he
   ·rename_i EQ;subst EQ;simp only[Ga,Gb]at he;obtain⟨rfl,rfl,rfl⟩:=he;obtain⟨Oi,Mc⟩:=hc;have Oz:x'.z=z':=(hp.sim.obj id _ x' hH Aw).1;refine JE hp.sim (run_indexAt ho hd hz hv h2 Oi Mc) ?_;have hb:=Mi om;subst hb;rw[addr_add];simp only[rel];exact⟨x',Aw,by rw[Oz,Gd];simp[GU]⟩
   ·cases he
  ·cases he
 ·rename_i z' els cap k n e1 e2;rw[e1]at h1;rw[e2]at h2;simp only[rel]at h1 h2
  split at he
  ·rename_i EQ;subst EQ;simp only[Ga,Gb]at he;obtain⟨rfl,rfl,rfl⟩:=he;obtain⟨Oi,Mc⟩:=hc;rcases h1 with ⟨_,rfl,_⟩|⟨B,q,rc,hv,DV,_,AR⟩
   ·simp at Mc;omega
   refine JE hp.sim (run_indexAt ho hd hz hv h2 Oi Mc) ?_;rw[addr_add];simp only[rel];refine⟨B,q+n.toNat*z',rfl,?_⟩;rw[Jap];have Ab:n.toNat<els.length:=om
   have Bf:els[n.toNat]? = some (els.getD n.toNat []):=by simp[Gp,Gh Ab]
   exact((Qs _ _).1 AR _ _ Bf).2
  ·cases he
 ·cases he
theorem snd_indexS{x i:Operand}(ho:o.op=.index t x i)(hd:P.underlying t=some .string)(hx:JP x=some ix)(hi:JP i=some ii)(he:exec (.indexS ix ii) T H=some (c,v,H'))(hc:c.holds)(hp:Pre E n0 m H w T a) :
  Good P E n0 m H w (execOp a.eval o) v H':=by
 have h1:=JZ hp.tmps hx;have h2:=JZ hp.tmps hi;simp only[exec]at he
 split at he
 ·rename_i s k n e1 e2;rw[e1]at h1;rw[e2]at h2;simp only[rel]at h1 h2;simp only[Ga,Gb]at he;obtain⟨rfl,rfl,rfl⟩:=he;obtain⟨Oi,Mc⟩:=hc;have Ab:n.toNat<s.size:=om
  refine JE (r:=.int .u8 ((s.data.getD n.toNat 0).toNat:Int)) hp.sim ?_ rfl;have:s[n.toNat]? = some (s.data.getD n.toNat 0):=by rw[getElem?_pos s n.toNat Ab];have h3:n.toNat<s.data.size:=Ab;simp only[Array.getD,h3,dif_pos];rfl
  simp only[execOp,ho,Instr.index,h1,h2,asIntOf,Sem.run_bind,Sem.run_pure,run_underlying hd,Result.andThen_ok,Oi,if_true,this]
 ·cases he
theorem snd_extract {x:Operand}(ho:o.op=.extract x k)(hx:JP x=some i)(he:exec (.extract i k) T H=some (c,v,H'))(hp:Pre E n0 m H w T a):Good P E n0 m H w (execOp a.eval o) v H':=by
 have h1:=JZ hp.tmps hx;simp only[exec]at he
 split at he
 ·rename_i l e;rw[e]at h1;simp only[rel]at h1;obtain⟨vs,BI,hr⟩:=h1
  split at he
  ·rename_i Ab;simp only[Ga,Gb]at he;obtain⟨_,rfl,rfl⟩:=he;obtain⟨r,CB,CJ⟩:=Yv hr (Gh Ab);have h3:vs[k]? = some r:=by simpa using CB
   refine JE (r:=r) hp.sim (by simp[execOp,ho,BI,Instr.extract,h3]) ?_;have:l.getD k .un=l[k]:=by simp only[Gp,Gh Ab,GX]
   rw[this];exact CJ
  ·cases he
 ·cases he
theorem snd_mkmap(ho:o.op=.makeMap t none)(he:exec .mkmap T H=some (c,v,H'))(hp:Pre E n0 m H w T a):Good P E n0 m H w (execOp a.eval o) v H':=by
 simp only[exec,Ga,Gb]at he;obtain⟨_,rfl,rfl⟩:=he;refine Jgr (ob:=.map #[] 0) (x:=⟨w.heap.size,0,0,0⟩) (o:=.map []) (r:=.map (some w.heap.size)) hp.sim (by simp[execOp,ho,Instr.makeMap]) rfl (λ_=>?_) (by intro s b h;cases h) ?_
 ·exact⟨#[],0,heap_alloc_new w _,rfl,λi k v e h=>by simp at h⟩
 ·simp only[rel];exact⟨_,JeV hp.sim _,rfl⟩
theorem Yi{d:TypeDesc}{k:CV}{kv:Value}(hk:rel own imm k kv):∀(kvs:List (CV×CV)) (es:List MapEntry) (i:Nat) (r:Option (Nat×CV)),kvs.length=es.length->(∀(j:Nat) k' v' e,kvs[j]? = some (k',v')->es[j]? = some e->rel own imm k' e.key/\rel own imm v' e.val)->QZ (XX d) k kvs i=some r->
  match r with
  |none=>Instr.findNow d kv es i=some none
  |some (j,v')=>∃v,Instr.findNow d kv es i=some (some (j,v))/\rel own imm v' v/\i<=j/\j-i<kvs.length/\∃e,es[j-i]? = some e/\(∃k'',JaX (XX d) k k''=some true/\rel own imm k'' e.key)
 |[],es,i,r,hl,h,hf=>by
  simp[QZ]at hf;subst hf
  cases es with
  |nil=>simp[Instr.findNow]
  |cons _ _=>simp at hl
 |(k',v')::kvs,[],i,r,hl,h,hf=>by simp at hl
 |(k',v')::kvs,e::es,i,r,hl,h,hf=>by
  have h0:=h 0 k' v' e rfl rfl;have BH:∀b,JaX (XX d) k k'=some b->Instr.sameNow d kv e.key=some b:=by
   intro b hb;rcases Jgk hb hk h0.1 with ⟨hd,j,p,q,hp,hq,rfl⟩|⟨hd,p,q,hp,hq,rfl⟩|⟨hd,p,q,hp,hq,rfl⟩
   ·rw[hp,hq];cases d <;> simp[XX]at hd;simp[Instr.sameNow]
   ·rw[hp,hq];cases d <;> simp[XX]at hd;simp[Instr.sameNow]
   ·rw[hp,hq];cases d <;> simp[XX]at hd;simp[Instr.sameNow]
  simp only[QZ]at hf
  split at hf
  ·rename_i hb
   cases hf
   refine⟨e.val,by simp[Instr.findNow,BH _ hb],h0.2,Gg _,sM,e,sM,k',hb,h0.1⟩
  ·rename_i hb;have ih:=Yi hk kvs es (i+1) r (by simpa using hl) (λj k1 v1 e1 a1 a2=>h (j+1) k1 v1 e1 (by simpa using a1) (by simpa using a2)) hf
   cases r with
   |none=>simpa [Instr.findNow,BH _ hb]using ih
   |some p=>obtain⟨j,v1⟩:=p;obtain⟨v,h1,h2,h3,h4,e1,h5,h6⟩:=ih;refine⟨v,by simpa [Instr.findNow,BH _ hb]using h1,h2,om,by simp;omega,e1,?_,h6⟩;rw[show j-i=j-(i+1)+1 by omega];simpa using h5
  ·cases hf
theorem Xe {empty:Bool}{d:TypeDesc}{k:Value}(hd:P.underlying t=some d)(hk:XX d=.int\/XX d=.str\/XX d=.bool):(Instr.checkKey empty 10000 t k).run P w=.ok () w:=by
 rw[show (10000:Nat)=9999+1 from rfl,Instr.checkKey];simp only[Sem.run_bind,run_underlying hd,Result.andThen_ok]
 cases d <;> simp[XX]at hk <;> rfl
theorem snd_lookup{e:TypeId}{d:TypeDesc}{z:CV}{ok:Bool}{mo:Operand}(ho:o.op=.lookup t mo ko ok)(hu:P.underlying t=some (.map kt e))(hd:P.underlying kt=some d)(hz:zeroVal P e=some z)(hm:JP mo=some im)(hk:JP ko=some ik)
  (Cg:XX d=.int\/XX d=.str\/XX d=.bool) (he:exec (.lookup (XX d) z ok im ik) T H=some (c,v,H')) (hp:Pre E n0 m H w T a):Good P E n0 m H w (execOp a.eval o) v H':=by
 have h1:=JZ hp.tmps hm;have h2:=JZ hp.tmps hk;obtain⟨zv,bW,MX⟩:∃zv,(zeroValue e).run P w=.ok zv w/\rel m.own m.imm z zv:=by
  unfold zeroVal at hz
  cases hi:P.info? e with
  |none=>simp[hi]at hz
  |some i=>
   simp only[hi]at hz
   cases Ev:i.zero with
   |none=>simp[Ev]at hz
   |some zv=>simp only[Ev]at hz;exact⟨zv,by simp[zeroValue,typeInfo,hi,Ev],ofVal_rel _ _ hz⟩
 have fin:∀(cv:CV) (u:Value) (b:Bool),rel m.own m.imm cv u->rel m.own m.imm (if ok=true then CV.tup [cv,.bool b] else cv) (if ok=true then Value.tuple #[u,.bool b] else u):=by
  intro cv u b hr
  cases ok with
  |true=>simp only[if_true,rel];exact⟨_,rfl,by simp only[J7];exact⟨_,_,rfl,hr,_,_,rfl,rfl,rfl⟩⟩
  |false=>simpa using hr
 simp only[exec]at he
 split at he
 ·split at he
  ·rename_i e1;rw[e1]at h1;simp only[rel]at h1;simp only[Ga,Gb]at he;obtain⟨_,rfl,rfl⟩:=he;refine JE hp.sim ?_ (fin z zv false MX);simp only[execOp,ho,Instr.lookup,h1,Sem.run_bind,run_underlying hu,Result.andThen_ok,Sem.run_pure,Xe hd Cg,Instr.findKey,run_underlying hd,Instr.findNow,bW]
  ·rename_i id e1;rw[e1]at h1;simp only[rel]at h1;obtain⟨x',Aw,hv⟩:=h1
   split at he
   ·rename_i kvs hH;obtain⟨es,clock,hb,Ad,DX⟩:=hp.sim.obj id _ x' hH Aw;have Bf:(getObj x'.B).run P w=.ok (.map es clock) w:=by simp[getObj,Sem.run,hb]
    split at he
    ·rename_i j v' hf;have:=Yi (d:=d) h2 kvs es.toList 0 _ (by simpa using Ad) (λj k1 v1 e1 a1 a2=>DX j k1 v1 e1 a1 (by simpa using a2)) hf;obtain⟨u,aL,hr,_⟩:=this;simp only[Ga,Gb]at he;obtain⟨_,rfl,rfl⟩:=he;refine JE hp.sim ?_ (fin v' u true hr);simp only[execOp,ho,Instr.lookup,hv,Sem.run_bind,run_underlying hu,Result.andThen_ok,Sem.run_pure,Bf,Xe hd Cg,Instr.findKey,run_underlying hd,aL]
    ·rename_i hf;have:=Yi (d:=d) h2 kvs es.toList 0 _ (by simpa using Ad) (λj k1 v1 e1 a1 a2=>DX j k1 v1 e1 a1 (by simpa using a2)) hf;simp only at this;simp only[Ga,Gb]at he;obtain⟨_,rfl,rfl⟩:=he;refine JE hp.sim ?_ (fin z zv false MX);simp only[execOp,ho,Instr.lookup,hv,Sem.run_bind,run_underlying hu,Result.andThen_ok,Sem.run_pure,Bf,Xe hd Cg,Instr.findKey,run_underlying hd,this,bW]
    ·cases he
   ·cases he
  ·cases he
 ·cases he
theorem JfX {r:Nat}{cl:Nat}(h:w.heap[r]? = some (.map es cl)):(setObj r ob).run P w=.ok () (w.putObj r ob):=by simp[setObj,Sem.run,h,World.putObj]
theorem good_map {s:Sem Next}{kvs kvs':List (CV×CV)}{x:Own}{es':Array MapEntry}{cl cl':Nat}(hp:Pre E n0 m H w T a)(hk:H[k]? = some (.map kvs))(hx:m.own[k]? = some x)(hb:w.heap[x.B]? = some (.map es cl))(Ak:s.run P w=.ok .skip (w.putObj x.B (.map es' cl')))
  (Ad:kvs'.length=es'.size) (DX:∀(i:Nat) k v e,kvs'[i]? = some (k,v)->es'[i]? = some e->rel m.own m.imm k e.key/\rel m.own m.imm v e.val):Good P E n0 m H w s .un (H.set k (.map kvs')):=by
 have Ab:x.B<w.heap.size:=(GJ.1 hb).1;refine⟨m,_,undef,.skip,Ak,.inr ⟨rfl,rfl⟩,Ext.put hk rfl hx World.putObj_size (λB hB=>World.putObj_heap_other hB) ⟨rfl,rfl,rfl⟩,?_,by simp[rel],KZ.refl _⟩;refine hp.sim.put hk rfl hx World.putObj_size (λB hB=>World.putObj_heap_other hB) (λi hi=>?_) ⟨es',cl',World.putObj_heap_same Ab,Ad,DX⟩ (by intro s b h;cases h);simp[World.cell?,hb,World.putObj_heap_same Ab]
theorem Jdc{tk:TK}{x y:CV}{u:Value}(h:JaX tk x y=some true)(hx:rel own imm x u)(hy:rel own imm y u'):Instr.sameBits 10000 u' u=true:=by
 rcases Jgk h hx hy with ⟨_,k',p,q,rfl,rfl,hb⟩|⟨_,p,q,rfl,rfl,hb⟩|⟨_,p,q,rfl,rfl,hb⟩
 ·have:p=q:=by simpa using hb.symm
  subst this;simp[Instr.sameBits]
 ·rw[beq_toListBytes]at hb;have:p.toList=q.toList:=by simpa using hb.symm
  simp[Instr.sameBits,beq_toListBytes,this]
 ·have:p=q:=by simpa using hb.symm
  subst this;simp[Instr.sameBits]
theorem JfT{e:TypeId}{d:TypeDesc}{mo vo:Operand}{iv:IArg}(ho:o.op=.mapUpdate t mo ko vo\/o.op=.insert t mo ko vo)(hu:P.underlying t=some (.map kt e))(hd:P.underlying kt=some d)(hm:JP mo=some im)(hk:JP ko=some ik)(hv:JP vo=some iv)
  (Cg:XX d=.int\/XX d=.str\/XX d=.bool) (he:exec (.mapset (XX d) im ik iv) T H=some (c,v,H')) (hp:Pre E n0 m H w T a):Good P E n0 m H w (execOp a.eval o) v H':=by
 have h1:=JZ hp.tmps hm;have h2:=JZ hp.tmps hk;have h3:=JZ hp.tmps hv;simp only[exec]at he
 split at he
 ·split at he
  ·rename_i id e1;rw[e1]at h1;simp only[rel]at h1;obtain⟨x',Aw,Pq⟩:=h1
   split at he
   ·rename_i kvs hH;obtain⟨es,clock,hb,Ad,DX⟩:=hp.sim.obj id _ x' hH Aw;have Bf:(getObj x'.B).run P w=.ok (.map es clock) w:=by simp[getObj,Sem.run,hb]
    split at he
    ·rename_i j v' hf;have:=Yi (d:=d) h2 kvs es.toList 0 _ (by simpa using Ad) (λj k1 v1 e1 a1 a2=>DX j k1 v1 e1 a1 (by simpa using a2)) hf;obtain⟨u,aL,hr,_,A8,en,dI,k'',MM,Ep⟩:=this;simp only[Ga,Gb]at he;obtain⟨_,rfl,rfl⟩:=he;simp only[Nat.sub_zero]at dI A8;have gD:=Jdc MM h2 Ep;have Sm:es[j]? = some en:=by simpa using dI
     refine good_map (es':=es.modify j λe=>{ e with key:=a.eval ko,val:=a.eval vo }) (cl':=clock) hp hH Aw hb ?_ (by simp[Ad]) ?_
     ·rcases ho with ho|ho <;> simp only[execOp,ho,Instr.mapUpdate,Pq,Sem.run_bind,run_underlying hu,Result.andThen_ok,Bf,Xe hd Cg,Instr.findKey,run_underlying hd,aL,Sem.run_pure,Sm,Hf,GX,Instr.keyThatStays,gD,if_true,JfX hb]
     ·intro i k1 v1 e1 a1 a2;rw[Gi]at a1;rw[Array.getElem?_modify]at a2
      split at a1
      ·rename_i Cv;subst Cv
       cases a1
       simp[Sm]at a2;subst a2;exact⟨h2,h3⟩
      ·rename_i Cv;rw[if_neg Cv]at a2;exact DX i k1 v1 e1 a1 a2
    ·rename_i hf;have:=Yi (d:=d) h2 kvs es.toList 0 _ (by simpa using Ad) (λj k1 v1 e1 a1 a2=>DX j k1 v1 e1 a1 (by simpa using a2)) hf;simp only at this;simp only[Ga,Gb]at he;obtain⟨_,rfl,rfl⟩:=he;refine good_map (es':=es.push { key:=a.eval ko,val:=a.eval vo,born:=clock }) (cl':=clock+1) hp hH Aw hb ?_ (by simp[Ad]) ?_
     ·rcases ho with ho|ho <;> simp only[execOp,ho,Instr.mapUpdate,Pq,Sem.run_bind,run_underlying hu,Result.andThen_ok,Bf,Xe hd Cg,Instr.findKey,run_underlying hd,this,Sem.run_pure,JfX hb]
     ·intro i k1 v1 e1 a1 a2;by_cases Ab:i<kvs.length
      ·rw[Gc Ab]at a1;rw[Gw om]at a2;exact DX i k1 v1 e1 a1 (by rw[Gt om];exact a2)
      ·have hi:i<(kvs++[(Kg T ik,Kg T iv)]).length:=(Gf.1 a1).1;have:i=kvs.length:=by simp at hi;omega
       subst this;simp at a1;rw[Ad]at a2;simp at a2;subst a2;obtain⟨rfl,rfl⟩:=a1;exact⟨h2,h3⟩
    ·cases he
   ·cases he
  ·cases he
 ·cases he
theorem snd_len{x:Operand}{d:TypeDesc}(ho:o.op=.call cl)(Cy:cl.callee=.builtin .len)(Cj:cl.argTypes.toList=[t])(Ee:cl.args.toList=[x])(hd:P.underlying t=some d)(hx:JP x=some i)
  (he:exec (.len (XX d) i) T H=some (c,v,H')) (hp:Pre E n0 m H w T a):Good P E n0 m H w (execOp a.eval o) v H':=by
 have h1:=JZ hp.tmps hx;have Iu:cl.argTypes=#[t]:=by cases hh:cl.argTypes;simp_all
 have BU:cl.args=#[x]:=by cases hh:cl.args;simp_all
 have Ak:∀(r:Value),(Builtin.len_ #[t] o.type #[a.eval x]).run P w=.ok r w->(execOp a.eval o).run P w=.ok (.value r) w:=by intro r hr;simp[execOp,ho,resolve,Cy,invoke,builtin,Iu,BU,hr]
 have tkm:XX d=.map->∃k e,d=.map k e:=by intro h;cases d <;> simp[XX]at h;exact⟨_,_,rfl⟩
 have tks:XX d=.str->d=.string:=by intro h;cases d <;> simp[XX]at h;rfl
 simp only[exec]at he
 split at he
 ·rename_i s e1;rw[e1]at h1;simp only[rel]at h1
  split at he
  ·rename_i hk;simp only[Ga,Gb]at he;obtain⟨_,rfl,rfl⟩:=he;obtain rfl:=tks hk;exact JE hp.sim (Ak _ (by simp[Builtin.len_,run_underlying hd,h1,goInt])) rfl
  ·cases he
 ·rename_i e1;rw[e1]at h1;simp only[rel]at h1
  split at he
  ·rename_i hk;simp only[Ga,Gb]at he;obtain⟨_,rfl,rfl⟩:=he;obtain⟨e,rfl⟩:=XJ hk;exact JE hp.sim (Ak (.int .i64 0) (by simp[Builtin.len_,run_underlying hd,h1,goInt])) rfl
  ·cases he
 ·rename_i id off len cap e1;rw[e1]at h1;simp only[rel]at h1;obtain⟨x',ba,rc,Aw,hv,_⟩:=h1
  split at he
  ·rename_i hk;simp only[Ga,Gb]at he;obtain⟨_,rfl,rfl⟩:=he;obtain⟨e,rfl⟩:=XJ hk;exact JE hp.sim (Ak _ (by simp[Builtin.len_,run_underlying hd,hv,goInt])) rfl
  ·cases he
 ·rename_i z els cap e1;rw[e1]at h1;simp only[rel]at h1
  split at he
  ·rename_i hk;simp only[Ga,Gb]at he;obtain⟨_,rfl,rfl⟩:=he;obtain⟨e,rfl⟩:=XJ hk;rcases h1 with ⟨_,rfl,b,hv⟩|⟨B,q,rc,hv,_⟩
   ·exact JE hp.sim (Ak (.int .i64 0) (by simp[Builtin.len_,run_underlying hd,hv,goInt])) rfl
   exact JE hp.sim (Ak _ (by simp[Builtin.len_,run_underlying hd,hv,goInt])) rfl
  ·cases he
 ·rename_i e1;rw[e1]at h1;simp only[rel]at h1
  split at he
  ·rename_i hk;simp only[Ga,Gb]at he;obtain⟨_,rfl,rfl⟩:=he;obtain⟨k,e,rfl⟩:=tkm hk;exact JE hp.sim (Ak (.int .i64 0) (by simp[Builtin.len_,run_underlying hd,h1,goInt])) rfl
  ·cases he
 ·rename_i id e1;rw[e1]at h1;simp only[rel]at h1;obtain⟨x',Aw,hv⟩:=h1
  split at he
  ·rename_i kvs hH;obtain⟨es,clock,hb,Ad,DX⟩:=hp.sim.obj id _ x' hH Aw;have Bf:(getObj x'.B).run P w=.ok (.map es clock) w:=by simp[getObj,Sem.run,hb]
   split at he
   ·rename_i hk;simp only[Ga,Gb]at he;obtain⟨_,rfl,rfl⟩:=he;obtain⟨k,e,rfl⟩:=tkm hk;refine JE (r:=.int .i64 es.size) hp.sim (Ak _ (by simp[Builtin.len_,run_underlying hd,hv,Bf,goInt])) ?_;simp only[rel,Ad]
   ·cases he
  ·cases he
 ·cases he
end
section
variable{c:Cond}{v:CV}{o:Oper}
theorem run_sliceBound {k:IntKind}{i:Int}{y:Nat}{code:BoundsCode}(h0:0<=i)(h1:i<=y):(Instr.sliceBound (.int k i) y code).run P w=.ok i.toNat w:=by simp[Instr.sliceBound,asIntOf,h0,h1]
theorem JeB{len:Nat}{lo hi mx:LG}{l:Int}{mm:Nat}
  (I9:(lo=none/\l=0)\/∃k,lo=some (.int k l)) (Ia:(hi=none/\mx=none/\h=len)\/∃k,hi=some (.int k h))
  (MG:(mx=none/\mm=cap)\/∃k q,mx=some (.int k q)/\mm=q.toNat/\0<=q/\q<=cap) (h0:0<=l) (h1:l<=h) (h2:h<=mm) :
  (Instr.sliceBounds true len cap lo hi mx).run P w=.ok (l.toNat,h.toNat,mm) w:=by
 have hh:(h.toNat:Int)=h:=om
 unfold Instr.sliceBounds;rcases MG with ⟨rfl,rfl⟩|⟨k,q,rfl,rfl,gQ,Mx⟩
 ·rcases Ia with ⟨rfl,_,rfl⟩|⟨k,rfl⟩
  ·rcases I9 with ⟨rfl,rfl⟩|⟨k,rfl⟩
   ·simp
   ·simp[run_sliceBound h0 h1]
  ·rcases I9 with ⟨rfl,rfl⟩|⟨k',rfl⟩
   ·simp[run_sliceBound (show (0:Int)<=h by omega) h2]
   ·simp[run_sliceBound (show (0:Int)<=h by omega) h2,run_sliceBound h0 (show l<=(h.toNat:Int) by omega)]
 ·rcases Ia with ⟨_,hn,_⟩|⟨k1,rfl⟩
  ·cases hn
  ·have e1:=run_sliceBound (P:=P) (w:=w) (k:=k) (code:=.slice3Acap) gQ Mx;have e2:=run_sliceBound (P:=P) (w:=w) (k:=k1) (code:=.slice3B) (show (0:Int)<=h by omega) h2;rcases I9 with ⟨rfl,rfl⟩|⟨k',rfl⟩
   ·simp[e1,e2]
   ·have e3:=run_sliceBound (P:=P) (w:=w) (k:=k') (code:=.slice3C) h0 (show l<=(h.toNat:Int) by omega);simp[e1,e2,e3]
theorem opt_lo {T:Lu}(hT:J7 own imm T a.tmps.toList){l:Int}(h:Xa lo=some ilo)(hl:X9 T 0 ilo=some l):(lo.map a.eval=none/\l=0)\/∃k,lo.map a.eval=some (.int k l):=by
 cases lo with
 |none=>simp[Xa]at h;subst h;simp[X9]at hl;exact .inl ⟨rfl,hl.symm⟩
 |some x=>
  simp only[Xa]at h
  cases hx:JP x with
  |none=>simp[hx]at h
  |some i=>
   simp[hx]at h;subst h;have:=JZ hT hx;simp only[X9]at hl;unfold Jbn at hl
   split at hl
   ·rename_i k n e;rw[e]at this;simp only[rel]at this
    cases hl
    exact .inr ⟨k,by simp[this]⟩
   ·cases hl
theorem opt_int {T:Lu}(hT:J7 own imm T a.tmps.toList){x:Operand}{n:Int}(hx:JP x=some i)(h:Jbn (Kg T i)=some n):∃k,a.eval x=.int k n:=by
 have:=JZ hT hx;unfold Jbn at h
 split at h
 ·rename_i k n' e;rw[e]at this;simp only[rel]at this
  cases h
  exact⟨k,this⟩
 ·cases h
theorem slice_sound{x v:CV}{l:Int}{mx:Option Int}(hs:Sim E m H w)(ho:own=m.own)(hi:imm=m.imm)(hx:rel own imm x xv)(he:X8 z H x l h mx=some (c,v))(hc:c.holds) :
  ∃ba len cap,xv=.slice ba len cap/\0<=l/\l<=h/\h<=(mx.getD cap).toNat/\h<=len/\(∀q,mx=some q->0<=q/\q<=cap)/\
   rel own imm v (.slice (if (mx.getD cap).toNat=l.toNat then ba else ba.map (·.add (l.toNat*z))) (h.toNat-l.toNat) ((mx.getD cap).toNat-l.toNat))/\
   exLen x=some len:=by
 subst ho;subst hi
 cases x with
 |nils=>
  simp only[X8]at he;simp only[rel]at hx;subst hx
  split at he
  ·cases he
   simp only[Cond.holds]at hc;obtain⟨h1,h2,h3⟩:=hc;refine⟨none,0,0,rfl,h1,h2,by simp;omega,by simpa using h3,sM,?_,rfl⟩;have:l=0:=om
   have:h=0:=om
   subst l;subst h;simp[rel]
  ·cases he
 |rslc z' els cap=>
  simp only[X8]at he;simp only[rel]at hx;rcases hx with ⟨DF,rfl,b0,rfl⟩|⟨B,q,rc,rfl,DV,Bu,AR⟩
  ·rcases DF with rfl|rfl
   all_goals
    by_cases hz:z'=z
    ·subst hz;simp only[if_true]at he
     cases mx with
     |none=>
      simp only at he
      cases he
      simp only[Cond.holds]at hc;obtain⟨h1,h2,h3⟩:=hc;refine⟨b0,0,0,rfl,h1,h2,by simp at h3|-;omega,by simpa using h3,sM,?_,rfl⟩;have:l=0:=by simp at h3;omega
      have:h=0:=by simp at h3;omega
      subst l;subst h;simp[rel]
     |some mq=>
      simp only at he
      cases he
      simp only[Cond.holds]at hc;obtain⟨h1,h2,h3,h4,h5⟩:=hc;simp at h4 h5;refine⟨b0,0,0,rfl,h1,h2,by simp;omega,by simpa using h4,by intro q' Ry;cases Ry;omega,?_,rfl⟩;have:l=0:=om
      have:h=0:=om
      have:mq=0:=om
      subst l;subst h;subst mq;simp[rel]
    ·simp[hz]at he
  by_cases hz:z'=z
  ·subst hz;simp only[if_true]at he;have Ru:=(Qs _ _).1 AR;have sub:∀(k:Nat),k≠l.toNat->(h.toNat<=els.length)->XL m.imm z' ((els.drop l.toNat).take (h.toNat-l.toNat)) (m.imm B) (q+l.toNat*z'):=by
    intro k _ _;rw[Qs];intro j e hj;have Fa:j<h.toNat-l.toNat:=by have:=(Gf.1 hj).1;simp at this;omega
    rw[Gq Fa,Gr]at hj;have:=Ru _ _ hj;rw[Gd]at this;refine⟨this.1,λt c hc=>?_⟩;have:=this.2 t c hc;rw[show q+l.toNat*z' + j*z' + t=q+(l.toNat*z' + j*z')+t by omega];exact this
   cases mx with
   |none=>
    simp only at he
    cases he
    simp only[Cond.holds]at hc;obtain⟨h1,h2,h3⟩:=hc;refine⟨some ⟨B,q,none⟩,els.length,rc,rfl,h1,h2,by simp;omega,h3,sM,?_,rfl⟩;simp only[Lb,H6,rel];have Ad:((els.drop l.toNat).take (h.toNat-l.toNat)).length=h.toNat-l.toNat:=by simp;omega
    have Oq:∀n,Hg (λx=>x-l.toNat) cap=some n->rc-l.toNat=n:=by
     intro n hn
     cases cap with
     |none=>simp at hn
     |some c0=>simp at hn;rw[Bu c0 rfl];exact hn
    by_cases hm:rc=l.toNat
    ·rw[if_pos hm];refine .inr ⟨B,q,rc-l.toNat,by rw[Ad],by rw[Ad];omega,Oq,?_⟩;have:((els.drop l.toNat).take (h.toNat-l.toNat))=[]:=Gx (by rw[Ad];omega);rw[this];simp[XL]
    ·rw[if_neg hm];refine .inr ⟨B,q+l.toNat*z',rc-l.toNat,by rw[Ad];simp[addr_add],by rw[Ad];omega,Oq,sub rc hm om⟩
   |some mq=>
    simp only at he
    cases he
    simp only[Cond.holds]at hc;obtain⟨h1,h2,h3,h4,h5⟩:=hc;have hq:mq<=rc:=by
     cases cap with
     |none=>simp at h5;omega
     |some c0=>simp at h5;have:=Bu c0 rfl;omega
    refine⟨some ⟨B,q,none⟩,els.length,rc,rfl,h1,h2,by simp;omega,h4,by intro q' Ry;cases Ry;omega,?_,rfl⟩;simp only[GX,rel];have Ad:((els.drop l.toNat).take (h.toNat-l.toNat)).length=h.toNat-l.toNat:=by simp;omega
    by_cases hm:mq.toNat=l.toNat
    ·rw[if_pos hm];refine .inr ⟨B,q,mq.toNat-l.toNat,by rw[Ad],by rw[Ad];omega,by intro n hn;cases cap <;> simp at hn;exact hn,?_⟩;have:((els.drop l.toNat).take (h.toNat-l.toNat))=[]:=Gx (by rw[Ad];omega);rw[this];simp[XL]
    ·rw[if_neg hm];refine .inr ⟨B,q+l.toNat*z',mq.toNat-l.toNat,by rw[Ad];simp[addr_add],by rw[Ad];omega,by intro n hn;cases cap <;> simp at hn;exact hn,sub mq.toNat hm om⟩
  ·simp[hz]at he
 |slc id off len cap=>
  simp only[X8]at he;simp only[rel]at hx;obtain⟨x',ba,rc,Aw,rfl,DV,Bu,Mi,Be⟩:=hx
  split at he
  ·rename_i z' els hH;by_cases hz:z'=z
   ·subst hz;simp only[if_true]at he;have Oz:x'.z=z':=(hs.obj id _ x' hH Aw).1;have addr:∀mm:Nat,mm<=rc->l.toNat<=mm->(mm-l.toNat≠0->(if mm=l.toNat then some ba else Hg (λx=>x.add (l.toNat*z')) (some ba))=some ⟨x'.B,x'.o+(off+l.toNat)*x'.z,none⟩):=by intro mm h1 h2 h3;rw[iN7];have:=Mi om;subst this;simp only[Hf,addr_add,Oz,Gd,GU]
    have bnd:∀mm:Nat,mm<=rc->l.toNat<=mm->x'.o+(off+l.toNat)*x'.z+(mm-l.toNat)*x'.z<=x'.n:=by
     intro mm h1 h2;have:off*x'.z+rc*x'.z=(off+rc)*x'.z:=(Gd _ _ _).symm;have h3:(off+l.toNat)*x'.z+(mm-l.toNat)*x'.z=(off+mm)*x'.z:=by rw[<-Gd];congr 1;omega
     have h4:(off+mm)*x'.z<=(off+rc)*x'.z:=Gj _ om;omega
    have some_addr:∀mm:Nat,∃a',(if mm=l.toNat then some ba else Hg (λx=>x.add (l.toNat*z')) (some ba))=some a':=by
     intro mm;split
     ·exact⟨_,rfl⟩
     ·exact⟨_,rfl⟩
    cases mx with
    |none=>
     simp only at he
     cases he
     simp only[Cond.holds]at hc;obtain⟨h1,h2,h3⟩:=hc;refine⟨some ba,len,rc,rfl,h1,h2,by simp;omega,h3,sM,?_,rfl⟩;simp only[Lb,H6,rel];obtain⟨a',AX⟩:=some_addr rc;refine⟨x',a',rc-l.toNat,Aw,by rw[AX],om,?_,λh=>?_,bnd rc (Gg _) om⟩
     ·intro n hn
      cases cap with
      |none=>simp at hn
      |some c0=>simp at hn;rw[Bu c0 rfl];exact hn
     ·have:=addr rc (Gg _) om h;rw[AX]at this;cases this;rfl
    |some mq=>
     simp only at he
     cases he
     simp only[Cond.holds]at hc;obtain⟨h1,h2,h3,h4,h5⟩:=hc;have hq:mq<=rc:=by
      cases cap with
      |none=>simp at h5;omega
      |some c0=>simp at h5;have:=Bu c0 rfl;omega
     refine⟨some ba,len,rc,rfl,h1,h2,by simp;omega,h4,by intro q' Ry;cases Ry;omega,?_,rfl⟩;simp only[GX,rel];obtain⟨a',AX⟩:=some_addr mq.toNat;refine⟨x',a',mq.toNat-l.toNat,Aw,by rw[AX],om,sM,λh=>?_,bnd mq.toNat om om⟩;have:=addr mq.toNat om om h;rw[AX]at this;cases this;rfl
   ·simp[hz]at he
  ·cases he
 |_=>simp[X8]at he
theorem snd_slice{e:TypeId}{x:Operand}{hi mx:Option Operand}{imx:Option IArg}(ho:o.op=.slice t x lo hi mx)(hd:P.underlying t=some (.slice e))(hz:Jg6 P e=some z)(hx:JP x=some ix)(I9:Xa lo=some ilo)(Ia:Xa hi=some ihi)(MG:Xa mx=some imx)(Cc:¬(hi.isNone=true/\mx.isSome=true))
  (he:exec (.slice z ix ilo ihi imx) T H=some (c,v,H')) (hc:c.holds) (hp:Pre E n0 m H w T a):Good P E n0 m H w (execOp a.eval o) v H':=by
 have h1:=JZ hp.tmps hx;simp only[exec]at he
 split at he
 ·rename_i l h q hl hh hq
  split at he
  ·rename_i c' v' hs;simp only[Ga,Gb]at he;obtain⟨rfl,rfl,rfl⟩:=he;obtain⟨ba,len,cap,UR,b0,b1,b2,b3,b4,hr,Dy⟩:=slice_sound hp.sim rfl rfl h1 hs hc;have plo:=opt_lo (a:=a) hp.tmps I9 hl;have phi:((hi.map a.eval=none)/\(mx.map a.eval=none)/\h=len)\/∃k,hi.map a.eval=some (.int k h):=by
    cases hi with
    |none=>
     simp[Xa]at Ia;subst Ia;refine .inl ⟨rfl,?_,?_⟩
     ·cases mx with
      |none=>rfl
      |some _=>simp at Cc
     ·simp only[exHi,Dy,Ga]at hh;exact hh.symm
    |some y=>
     simp only[Xa]at Ia
     cases hy:JP y with
     |none=>simp[hy]at Ia
     |some j=>simp[hy]at Ia;subst Ia;simp only[exHi]at hh;obtain⟨k,hk⟩:=opt_int (a:=a) hp.tmps hy hh;exact .inr ⟨k,by simp[hk]⟩
   have pmx:((mx.map a.eval=none)/\(q.getD cap).toNat=cap)\/∃k r,mx.map a.eval=some (.int k r)/\(q.getD cap).toNat=r.toNat/\0<=r/\r<=cap:=by
    cases mx with
    |none=>simp[Xa]at MG;subst MG;simp[exMx]at hq;subst hq;exact .inl ⟨rfl,sM⟩
    |some y=>
     simp only[Xa]at MG
     cases hy:JP y with
     |none=>simp[hy]at MG
     |some j=>
      simp[hy]at MG;subst MG;simp only[exMx]at hq
      cases hj:Jbn (Kg T j) with
      |none=>simp[hj]at hq
      |some r=>simp[hj]at hq;subst hq;obtain⟨k,hk⟩:=opt_int (a:=a) hp.tmps hy hj;have:=b4 r rfl;exact .inr ⟨k,r,by simp[hk],sM,this.1,this.2⟩
   have hb:=JeB (P:=P) (w:=w) (len:=len) plo phi pmx b0 b1 om;refine JE hp.sim ?_ hr;simp only[execOp,ho,Instr.sliceAt,Sem.run_bind,run_underlying hd,Result.andThen_ok,Instr.slice,UR,hb,Jf1 hz,Sem.run_pure]
  ·cases he
 ·cases he
theorem JcE{z:Lu}(hz:J7 own imm z zv.toList)(n N:Nat)(h0:z.length≠0)(Be:n<=N):relO own imm z.length (Gv n z) (λi=>((GD (N*z.length)).map (λi=>zv[i % zv.size]!))[i]?) 0:=by
 have hl:=Ke hz;have hs:zv.size=z.length:=by simpa using hl.symm
 intro j e he;have hj:j<n:=by have:=(Gf.1 he).1;simpa using this
 have:e=z:=by rw[List.getElem?_replicate,if_pos hj]at he;cases he;rfl
 subst this;refine⟨rfl,λt c hc=>?_⟩;have ht:t<e.length:=(Gf.1 hc).1;obtain⟨r,CB,CJ⟩:=Yv hz hc;refine⟨r,?_,CJ⟩;have Ab:0+j*e.length+t<N*e.length:=by have:(j+1)*e.length<=N*e.length:=Gj _ om;rw[Gd,Gs]at this;omega
 have av:(0+j*e.length+t) % e.length=t:=by rw[GG,Nat.mul_comm,Nat.mul_add_mod];exact Nat.mod_eq_of_lt ht
 have Uq:t<zv.size:=om
 have:zv[t]! = r:=by
  have h3:zv[t]? = some r:=by simpa using CB
  simp[getElem!_def,h3]
 simp only[Hm,Array.getElem?_range,hs,av,Ab,if_true,Hf,this]
theorem Jhz{z:Lu}(hz:J7 own imm z zv.toList)(h1:Xk z=true)(h0:z.length≠0){N:Nat}:∀(i:Nat) v,((GD N).map (λi=>zv[i % zv.size]!))[i]? = some v->v.oneCell'=true:=by
 intro i v hv;have hl:=Ke hz;have hs:zv.size=z.length:=by simpa using hl.symm
 simp only[Hm]at hv
 cases hr:(GD N)[i]? with
 |none=>simp[hr]at hv
 |some j=>simp[hr]at hv;have Ab:j % zv.size<zv.size:=Nat.mod_lt _ om;subst hv;exact YG hz h1 _ (by simp[getElem!_def,Gt Ab])
theorem snd_mkslice{e:TypeId}{z:Lu}{i:TypeInfo}{lo co:Operand}{il ic:IArg}(ho:o.op=.makeSlice t lo co)(hd:P.underlying t=some (.slice e))(hz:zeroOf P e=some z)(hi:P.info? e=some i)(hl:JP lo=some il)(FN:JP co=some ic)(h0:z.length≠0)
  (he:exec (.mkslice z.length i.bytes z il ic) T H=some (c,v,H')) (hc:c.holds) (hp:Pre E n0 m H w T a):Good P E n0 m H w (execOp a.eval o) v H':=by
 have h1:=JZ hp.tmps hl;have h2:=JZ hp.tmps FN;obtain⟨i',zv,Dc,_,Ak,hrel,Ad,Oy⟩:=JbC (w:=w) hz;rw[hi]at Dc;cases Dc;simp only[exec]at he
 split at he
 ·rename_i l cc e1 e2;rw[e1]at h1;rw[e2]at h2;simp only[rel]at h1 h2;simp only[Ga,Gb]at he;obtain⟨rfl,rfl,rfl⟩:=he;simp only[Cond.holds]at hc;obtain⟨DF,CF,CR,kF⟩:=hc;have iw:IntKind.i64.wrap l=l:=InR.wrap (k:=.i64) ⟨by simp[IntKind.min,IntKind.signed,IntKind.bits];omega,by simp[IntKind.max,IntKind.signed,IntKind.bits];omega⟩;have iT:IntKind.i64.wrap cc=cc:=InR.wrap (k:=.i64) ⟨by simp[IntKind.min,IntKind.signed,IntKind.bits];omega,by simp[IntKind.max,IntKind.signed,IntKind.bits];omega⟩;have t1:¬(cc<0\/281474976710656<(i.bytes:Int)*cc):=om
  have DJ:=Ke (hrel m.own m.imm);have bX:zv.cells.size=z.length:=by simpa using DJ.symm
  have Ae:i.size=z.length:=Ad.symm;refine good_row (r:=.slice (some ⟨w.heap.size,0,none⟩) l.toNat cc.toNat) (cells:=(GD (cc.toNat*z.length)).map (λj=>zv.cells[j % zv.cells.size]!)) (elem:=e) (z:=z.length) hp.sim ?_ ?_ (JcE (hrel _ _) _ _ h0 om) (Jhz (hrel m.own m.imm) Oy h0) ?_
  ·have BP:(sizeOf e).run P w=.ok z.length w:=by simp[sizeOf,typeInfo,hi,Ae]
   have t2:((decide (cc<0) || decide ((i.bytes:Int)*cc > 2 ^ 48)) || decide (l<0) || decide (l > cc))=false:=by simp only[Bool.or_eq_false_iff,decide_eq_false_iff_not];have:(2:Int) ^ 48=281474976710656:=rfl;rw[this];omega
   simp only[execOp,ho,Instr.makeSlice,Sem.run_bind,run_underlying hd,Result.andThen_ok,h1,h2,asInt,asIntOf,Sem.run_pure,typeInfo,run_program,hi,iw,iT,t2];simp only[GA,if_false,Sem.run_bind,run_askRoom,Result.andThen_ok,BP,newRow];by_cases hn:cc.toNat*z.length=0
   ·simp[hn];congr 2;exact Array.ext sM (λi h1 _=>by simp at h1)
   ·simp[hn,Ak]
  ·simp;exact Gj _ om
  ·simp only[rel];refine⟨_,_,_,JeV hp.sim _,rfl,om,sM,λ_=>sM,sM⟩
 ·cases he
end
section
variable{c:Cond}{v:CV}{o:Oper}
def Yr (own:LC)(imm:Nat->Nat->LG)(z:Nat)(els:LQ)(vs:LH):Prop:=(∀e∈els,e.length=z)/\J7 own imm els.flatten vs
theorem Yr.relO(h:Yr own imm z els vs){R:Nat->LG}{o:Nat}(hR:∀(i:Nat) v,vs[i]? = some v->R (o+i)=some v):relO own imm z els R o:=relO_flat els o R h.1 λi c hc=>let ⟨v,hv,hr⟩:=Yv h.2 hc;⟨v,hR i v hv,hr⟩
theorem Yr.len(h:Yr own imm z els vs):vs.length=els.length*z:=by rw[<-JbZ els h.1,Ke h.2]
theorem Yr.append(h:Yr own imm z els vs)(h':Yr own imm z els' vs'):Yr own imm z (els++els') (vs++vs'):=⟨λe he=>by rcases GR.1 he with h1|h1;exact h.1 e h1;exact h'.1 e h1,by rw[List.flatten_append];exact Q9 h.2 h'.2⟩
theorem Ja6:∀{els:LQ}{R:Nat->LG}{o:Nat},relO own imm z els R o->∃vs,Yr own imm z els vs/\∀(i:Nat) v,vs[i]? = some v->R (o+i)=some v:=by
 intro els R o h;obtain⟨hz,hf⟩:=flat_relO els o R h;have key:∀(l:Lu) (o:Nat),(∀(i:Nat) c,l[i]? = some c->∃r,R (o+i)=some r/\rel own imm c r)->∃vs,J7 own imm l vs/\∀(i:Nat) v,vs[i]? = some v->R (o+i)=some v:=by
  intro l
  induction l with
  |nil=>intro o _;exact⟨[],by simp[J7],λi v hv=>by simp at hv⟩
  |cons c l ih=>
   intro o h;obtain⟨r,hr,hrel⟩:=h 0 c rfl;obtain⟨vs,h1,h2⟩:=ih (o+1) (λi d hd=>by have:=h (i+1) d (by simpa using hd);rw[show o+(i+1)=o+1+i by omega]at this;exact this);refine⟨r::vs,by simp only[J7];exact⟨r,vs,rfl,hrel,h1⟩,λi v hv=>?_⟩
   cases i with
   |zero=>simp at hv;subst hv;simpa using hr
   |succ i=>simp at hv;have:=h2 i v hv;rw[show o+(i+1)=o+1+i by omega];exact this
 obtain⟨vs,h1,h2⟩:=key _ o hf;exact⟨vs,⟨hz,h1⟩,h2⟩
theorem JeI{R:Nat->LG}{o:Nat}(h:XL imm z els R o):relO own imm z els R o:=λj e he=>⟨((Qs _ _).1 h j e he).1,λt c hc=>let ⟨r,h1,h2⟩:=((Qs _ _).1 h j e he).2 t c hc;⟨r,h1,rel_weak h2⟩⟩
theorem relO_sub{R:Nat->LG}{o:Nat}(h:relO own imm z els R o)(d:Nat):relO own imm z (els.drop d) R (o+d*z):=by intro j e he;rw[Gr]at he;have:=h _ e he;rw[Gd]at this;refine⟨this.1,λt c hc=>?_⟩;rw[show o+d*z+j*z+t=o+(d*z+j*z)+t by omega];exact this.2 t c hc
theorem relO_take{R:Nat->LG}{o:Nat}(h:relO own imm z els R o)(n:Nat):relO own imm z (els.take n) R o:=by
 intro j e he;rw[GY]at he
 split at he
 ·exact h j e he
 ·cases he
theorem Jfn{x:CV}{xs:LQ}(hs:Sim E m H w)(hx:rel m.own m.imm x xv)(he:JhZ H z x=some xs) :
  ∃news:LH,Yr m.own m.imm z xs news/\(∀w,(Builtin.lenOf xv).run P w=.ok xs.length w)/\(∀n,n<=xs.length->∀w',w'.heap=w.heap->(Builtin.firstCells z n xv).run P w'=.ok (news.take (n*z)).toArray w')/\(∀v∈news,v.oneCell'=true):=by
 have rd:∀(B o len cap:Nat) (els:LQ) (news:LH),xv=.slice (some ⟨B,o,none⟩) len cap->Yr m.own m.imm z els news->(∀(i:Nat) v,news[i]? = some v->w.cell? ⟨B,o+i,none⟩=some v)->∀n,n<=els.length->∀w',w'.heap=w.heap->(Builtin.firstCells z n xv).run P w'=.ok (news.take (n*z)).toArray w':=by
  intro B o len cap els news UR Ao hc n hn w' hw;rw[UR];have Eh:n*z<=els.length*z:=Gj z hn;refine run_firstCells_some w' z n ⟨B,o,none⟩ len cap (news.take (n*z)) (by rw[Gl,Ao.len];omega) (λj v hv=>?_);rw[GY]at hv
  split at hv
  ·rw[addr_add];exact(cell?_congr (by rw[hw])).trans (hc j v hv)
  ·cases hv
 cases x with
 |nils=>simp[JhZ]at he;subst he;simp only[rel]at hx;subst hx;exact⟨[],⟨sM,by simp[J7]⟩,λw=>by simp[Builtin.lenOf],λn _ w' _=>by simp[Builtin.firstCells],sM⟩
 |slc id off len cap=>
  simp only[JhZ]at he;simp only[rel]at hx;obtain⟨x',ba,rc,Aw,rfl,DV,Bu,Mi,Be⟩:=hx
  split at he
  ·rename_i z' els hH
   split at he
   ·rename_i EQ;obtain⟨rfl,Bd⟩:=EQ
    cases he
    obtain⟨hz,cells,elem,hb,BP,OY,AR,Cx⟩:=hs.obj id _ x' hH Aw;have D5:=relO_take (relO_sub AR off) len;rw[hz]at D5;obtain⟨news,Ao,hR⟩:=Ja6 D5;have Ad:((els.drop off).take len).length=len:=by simp;omega
    refine⟨news,Ao,λw=>by simp[Builtin.lenOf,Ad],λn hn w' hw=>?_,λv hv=>by obtain⟨i,hi⟩:=Gy hv;exact Cx _ v (hR i v hi)⟩
    by_cases h0:rc=0
    ·have:len=0:=om
     subst this;have hn:news=[]:=Gx (by rw[Ao.len,Ad];simp);subst hn;have:n=0:=by rw[Ad]at hn;omega
     subst this;simp[Builtin.firstCells,loadCells,loadCellsFrom]
    ·have:=Mi h0;subst this;have:=rd x'.B (x'.o+off*x'.z) len rc ((els.drop off).take len) news rfl Ao (λi v hv=>by have:=hR i v hv;rw[hz];simp only[World.cell?,hb];simpa using this) n hn w' hw
     exact this
   ·cases he
  ·cases he
 |rslc z' els cap=>
  simp only[JhZ]at he;simp only[rel]at hx;rcases hx with ⟨_,rfl,b,rfl⟩|⟨B,q,rc,rfl,DV,Bu,AR⟩
  ·split at he
   ·cases he
    exact⟨[],⟨sM,by simp[J7]⟩,λw=>by simp[Builtin.lenOf],λn hn w' _=>by
     have:n=0:=by simpa using hn
     subst this
     cases b <;> simp[Builtin.firstCells,loadCells,loadCellsFrom],sM⟩
   ·cases he
  split at he
  ·rename_i hz;subst hz
   cases he
   obtain⟨news,Ao,hR⟩:=Ja6 (JeI (own:=m.own) AR);exact⟨news,Ao,λw=>by simp[Builtin.lenOf],λn hn w' hw=>rd B q _ rc xs news rfl Ao (λi v hv=>hs.imm _ _ _ (hR i v hv)) n hn w' hw,λv hv=>by obtain⟨i,hi⟩:=Gy hv;exact hs.one _ _ v (hR i v hi)⟩
  ·cases he
 |str s=>
  simp only[JhZ]at he;simp only[rel]at hx;subst hx
  split at he
  ·rename_i hz;subst hz
   cases he
   refine⟨s.data.toList.map λb=>.int .u8 b.toNat,⟨sM,?_⟩,λw=>by simp[Builtin.lenOf],λn hn w' _=>?_,λv hv=>by obtain⟨b,_,rfl⟩:=List.mem_map.1 hv;rfl⟩
   ·have:(s.data.toList.map λb=>[CV.int .u8 (b.toNat:Int)]).flatten=s.data.toList.map λb=>CV.int .u8 (b.toNat:Int):=by
     induction s.data.toList with
     |nil=>rfl
     |cons b l ih=>simp[ih]
    rw[this,XK];refine⟨sM,λi c v hc hv=>?_⟩;rw[List.getElem?_map]at hc hv
    cases hb:s.data.toList[i]? with
    |none=>simp[hb]at hc
    |some b=>simp[hb]at hc hv;subst hc;subst hv;rfl
   ·simp only[Builtin.firstCells,Sem.run_pure,ByteArray.data_extract]
    congr 1
    apply Hq;simp[]
  ·cases he
 |_=>simp[JhZ]at he
set_option maxHeartbeats 1000000 in
theorem run_grow{e:TypeId}{i:TypeInfo}{zv:Value}{olds:LH}(hd:P.underlying t=some (.slice e))(hu:P.underlying u=some du)(Mf:(∃k,du=.slice k)\/du=.string)(hi:P.info? e=some i)(hz:i.zero=some zv)
  (Ad:∀w,(Builtin.lenOf xv).run P w=.ok n w) (hn:∀w',w'.heap=w.heap->(Builtin.firstCells i.size n xv).run P w'=.ok news.toArray w') (ho:∀w',w'.heap=w.heap->(Builtin.firstCells i.size sLen (.slice sb sLen sCap)).run P w'=.ok olds.toArray w')
  (hg:sCap<sLen+n) (kQ:sLen+n<=140737488355328) (Bv:(sLen+n)*i.bytes<=140737488355328) :
  ∃cap,sLen+n<=cap/\(Builtin.append_ #[t,u] ty #[.slice sb sLen sCap,xv]).run P w =
   .ok (.slice (some ⟨w.heap.size,0,none⟩) (sLen+n) cap) (w.drew.alloc (.cells (olds.toArray++news.toArray++Builtin.zeroCells zv.cells (cap-(sLen+n))) e)):=by
 have Fh:=growslice_fits (bytes:=i.bytes) hg Bv;refine⟨grownCap w (sLen+n) sCap e,by simp[grownCap,Question.cut],?_⟩;have Ut:¬(sLen+n<=sCap):=om
 have bR:¬(9223372036854775807<((sLen:Int)+(n:Int))):=om
 have bS:¬(281474976710656<Builtin.nextslicecap (sLen+n) sCap*i.bytes):=om
 have hf:=hn w.drew rfl;have CZ:=ho w.drew rfl;rcases Mf with ⟨k,rfl⟩|rfl
 all_goals
  simp[Builtin.append_,run_underlying hd,run_underlying hu,sizeOf,typeInfo,zeroValue,hi,hz,Ad,Ut,bR,bS,Question.forced,hf,CZ,newRow,grownCap]
  congr 2
  apply Hq;simp[Gz]
set_option maxHeartbeats 1000000 in
theorem run_room{e e':TypeId}{i:TypeInfo}{g o':Nat}{cur:LJ}(hd:P.underlying t=some (.slice e))(hu:P.underlying u=some du)(Mf:(∃k,du=.slice k)\/du=.string)(hi:P.info? e=some i)
  (Ad:∀w,(Builtin.lenOf xv).run P w=.ok n w) (hn:(Builtin.firstCells i.size n xv).run P w=.ok news.toArray w) (hg:w.heap[g]? = some (.cells cur e' (0,0))) (Bv:sLen+n<=sCap) (Fh:o' + sLen*i.size+news.length<=cur.size) (h1:∀u∈news,u.oneCell'=true) :
  (Builtin.append_ #[t,u] ty #[.slice (some ⟨g,o',none⟩) sLen sCap,xv]).run P w =
   .ok (.slice (some ⟨g,o',none⟩) (sLen+n) sCap) (w.setRow g (cur.toList.take (o' + sLen*i.size)++news++cur.toList.drop (o' + sLen*i.size+news.length)).toArray):=by
 have Al:=run_storeCells_at P g (o' + sLen*i.size) e' news 0 cur w hg (by simpa using Fh) h1;simp only[GV]at Al;rcases Mf with ⟨k,rfl⟩|rfl
 all_goals simp[Builtin.append_,run_underlying hd,run_underlying hu,sizeOf,typeInfo,hi,Ad,Bv,hn,addr_add,Al]
set_option maxHeartbeats 1000000 in
theorem JeC{e:TypeId}{i:TypeInfo}(hd:P.underlying t=some (.slice e))(hu:P.underlying u=some du)(Mf:(∃k,du=.slice k)\/du=.string)(hi:P.info? e=some i)
  (Ad:∀w,(Builtin.lenOf xv).run P w=.ok 0 w) (hn:(Builtin.firstCells i.size 0 xv).run P w=.ok #[] w) (Be:sLen<=sCap) :
  (Builtin.append_ #[t,u] ty #[.slice sb sLen sCap,xv]).run P w=.ok (.slice sb sLen sCap) w:=by
 rcases Mf with ⟨k,rfl⟩|rfl
 all_goals (cases sb <;> simp[Builtin.append_,run_underlying hd,run_underlying hu,sizeOf,typeInfo,hi,Ad,Be,hn,storeCells])
theorem Sim.adopt (hs:Sim E m H w)(x:Own)(ob:CObj)(DU:∀(k:Nat) o' x',H[k]? = some o'->o'.alive=true->m.own[k]? = some x'->x'.B≠x.B)(Rv:∀i,x.o<=i->m.imm x.B i=none)(Af:¬(m.ext x.B\/x.B<gN))
  (OP:Y7 (m.own++[x]) m.imm x ob w) (Ai:∀s b,ob≠.ext s b):Sim E { m with own:=m.own++[x] } (H++[ob]) w:=by
 have key:∀(k:Nat) o1 x1,(H++[ob])[k]? = some o1->(m.own++[x])[k]? = some x1->(k<H.length/\H[k]? = some o1/\m.own[k]? = some x1)\/(k=H.length/\o1=ob/\x1=x):=by
  intro k o1 x1 hk hx;by_cases Ab:k<H.length
  ·rw[Gc Ab]at hk;rw[Gc (by rw[hs.len];exact Ab)]at hx;exact .inl ⟨Ab,hk,hx⟩
  ·have Dz:k<(H++[ob]).length:=(Gf.1 hk).1;have:k=H.length:=by simp at Dz;omega
   subst this;rw[<-hs.len]at hx;simp at hx hk;exact .inr ⟨rfl,hk.symm,hx.symm⟩
 refine⟨by simp[hs.len],λk o1 x1 hk hx=>?_,hs.imm,hs.one,λk k' o1 o2 x1 x2 hk AC ha AX hx Aw he=>?_,λk o1 x1 hk ha hx=>?_,λk s b hk=>?_,λk o1 x1 hk ha hx=>?_,hs.extlt,hs.gl⟩
 ·rcases key k o1 x1 hk hx with ⟨_,h1,h2⟩|⟨_,rfl,rfl⟩
  ·exact KO (KZ.append _ _) (KJ.refl _) (λ_=>rfl) (hs.obj k o1 x1 h1 h2)
  ·exact OP
 ·rcases key k o1 x1 hk hx with ⟨_,h1,h2⟩|⟨e1,rfl,rfl⟩ <;> rcases key k' o2 x2 AC Aw with ⟨_,h3,h4⟩|⟨e2,rfl,rfl⟩
  ·exact hs.sep k k' o1 o2 x1 x2 h1 h3 ha AX h2 h4 he
  ·exact absurd he (DU k o1 x1 h1 ha h2)
  ·exact absurd he.symm (DU k' o2 x2 h3 AX h4)
  ·omega
 ·rcases key k o1 x1 hk hx with ⟨_,h1,h2⟩|⟨_,rfl,rfl⟩
  ·exact hs.ro k o1 x1 h1 ha h2
  ·exact Rv
 ·by_cases Ab:k<H.length
  ·rw[Gc Ab]at hk;exact hs.ext k s b hk
  ·have Dz:k<(H++[ob]).length:=(Gf.1 hk).1;have:k=H.length:=by simp at Dz;omega
   subst this;simp at hk;exact(Ai s b hk).elim
 ·rcases key k o1 x1 hk hx with ⟨_,h1,h2⟩|⟨_,rfl,rfl⟩
  ·exact hs.extsep k o1 x1 h1 ha h2
  ·exact Af
theorem good_of_kill {s:Sem Next}(h:Good P E n0 m (H.set k .dead) w s v H'):Good P E n0 m H w s v H':=by obtain⟨m',w',r,nx,h1,h2,h3,h4⟩:=h;exact⟨m',w',r,nx,h1,h2,(Ext.kill n0 m H w k).trans h3,h4⟩
theorem good_grow {s:Sem Next}{cells:LJ}{len:Nat}(hs:Sim E m H w)(h:s.run P w=.ok (.value (.slice (some ⟨w.heap.size,0,none⟩) len cap)) (w.drew.alloc (.cells cells elem)))
  (Ad:els.length=len) (Bu:len<=cap) (BP:cells.size=cap*z) (hc:relO m.own m.imm z els (λi=>cells[i]?) 0) (h1:∀(i:Nat) v,cells[i]? = some v->v.oneCell'=true):Good P E n0 m H w s (.slc H.length 0 len none) (H++[.arr z els]):=by
 have AB:Sim E m H w.drew:=hs.congr rfl;have hx:(⟨w.heap.size,0,cells.size,z⟩:Own).B=w.drew.heap.size:=rfl;refine⟨{ m with own:=m.own++[⟨w.heap.size,0,cells.size,z⟩] },_,_,_,h,.inl rfl,(Ext.congr (w:=w) (w':=w.drew) rfl ⟨rfl,rfl,rfl⟩).trans (Ext.alloc (w':=w.drew.alloc (.cells cells elem)) AB rfl ⟨rfl,rfl,rfl⟩ _ _ hx),?_,?_,KZ.append _ _⟩
 ·refine AB.alloc (w':=w.drew.alloc (.cells cells elem)) rfl _ _ hx (λ_=>⟨rfl,cells,elem,heap_alloc_new w.drew _,rfl,?_,Ja8 (KZ.append _ _) (KJ.refl _) hc,h1⟩) (by intro s b h;cases h);simp only[BP,GG,Ad];exact Gj _ Bu
 ·simp only[rel];exact⟨_,_,_,last_own hs _,rfl,Bu,sM,λ_=>sM,by simp[BP]⟩
theorem JgJ{z:Lu}(hz:J7 own imm z zv.toList)(h1:Xk z=true)(h0:z.length≠0){N:Nat}:∀v∈(Builtin.zeroCells zv N).toList,v.oneCell'=true:=by
 intro v hv;obtain⟨i,hi⟩:=Gy hv;have h2:(Builtin.zeroCells zv N)[i]? = some v:=by simpa using hi
 exact Jhz hz h1 h0 (N:=N*zv.size) i v h2
theorem JfU{e:TypeId}{z:Lu}{i:TypeInfo}{so xo:Operand}{is:IArg}(ho:o.op=.call cl)(Cy:cl.callee=.builtin .append)(Cj:cl.argTypes.toList=[t,u])(Ee:cl.args.toList=[so,xo])(hd:P.underlying t=some (.slice e))(hu:P.underlying u=some du)(Mf:(∃k,du=.slice k)\/du=.string)
  (hz:zeroOf P e=some z) (hi:P.info? e=some i) (h0:z.length≠0) (Rj:JP so=some is) (PW:JP xo=some ix) (he:exec (.append z.length i.bytes is ix) T H=some (c,v,H')) (hc:c.holds) (hp:Pre E n0 m H w T a):Good P E n0 m H w (execOp a.eval o) v H':=by
 have hS:=JZ hp.tmps Rj;have hX:=JZ hp.tmps PW;obtain⟨i',zv,Dc,fA,Rp,M7,Dw,Oy⟩:=JbC (P:=P) (w:=w) hz;rw[hi]at Dc;cases Dc;have Iu:cl.argTypes=#[t,u]:=by cases hh:cl.argTypes;simp_all
 have BU:cl.args=#[so,xo]:=by cases hh:cl.args;simp_all
 have Ak:∀(r:Value) w',(Builtin.append_ #[t,u] o.type #[a.eval so,a.eval xo]).run P w=.ok r w'->(execOp a.eval o).run P w=.ok (.value r) w':=by intro r w' hr;simp[execOp,ho,resolve,Cy,invoke,builtin,Iu,BU,hr]
 have DJ:=Ke (M7 m.own m.imm);have bX:zv.cells.size=i.size:=by simp at DJ;omega
 simp only[exec]at he
 split at he
 ·rename_i xs Fy;obtain⟨news,Ao,Ad,Sk,CX⟩:=Jfn hp.sim hX Fy;have O8:∀w',w'.heap=w.heap->(Builtin.firstCells i.size xs.length (a.eval xo)).run P w'=.ok news.toArray w':=by intro w' hw;have:=Sk xs.length (Gg _) w' hw;rw[GL (Nat.le_of_eq Ao.len)]at this;rw[<-Dw];exact this
  have grow:∀(m1:Bk) (H1:Lv) (sb:Option Addr) (sLen sCap:Nat) (eo:LQ) (olds:LH),Sim E m1 H1 w->m1=m->H1.length=H.length->a.eval so=.slice sb sLen sCap->Yr m.own m.imm z.length eo olds->eo.length=sLen->(∀v∈olds,v.oneCell'=true)->
    (∀w',w'.heap=w.heap->(Builtin.firstCells i.size sLen (.slice sb sLen sCap)).run P w'=.ok olds.toArray w')->sCap<sLen+xs.length->(JA (sLen+xs.length) i.bytes).holds->Good P E n0 m1 H1 w (execOp a.eval o) (.slc H.length 0 (sLen+xs.length) none) (H1++[.arr z.length (eo++xs)]):=by
   intro m1 H1 sb sLen sCap eo olds EL hm jH Ur DR dH FB CZ hg Bv;subst hm;obtain⟨cap,Bu,hr⟩:=run_grow (P:=P) (w:=w) (ty:=o.type) hd hu Mf hi fA Ad O8 CZ hg Bv.1 Bv.2;have Aj:=DR.append Ao;rw[<-jH];refine good_grow EL (Ak _ _ (by rw[Ur];exact hr)) (by simp[dH]) Bu ?_ (Aj.relO λi v hv=>?_) ?_
   ·have h1:=DR.len;have h2:=Ao.len;simp only[Array.size_append,G7,size_zeroCells,h1,h2,dH,bX,Dw];rw[<-Gd,<-Gd];congr 1;omega
   ·have Ab:i<(olds++news).length:=(Gf.1 hv).1;simp only[GG];rw[Array.getElem?_append_left (by simpa using Ab)];simpa using hv
   ·intro j v hv;have hm:=GK hv;simp only[Array.mem_append,List.mem_toArray]at hm;rcases hm with (h1|h1)|h1
    ·exact FB v h1
    ·exact CX v h1
    ·exact JgJ (M7 m1.own m1.imm) Oy h0 v (by simpa using h1)
  cases xs with
  |nil=>
   have hn:news=[]:=Gx (by rw[Ao.len];simp);subst hn;have none_:∀sb sLen sCap,a.eval so=.slice sb sLen sCap->sLen<=sCap->(execOp a.eval o).run P w=.ok (.value (a.eval so)) w:=by intro sb sLen sCap Ur Be;rw[Ur];exact Ak _ _ (by rw[Ur];exact JeC hd hu Mf hi (by simpa using Ad) (by simpa using O8 w rfl) Be)
   have ES:=hS
   cases hx:Kg T is <;> rw[hx]at he hS <;> simp[K9]at he
   ·obtain⟨_,rfl,rfl⟩:=he;simp only[rel]at hS;rw[hx]at ES;exact JE hp.sim (none_ _ _ _ hS (Gg _)) ES
   ·obtain⟨_,rfl,rfl⟩:=he;simp only[rel]at hS;obtain⟨x',ba,rc,Aw,hv,DV,_⟩:=hS;rw[hx]at ES;exact JE hp.sim (none_ _ _ _ hv DV) ES
   ·obtain⟨_,rfl,rfl⟩:=he;simp only[rel]at hS;rw[hx]at ES;rcases hS with ⟨_,_,b,hv⟩|⟨B,q,rc,hv,DV,_⟩
    ·exact JE hp.sim (none_ _ _ _ hv (Gg _)) ES
    ·exact JE hp.sim (none_ _ _ _ hv DV) ES
  |cons x0 xs'=>
   generalize Pp:x0::xs'=xs at *;have Ey:0<xs.length:=by rw[<-Pp];simp
   have BZ:K9 z.length i.bytes H (Kg T is) (x0::xs')=some (c,v,H'):=by rw[Pp];exact he
   clear he
   cases hx:Kg T is with
   |nils=>rw[hx]at BZ hS;simp only[K9,Ga,Gb,Pp]at BZ;obtain⟨rfl,rfl,rfl⟩:=BZ;simp only[rel]at hS;have:=grow m H none 0 0 [] [] hp.sim rfl rfl hS ⟨sM,by simp[J7]⟩ rfl sM (λw' _=>by simp[Builtin.firstCells]) om (by simpa using hc);simpa using this
   |rslc z' els cap=>
    rw[hx]at BZ hS;simp only[K9]at BZ
    cases cap with
    |none=>simp at BZ
    |some c0=>
     by_cases EQ:z'=z.length
     ·subst EQ;simp only[if_true,Ga,Gb,Pp]at BZ;obtain⟨rfl,rfl,rfl⟩:=BZ;simp only[rel]at hS;rcases hS with ⟨h0,Fp,b0,UX⟩|⟨B,q,rc,hv,DV,Bu,AR⟩
      ·have DF:c0=0:=by
        rcases h0 with h0|h0
        ·cases h0
        ·exact Hr h0
       subst DF Fp;have:=grow m H b0 0 0 [] [] hp.sim rfl rfl UX ⟨sM,by simp[J7]⟩ rfl sM (λw' _=>by cases b0 <;> simp[Builtin.firstCells,loadCells,loadCellsFrom]) om hc.2;simpa using this
      have I7:=Bu c0 rfl;subst I7;obtain⟨olds,DR,hR⟩:=Ja6 (JeI (own:=m.own) AR);refine grow m H _ _ _ els olds hp.sim rfl rfl hv DR rfl (λv hv=>?_) (λw' hw=>?_) ?_ hc.2
      ·obtain⟨j,hj⟩:=Gy hv;exact hp.sim.one _ _ v (hR j v hj)
      ·rw[<-Dw];exact run_firstCells_some w' _ _ _ _ _ olds DR.len (λj v hv=>by rw[addr_add];exact(cell?_congr (by rw[hw])).trans (hp.sim.imm _ _ _ (hR j v hv)))
      ·have:=hc.1;simp only[Cond.holds]at this;omega
     ·simp[EQ]at BZ
   |slc id off len cap=>
    rw[hx]at BZ hS;simp only[K9]at BZ;simp only[rel]at hS;obtain⟨x',ba,rc,Aw,hv,DV,Bu,Mi,Be⟩:=hS
    split at BZ
    ·rename_i z' els0 hH;have key:z'=z.length/\∃els:LQ,off+len=els.length/\(∀(R:Nat->LG) (o:Nat),relO m.own m.imm z.length els0 R o->relO m.own m.imm z.length els R o)/\(match (generalizing:=false) cap with
       |none=>some (JA (len+(x0::xs').length) i.bytes,CV.slc H.length 0 (len+(x0::xs').length) none,(H.set id .dead)++[.arr z.length (els.drop off++(x0::xs'))])
       |some c=>some (.and (.le (c+1) (len+(x0::xs').length)) (JA (len+(x0::xs').length) i.bytes),CV.slc H.length 0 (len+(x0::xs').length) none,H++[.arr z.length (els.drop off++(x0::xs'))]))=some (c,v,H'):=by
      by_cases EQ:z'=z.length/\off+len=els0.length
      ·rw[if_pos EQ]at BZ;exact⟨EQ.1,els0,EQ.2,λ_ _ h=>h,BZ⟩
      ·rw[if_neg EQ]at BZ;by_cases Oz:z'=z.length/\off+len<=els0.length/\cap=none
       ·rw[if_pos Oz]at BZ;obtain⟨h1,h2,rfl⟩:=Oz;refine⟨h1,els0.take (off+len),by rw[Gl];omega,λR o h j ee hj=>?_,BZ⟩;rw[GY]at hj
        split at hj
        ·exact h j ee hj
        ·cases hj
       ·rw[if_neg Oz]at BZ;cases BZ
     ·obtain⟨rfl,els,Bd,OE,BZ⟩:=key;obtain⟨Ev,cells,elem,hb,BP,OY,Rt,Cx⟩:=hp.sim.obj id _ x' hH Aw;have AR:=OE _ _ (by rw[<-Ev];exact Rt);rw[<-Ev]at AR;have D5:=relO_sub AR off;rw[Ev]at D5;obtain⟨olds,DR,hR⟩:=Ja6 D5;have AU:(els.drop off).length=len:=by simp;omega
      have FB:∀v∈olds,v.oneCell'=true:=λv hv=>by obtain⟨j,hj⟩:=Gy hv;exact Cx _ v (hR j v hj)
      have CZ:∀w',w'.heap=w.heap->(Builtin.firstCells i.size len (.slice (some ba) len rc)).run P w'=.ok olds.toArray w':=by
       intro w' hw;by_cases jW:rc=0
       ·have:len=0:=om
        subst this;have hn:olds=[]:=Gx (by rw[DR.len,AU];simp);subst hn;simp[Builtin.firstCells,loadCells,loadCellsFrom]
       ·have:=Mi jW;subst this;rw[<-Dw,Ev];have:=DR.len;rw[AU]at this;exact run_firstCells_some w' _ _ _ _ _ olds this (λj v hv=>by rw[addr_add];refine(cell?_congr (w:=w) (by rw[hw])).trans ?_;simp only[World.cell?,hb];simpa using hR j v hv)
      cases cap with
      |some c0=>simp only[Ga,Gb,Pp]at BZ;obtain⟨rfl,rfl,rfl⟩:=BZ;have I7:=Bu c0 rfl;exact grow m H _ _ _ (els.drop off) olds hp.sim rfl rfl hv DR AU FB CZ (by have:=hc.1;simp only[Cond.holds]at this;omega) hc.2
      |none=>
       simp only[Ga,Gb,Pp]at BZ;obtain⟨rfl,rfl,rfl⟩:=BZ;by_cases Bv:len+xs.length<=rc
       ·
        have Ca:=Mi om;subst Ca;have DT:=Ao.len;have Eh:(off+(len+xs.length))*x'.z<=(off+rc)*x'.z:=Gj _ om;have e1:(off+rc)*x'.z=off*x'.z+rc*x'.z:=Gd _ _ _;have e2:(off+(len+xs.length))*x'.z=off*x'.z+len*x'.z+xs.length*x'.z:=by rw[Gd,Gd];omega
        have R7:i.size=x'.z:=by rw[Ev,Dw]
        rw[<-Ev]at DT;have Fh:x'.o+off*x'.z+len*i.size+news.length<=cells.size:=by rw[R7,DT,BP];omega
        have hr:=run_room (P:=P) (w:=w) (ty:=o.type) hd hu Mf hi Ad (O8 w rfl) hb Bv Fh CX;rw[R7]at hr Fh;have M5:=D5;rw[<-Ev]at M5 Ao
        let cs:LJ:=(cells.toList.take (x'.o+off*x'.z+len*x'.z)++news++cells.toList.drop (x'.o+off*x'.z+len*x'.z+news.length)).toArray
        have Eo:cs.size=x'.n:=by simp[cs];omega
        have rd:∀p,cs[p]? = if x'.o+off*x'.z+len*x'.z<=p/\p<x'.o+off*x'.z+len*x'.z+news.length then news[p-(x'.o+off*x'.z+len*x'.z)]? else cells[p]?:=by
         intro p;simp only[cs,GM];have hA:(cells.toList.take (x'.o+off*x'.z+len*x'.z)).length=x'.o+off*x'.z+len*x'.z:=by simp;omega
         by_cases h1:p<x'.o+off*x'.z+len*x'.z
         ·have h2:p<(cells.toList.take (x'.o+off*x'.z+len*x'.z)).length:=om
          rw[Gz,Gc h2,Gq h1,iN7];simp
         ·by_cases h2:p<x'.o+off*x'.z+len*x'.z+news.length
          ·have h3:p<(cells.toList.take (x'.o+off*x'.z+len*x'.z)++news).length:=by rw[Gn];omega
           have h4:(cells.toList.take (x'.o+off*x'.z+len*x'.z)).length<=p:=om
           rw[Gc h3,Gm h4,hA,if_pos ⟨om,h2⟩]
          ·have h3:(cells.toList.take (x'.o+off*x'.z+len*x'.z)++news).length<=p:=by rw[Gn];omega
           rw[Gm h3,iN7,Gr];simp only[Gn,hA];rw[show x'.o+off*x'.z+len*x'.z+news.length+(p-(x'.o+off*x'.z+len*x'.z+news.length))=p by omega];simp
        have Rs:relO m.own m.imm x'.z (els.drop off++xs) (λi=>cs[i]?) (x'.o+off*x'.z):=by
         intro j ee hj;by_cases A8:j<len
         ·rw[Gc om]at hj;have:=M5 j ee hj;refine⟨this.1,λt c hc=>?_⟩;obtain⟨r,CB,CJ⟩:=this.2 t c hc;have ht:t<x'.z:=this.1▸(Gf.1 hc).1;have:(j+1)*x'.z<=len*x'.z:=Gj _ A8;rw[Gd,Gs]at this;exact⟨r,by show cs[_]? = _;rw[rd,iN7];exact CB,CJ⟩
         ·rw[Gm om,AU]at hj;have U9:=Ao.relO (R:=λi=>news[i]?) (o:=0) (λi v hv=>by simpa using hv);have:=U9 _ ee hj;refine⟨this.1,λt c hc=>?_⟩;obtain⟨r,CB,CJ⟩:=this.2 t c hc;have ht:t<x'.z:=this.1▸(Gf.1 hc).1;simp only[GG]at CB;have Ab:=(Gf.1 CB).1;have e3:j*x'.z=len*x'.z+(j-len)*x'.z:=by rw[<-Gd];congr 1;omega
          refine⟨r,?_,CJ⟩;show cs[_]? = _;rw[rd,iP7,show x'.o+off*x'.z+j*x'.z+t-(x'.o+off*x'.z+len*x'.z)=(j-len)*x'.z+t by omega];exact CB
        have OW:∀q,q<x'.o->cs[q]? = cells[q]?:=λq hq=>by rw[rd,iN7]
        have RB:∀(q:Nat) v,cs[q]? = some v->v.oneCell'=true:=Jb6 Cx CX;have R8:(w.setRow x'.B cs).heap[x'.B]? = some (.cells cs elem (0,0)):=setRow_heap w x'.B cells cs elem (0,0) hb;have Sw:Sim E m (H.set id .dead) (w.setRow x'.B cs):=by refine hp.sim.put hH rfl Aw (setRow_size _ _ _) (λB hB=>setRow_other w x'.B B cs hB) (λq hq=>?_) trivial (by intro s b h;cases h);rw[cell_setRow_same w x'.B q cells cs elem (0,0) hb,OW q hq];simp[World.cell?,hb]
        have Pg:=Sw.adopt ⟨x'.B,x'.o+off*x'.z,x'.n,x'.z⟩ (.arr z.length (els.drop off++xs)) (λk o' x2 hk ha Bg=>?_) (λq hq=>hp.sim.ro id _ x' hH rfl Aw q (by simp only at hq;omega)) (hp.sim.extsep id _ x' hH rfl Aw) ⟨Ev,cs,elem,R8,Eo,?_,Ja8 (KZ.append _ _) (KJ.refl _) Rs,RB⟩ (by intro s b h;cases h)
        ·refine⟨_,_,_,_,Ak _ _ (by rw[hv];exact hr),.inl rfl,?_,Pg,?_,KZ.append _ _⟩
         ·refine⟨by rw[setRow_size];exact Gg _,λB hB hn=>setRow_other w x'.B B cs λe=>hn (e▸.inr ⟨id,_,x',hH,rfl,Aw,rfl⟩),KJ.refl _,λB hB=>.inl ?_,λB q v h=>.inl h,λk x2 hk Bg=>?_,λh=>by simp;omega,JdC _ _ _⟩
          ·rcases hB with hB|⟨k,o2,x2,hk,Dp,Bg,rfl⟩
           ·exact .inl hB
           ·simp only at Bg;by_cases Ab:k<H.length
            ·rw[Gc (by simpa using Ab)]at hk;rw[Gc (by rw[hp.sim.len];exact Ab)]at Bg;rw[Gi]at hk
             split at hk
             ·split at hk
              ·simp at hk;subst hk;cases Dp
              ·cases hk
             ·exact .inr ⟨k,o2,x2,hk,Dp,Bg,rfl⟩
            ·have Dz:=(Gf.1 Bg).1;have:k=m.own.length:=by have:=hp.sim.len;simp at Dz;omega
             subst this;simp at Bg;subst Bg;exact .inr ⟨id,_,x',hH,rfl,Aw,rfl⟩
          ·simp only;rw[Gc (Gf.1 Bg).1];exact Bg
         ·simp only[rel];refine⟨⟨x'.B,x'.o+off*x'.z,x'.n,x'.z⟩,_,_,by rw[<-hp.sim.len];simp,rfl,Bv,sM,λ_=>sM,by simp;omega⟩
        ·rw[Gi]at hk
         split at hk
         ·split at hk
          ·simp at hk;subst hk;cases ha
          ·cases hk
         ·rename_i Ai;exact λe=>Ai (hp.sim.sep id k _ o' x' x2 hH hk rfl ha Aw Bg e.symm)
        ·simp only[Gn,AU];rw[show (len+xs.length)*x'.z=len*x'.z+xs.length*x'.z from Gd _ _ _];omega
       ·have:=grow m (H.set id .dead) _ _ _ (els.drop off) olds (hp.sim.kill id (λs b h=>by rw[hH]at h;cases h)) rfl sM hv DR AU FB CZ om hc;exact good_of_kill this
    ·cases BZ
   |_=>rw[hx]at BZ;simp[K9]at BZ
 ·cases he
end
section
variable{c:Cond}{v:CV}{o:Oper}
theorem Jfe:∀(els:LQ) (i:Nat) (l:Lu),(∀e∈els,e.length=z)->i<els.length->l.length=z->(els.set i l).flatten=splice els.flatten (i*z) l
 |[],i,l,_,h,_=>by simp at h
 |e::es,0,l,hz,_,hl=>by have he:e.length=z:=hz e sM;simp[splice,hl,<-he]
 |e::es,i+1,l,hz,h,hl=>by
  have he:e.length=z:=hz e sM;have ih:=Jfe es i l (λx hx=>hz x (by simp[hx])) (by simpa using h) hl;simp only[List.set_cons_succ,GQ,ih,splice];have e1:(i+1)*z=e.length+i*z:=by rw[Gd,he];omega
  rw[e1,List.take_length_add_append,GU,List.drop_length_add_append,Gz]
theorem JcN(hT:J7 own imm T a.tmps.toList):∀(ps:List (Nat×Operand)) (l:List (Nat×IArg)) (els out:LQ) (vs:LJ),JbD ps=some l->X7 T z els l=some out->Yr own imm z els vs.toList->(∀v∈vs.toList,v.oneCell'=true)->
  ∃vs',Instr.fill (λi=>some (i*z,z)) vs (ps.map λp=>(p.1,a.eval p.2))=some vs'/\Yr own imm z out vs'.toList/\(∀v∈vs'.toList,v.oneCell'=true)/\out.length=els.length
 |[],l,els,out,vs,hl,hf,hr,h1=>by simp[JbD]at hl;subst hl;simp[X7]at hf;subst hf;exact⟨vs,by simp[Instr.fill],hr,h1,rfl⟩
 |(i,x)::ps,l,els,out,vs,hl,hf,hr,h1=>by
  simp only[JbD]at hl
  split at hl
  ·rename_i ia l' h2 h3
   cases hl
   simp only[X7]at hf
   split at hf
   ·cases hf
   ·rename_i lc DV
    split at hf
    ·rename_i Ad;have hx:=JcU (JZ hT h2) DV;have Br:=Ke hx;have FW:(a.eval x).cells.size=z:=by have:=Ad.1;simp at Br;omega
     have I5:=hr.len;simp at I5;have Eh:(i+1)*z<=els.length*z:=Gj _ Ad.2.1;rw[Gd,Gs]at Eh;have Be:i*z+z<=vs.size:=om
     have hs:=JeH hr.2 hx (i*z);simp only[Gu,FW]at hs;have Re:=fill_one FW Be;rw[<-Re]at hs;have Ao:Yr own imm z (els.set i lc) ((a.eval x).cells.zipIdx.foldl (λcs (c,j)=>cs.setIfInBounds (i*z+j) c) vs).toList:=⟨λe he=>by rcases List.mem_or_eq_of_mem_set he with h|rfl;exact hr.1 e h;exact Ad.1,by rw[Jfe els i lc hr.1 Ad.2.1 Ad.1];exact hs⟩
     have Bl:∀v∈((a.eval x).cells.zipIdx.foldl (λcs (c,j)=>cs.setIfInBounds (i*z+j) c) vs).toList,v.oneCell'=true:=by
      rw[Re];intro v hv;rcases GR.1 hv with h4|h4
      ·rcases GR.1 h4 with h5|h5
       ·exact h1 v (G6 h5)
       ·exact YG hx Ad.2.2 v h5
      ·exact h1 v (Hu h4)
     obtain⟨vs',hv,Pw,IJ,R4⟩:=JcN hT ps l' _ out _ h3 hf Ao Bl;refine⟨vs',?_,Pw,IJ,by simpa using R4⟩;simp only[Hd,Instr.fill];simp only[FW,ne_eq,not_true_eq_false,decide_false,H9,decide_eq_true_eq];rw[iN7];exact hv
    ·cases hf
  ·cases hl
theorem snd_bslice{e:TypeId}{z:Lu}{l:List (Nat×IArg)}(ho:o.op=.buildSlice t n ps)(hd:P.underlying t=some (.slice e))(hz:zeroOf P e=some z)(hl:JbD ps.toList=some l)(h0:z.length≠0)(hn:n*z.length<=2 ^ 24)
  (he:exec (.bslice z.length n z l) T H=some (c,v,H')) (hp:Pre E n0 m H w T a):Good P E n0 m H w (execOp a.eval o) v H':=by
 obtain⟨i,zv,hi,_,Ak,hrel,Ad,Oy⟩:=JbC (P:=P) (w:=w) hz;simp only[exec]at he
 split at he
 ·rename_i out A7;simp only[Ga,Gb]at he;obtain⟨_,rfl,rfl⟩:=he;have BP:(sizeOf e).run P w=.ok z.length w:=by simp[sizeOf,typeInfo,hi,Ad]
  let base:LJ:=(GD (n*z.length)).map (λj=>zv.cells[j % zv.cells.size]!)
  have AR:=JcE (hrel m.own m.imm) n n h0 (Gg _);have Sz:Yr m.own m.imm z.length (Gv n z) base.toList:=by
   obtain⟨vs,Ao,hR⟩:=Ja6 AR;have I5:=Ao.len;have:vs=base.toList:=by
    apply Hz;intro j;by_cases hj:j<vs.length
    ·have:=hR j vs[j] (Gh hj);rw[Gh hj,<-this,Hl,GG]
    ·rw[GN om,GN];simp[base]at I5|-;omega
   rw[<-this];exact Ao
  have Bl:∀v∈base.toList,v.oneCell'=true:=by
   intro v hv;obtain⟨j,hj⟩:=Gy hv;have Oe:base[j]? = some v:=by simpa using hj
   exact Jhz (hrel m.own m.imm) Oy h0 (N:=n*z.length) j v Oe
  obtain⟨vs',hv,Pw,IJ,Bd⟩:=JcN (a:=a) hp.tmps ps.toList l _ out base hl A7 Sz Bl;have I5:=Pw.len;simp at Bd;refine good_row (r:=.slice (some ⟨w.heap.size,0,none⟩) n n) (cells:=vs') (elem:=e) (z:=z.length) hp.sim ?_ (by simp at I5;omega) (Pw.relO λj v hv=>by simpa using hv) (λj v hv=>IJ v (G5.2 (GK hv))) ?_
  ·have Ez:(ps.map (λ(p:Nat×Operand)=>(p.1,a.eval p.2))).toList=ps.toList.map λp=>(p.1,a.eval p.2):=sM
   have ak:¬(n*z.length > 2 ^ 24):=om
   simp only[execOp,ho,Instr.buildSlice,Sem.run_bind,run_underlying hd,Result.andThen_ok,BP,ak,if_false];by_cases Ij:n*z.length=0
   ·have Ed:base=(GD (n*z.length)).map (λx=>(#[]:LJ)[x % 0]!):=by
     apply Array.ext
     ·simp[base]
     ·intro j h1 _;simp[base,Ij]at h1
    rw[Ed]at hv;simp only[Ij,if_true,Sem.run_bind,Sem.run_pure,Result.andThen_ok,G7,List.length_nil]at hv|-;rw[Ez];simp only[hv,newRow,Sem.run_bind,run_newObj,Result.andThen_ok,Sem.run_pure,World.alloc_eq]
   ·simp only[Ij,if_false,Sem.run_bind,Sem.run_pure,Result.andThen_ok,Ak];rw[Ez];simp only[base]at hv;simp only[hv,newRow,Sem.run_bind,run_newObj,Result.andThen_ok,Sem.run_pure,World.alloc_eq]
  ·simp only[rel];refine⟨_,_,_,JeV hp.sim _,rfl,Gg _,sM,λ_=>sM,by simp at I5|-;rw[I5,Bd];exact Gg _⟩
 ·cases he
theorem snd_nchk {x:Operand}(ho:o.op=.nilCheck x)(hx:JP x=some i)(he:exec (.nchk i) T H=some (c,v,H'))(hp:Pre E n0 m H w T a):Good P E n0 m H w (execOp a.eval o) v H':=by
 have h1:=JZ hp.tmps hx;simp only[exec]at he
 split at he
 ·rename_i e;simp only[Ga,Gb]at he;obtain⟨_,rfl,rfl⟩:=he;rw[e]at h1;have h2:=h1;simp only[rel]at h2;obtain⟨x',Aw,hv⟩:=h2;exact JE hp.sim (r:=a.eval x) (by simp[execOp,ho,hv]) h1
 ·rename_i e;simp only[Ga,Gb]at he;obtain⟨_,rfl,rfl⟩:=he;rw[e]at h1;have h2:=h1;simp only[rel]at h2;obtain⟨B,q,hv,_⟩:=h2;exact JE hp.sim (r:=a.eval x) (by simp[execOp,ho,hv]) h1
 ·rename_i e;simp only[Ga,Gb]at he;obtain⟨_,rfl,rfl⟩:=he;rw[e]at h1;have h2:=h1;simp only[rel]at h2;obtain⟨vs1,vs2,hv,_⟩:=h2;exact JE hp.sim (r:=a.eval x) (by simp[execOp,ho,hv]) h1
 ·cases he
theorem JdP {len:Nat}{lo hi:LG}{l:Int}
  (I9:(lo=none/\l=0)\/∃k,lo=some (.int k l)) (Ia:(hi=none/\h=len)\/∃k,hi=some (.int k h)) (h0:0<=l) (h1:l<=h) (h2:h<=len) :
  (Instr.sliceBounds false len len lo hi none).run P w=.ok (l.toNat,h.toNat,len) w:=by
 have hh:(h.toNat:Int)=h:=om
 unfold Instr.sliceBounds;rcases Ia with ⟨rfl,rfl⟩|⟨k,rfl⟩
 ·rcases I9 with ⟨rfl,rfl⟩|⟨k,rfl⟩
  ·simp
  ·simp[run_sliceBound h0 h1]
 ·rcases I9 with ⟨rfl,rfl⟩|⟨k',rfl⟩
  ·simp[run_sliceBound (show (0:Int)<=h by omega) h2]
  ·simp[run_sliceBound (show (0:Int)<=h by omega) h2,run_sliceBound h0 (show l<=(h.toNat:Int) by omega)]
theorem opt_hi {T:Lu}{d:Int}(hT:J7 own imm T a.tmps.toList){l:Int}(h:Xa lo=some ilo)(hl:X9 T d ilo=some l):(lo.map a.eval=none/\l=d)\/∃k,lo.map a.eval=some (.int k l):=by
 cases lo with
 |none=>simp[Xa]at h;subst h;simp[X9]at hl;exact .inl ⟨rfl,hl.symm⟩
 |some x=>
  simp only[Xa]at h
  cases hx:JP x with
  |none=>simp[hx]at h
  |some i=>simp[hx]at h;subst h;simp only[X9]at hl;obtain⟨k,hk⟩:=opt_int (a:=a) hT hx hl;exact .inr ⟨k,by simp[hk]⟩
theorem snd_sliceS{x:Operand}{hi:Option Operand}(ho:o.op=.slice t x lo hi none)(hd:P.underlying t=some .string)(hx:JP x=some ix)(I9:Xa lo=some ilo)(Ia:Xa hi=some ihi)
  (he:exec (.sliceS ix ilo ihi) T H=some (c,v,H')) (hc:c.holds) (hp:Pre E n0 m H w T a):Good P E n0 m H w (execOp a.eval o) v H':=by
 have h1:=JZ hp.tmps hx;simp only[exec]at he
 split at he
 ·rename_i s e;rw[e]at h1;simp only[rel]at h1
  split at he
  ·rename_i l h hl hh;simp only[Ga,Gb]at he;obtain⟨rfl,rfl,rfl⟩:=he;simp only[Cond.holds]at hc;have hb:=JdP (P:=P) (w:=w) (len:=s.size) (opt_hi (a:=a) hp.tmps I9 hl) (opt_hi (a:=a) hp.tmps Ia hh) hc.1 hc.2.1 hc.2.2;refine JE hp.sim (r:=.string (s.extract l.toNat h.toNat)) ?_ rfl;simp[execOp,ho,Instr.sliceAt,run_underlying hd,Instr.slice,h1,hb]
  ·cases he
 ·cases he
theorem snd_mx{x y:Operand}{j:IArg}{big:Bool}(ho:o.op=.call cl)(Cy:cl.callee=.builtin (if big then .max else .min))(Ee:cl.args.toList=[x,y])(hx:JP x=some i)(hy:JP y=some j)
  (he:exec (.mmx big i j) T H=some (c,v,H')) (hp:Pre E n0 m H w T a):Good P E n0 m H w (execOp a.eval o) v H':=by
 have h1:=JZ hp.tmps hx;have h2:=JZ hp.tmps hy;have BU:cl.args=#[x,y]:=by cases hh:cl.args;simp_all
 simp only[exec]at he
 split at he
 ·rename_i k p k' q e1 e2;rw[e1]at h1;rw[e2]at h2;simp only[rel]at h1 h2
  split at he
  ·rename_i hk;subst hk;simp only[Ga,Gb]at he;obtain⟨_,rfl,rfl⟩:=he
   cases big with
   |true=>exact JE hp.sim (r:=.int k (if q > p then q else p)) (by simp[execOp,ho,resolve,Cy,invoke,builtin,BU,Builtin.max_,Builtin.max2,h1,h2]) (by simp[rel])
   |false=>exact JE hp.sim (r:=.int k (if q<p then q else p)) (by simp[execOp,ho,resolve,Cy,invoke,builtin,BU,Builtin.min_,Builtin.min2,h1,h2]) (by simp[rel])
  ·cases he
 ·cases he
theorem snd_copy{e:TypeId}{x y:Operand}{iy:IArg}{z:Lu}(ho:o.op=.call cl)(Cy:cl.callee=.builtin .copy)(Cj:cl.argTypes.toList=[t,u])(Ee:cl.args.toList=[x,y])(hd:P.underlying t=some (.slice e))(hz:zeroOf P e=some z)(h0:z.length≠0)(hx:JP x=some ix)(hy:JP y=some iy)
  (he:exec (.copy z.length ix iy) T H=some (c,v,H')) (hc:c.holds) (hp:Pre E n0 m H w T a):Good P E n0 m H w (execOp a.eval o) v H':=by
 have h1:=JZ hp.tmps hx;have h2:=JZ hp.tmps hy;obtain⟨i,zv,hi,_,Rp,hrel,Dw,Oy⟩:=JbC (P:=P) (w:=w) hz;have Iu:cl.argTypes=#[t,u]:=by cases hh:cl.argTypes;simp_all
 have BU:cl.args=#[x,y]:=by cases hh:cl.args;simp_all
 have BP:(sizeOf e).run P w=.ok z.length w:=by simp[sizeOf,typeInfo,hi,Dw]
 have Ak:∀(r:Value) w',(Builtin.copy_ #[t,u] o.type #[a.eval x,a.eval y]).run P w=.ok r w'->(execOp a.eval o).run P w=.ok (.value r) w':=by intro r w' hr;simp[execOp,ho,resolve,Cy,invoke,builtin,Iu,BU,hr]
 simp only[exec]at he
 split at he
 ·cases he
 ·rename_i xs Fy;obtain⟨news,Ao,Ad,Sk,CX⟩:=Jfn (P:=P) hp.sim h2 Fy;have Ip:∀(b:Option Addr) (cp:Nat),a.eval x=.slice b 0 cp->(Builtin.copy_ #[t,u] o.type #[a.eval x,a.eval y]).run P w=.ok (.int .i64 0) w:=by
   intro b cp hv;have hf:=Sk 0 (Nat.zero_le _) w rfl;rw[HZ,Ha]at hf
   cases b <;> simp[Builtin.copy_,run_underlying hd,hv,Ad,BP,hf,storeCells,goInt]
  split at he
  ·rename_i e1;rw[e1]at h1;simp only[rel]at h1;simp only[Ga,Gb]at he;obtain⟨_,rfl,rfl⟩:=he;exact JE hp.sim (Ak _ _ (Ip none 0 h1)) rfl
  ·rename_i id off len cap e1;rw[e1]at h1;simp only[rel]at h1;obtain⟨x',ba,rc,Aw,hv,DV,Bu,Mi,Be⟩:=h1
   split at he
   ·rename_i z' els hH
    split at he
    ·rename_i EQ;subst EQ;simp only[Ga,Gb]at he;obtain⟨rfl,rfl,rfl⟩:=he;have Bd:off+len<=els.length:=hc;generalize RI:min xs.length len=n at *;have Dt:n<=xs.length:=om
     have DT:n<=len:=om
     have RU:Nat.min xs.length len=n:=RI;by_cases A9:n=0
     ·subst A9;have e2:H.set id (.arr z.length (els.take off++(xs.take 0++els.drop (off+0))))=H:=by
       have e2:els.take off++(xs.take 0++els.drop (off+0))=els:=sM
       rw[e2];apply Hz;intro j;rw[Gi]
       split
       ·rename_i hj;subst hj;rw[hH];have:=(Gf.1 hH).1;simp[this]
       ·rfl
      rw[e2];have hf:=Sk 0 (Nat.zero_le _) w rfl;rw[HZ,Ha]at hf;exact JE hp.sim (r:=.int .i64 0) (Ak _ _ (by simp[Builtin.copy_,run_underlying hd,hv,Ad,BP,RU,hf,storeCells,goInt])) (by simp[rel])
     ·have Ca:=Mi om;subst Ca;obtain⟨Ev,cells,elem,hb,Iz,OY,AR,Cx⟩:=hp.sim.obj id _ x' hH Aw;have PV:x'.z=z.length:=Ev;have Z7:=Ao.len;have MG:n*x'.z<=xs.length*x'.z:=Gj _ Dt
      let nw:=news.take (n*z.length)
      have Z9:nw.length=n*x'.z:=by simp only[nw,Gl];rw[<-PV]at Z7|-;omega
      have IL:∀v∈nw,v.oneCell'=true:=λv hv=>CX v (G6 hv)
      have Eh:(off+n)*x'.z<=els.length*x'.z:=Gj _ om;rw[Gd]at Eh;have Al:=run_storeCells_at P x'.B (x'.o+off*x'.z) elem nw 0 cells w hb (by rw[Z9];omega) IL;simp only[GV]at Al;have hf:=Sk n Dt w rfl
      let cs:LJ:=(cells.toList.take (x'.o+off*x'.z)++nw++cells.toList.drop (x'.o+off*x'.z+nw.length)).toArray
      have hr:(Builtin.copy_ #[t,u] o.type #[a.eval x,a.eval y]).run P w=.ok (.int .i64 (n:Int)) (w.setRow x'.B cs):=by simp only[Builtin.copy_,GM,List.getElem?_cons_zero,List.getElem?_cons_succ,Sem.run_bind,run_underlying hd,hv,Ad,Result.andThen_ok,RU,BP,hf,Al,Sem.run_pure,goInt,cs,nw]
      have rd:∀p,cs[p]? = if x'.o+off*x'.z<=p/\p<x'.o+off*x'.z+nw.length then nw[p-(x'.o+off*x'.z)]? else cells[p]?:=by
       intro p;simp only[cs,GM];have hA:(cells.toList.take (x'.o+off*x'.z)).length=x'.o+off*x'.z:=by simp;omega
       by_cases h1:p<x'.o+off*x'.z
       ·have h2:p<(cells.toList.take (x'.o+off*x'.z)).length:=om
        rw[Gz,Gc h2,Gq h1,iN7];simp
       ·by_cases h2:p<x'.o+off*x'.z+nw.length
        ·have h3:p<(cells.toList.take (x'.o+off*x'.z)++nw).length:=by rw[Gn];omega
         have h4:(cells.toList.take (x'.o+off*x'.z)).length<=p:=om
         rw[Gc h3,Gm h4,hA,if_pos ⟨om,h2⟩]
        ·have h3:(cells.toList.take (x'.o+off*x'.z)++nw).length<=p:=by rw[Gn];omega
         rw[Gm h3,iN7,Gr];simp only[Gn,hA];rw[show x'.o+off*x'.z+nw.length+(p-(x'.o+off*x'.z+nw.length))=p by omega];simp
      have Br:(xs.take n).length=n:=by simp;omega
      refine good_put (nx:=.value (.int .i64 (n:Int))) hp hH Aw hb Ev (Ak _ _ hr) (.inl rfl) (by simp[cs];omega) (by simp only[Gn,Br,Gl,G8];rw[show min off els.length+(n+(els.length-(off+n)))=els.length by omega];exact OY) (λq hq=>by rw[rd,iN7]) (λj ee hj=>?_) (Jb6 Cx IL) (by simp[rel]);by_cases Fa:j<off
      ·rw[Gc (by simp;omega),Gq Fa]at hj;have:=AR j ee hj;refine⟨this.1,λt c hc=>?_⟩;obtain⟨r,CB,CJ⟩:=this.2 t c hc;have ht:t<x'.z:=this.1▸(Gf.1 hc).1;have:(j+1)*x'.z<=off*x'.z:=Gj _ Fa;rw[Gd,Gs]at this;exact⟨r,by show cs[_]? = _;rw[rd,iN7];exact CB,CJ⟩
      ·rw[Gm (by simp;omega)]at hj;have e3:(els.take off).length=off:=by simp;omega
       rw[e3]at hj;by_cases D8:j<off+n
       ·rw[Gc (by rw[Br];omega),Gq om]at hj;have U9:=Ao.relO (R:=λi=>news[i]?) (o:=0) (λi v hv=>by simpa using hv);have:=U9 _ ee hj;rw[<-PV]at this;refine⟨this.1,λt c hc=>?_⟩;obtain⟨r,CB,CJ⟩:=this.2 t c hc;have ht:t<x'.z:=this.1▸(Gf.1 hc).1;simp only[GG]at CB;have e4:j*x'.z=off*x'.z+(j-off)*x'.z:=by rw[<-Gd];congr 1;omega
        have e5:(j-off+1)*x'.z<=n*x'.z:=Gj _ om;rw[Gd,Gs]at e5;refine⟨r,?_,CJ⟩;show cs[_]? = _;rw[rd,iP7,show x'.o+j*x'.z+t-(x'.o+off*x'.z)=(j-off)*x'.z+t by omega];simp only[nw];rw[Gq (by rw[<-PV];omega)];exact CB
       ·rw[Gm (by rw[Br];omega),Br,Gr,show off+n+(j-off-n)=j by omega]at hj;have:=AR j ee hj;refine⟨this.1,λt c hc=>?_⟩;obtain⟨r,CB,CJ⟩:=this.2 t c hc;have:(off+n)*x'.z<=j*x'.z:=Gj _ om;rw[Gd]at this;exact⟨r,by show cs[_]? = _;rw[rd,iN7];exact CB,CJ⟩
    ·cases he
   ·cases he
  ·rename_i z' cap e1;rw[e1]at h1;simp only[rel]at h1;simp only[Ga,Gb]at he;obtain⟨_,rfl,rfl⟩:=he;rcases h1 with ⟨_,_,b,hv⟩|⟨B,q,rc,hv,DV,Bu,AR⟩
   ·exact JE hp.sim (Ak _ _ (Ip _ _ hv)) rfl
   ·exact JE hp.sim (Ak _ _ (Ip _ _ hv)) rfl
  ·cases he
theorem JeW {x:Option Operand}{y:Option IArg}(h:Xa x=some y):y=none↔x=none:=by
 cases x with
 |none=>simp[Xa]at h;simp[h.symm]
 |some x=>
  simp only[Xa]at h;obtain⟨b,_,rfl⟩:∃b,JP x=some b/\some b=y:=by cases hx:JP x with|none=>simp[hx]at h|some b=>exact⟨b,rfl,by simpa [hx]using h⟩
  simp
theorem YP {α β:Type}{f:α->β}{x:Option α}{y:β}(h:x.map f=some y):∃a,x=some a/\f a=y:=by
 cases x with
 |none=>simp at h
 |some a=>exact⟨a,rfl,by simpa using h⟩
theorem JgC {i:IOp}(Ac:XV P o.op=some i)(he:exec i T H=some (c,v,H'))(hc:c.holds)(hp:Pre E n0 m H w T a):Good P E n0 m H w (execOp a.eval o) v H':=by
 cases Bc:o.op <;> rw[Bc]at Ac <;> simp only[XV]at Ac
 case move x=>obtain⟨b,hb,rfl⟩:=YP Ac;exact snd_mv (.inl Bc) hb he hp
 case assign x=>obtain⟨b,hb,rfl⟩:=YP Ac;exact snd_mv (.inr Bc) hb he hp
 case pick x y z=>
  split at Ac
  ·cases Ac;exact snd_pick Bc ‹_› ‹_› ‹_› he hp
  ·cases Ac
 case alloc t=>obtain⟨b,hb,rfl⟩:=YP Ac;exact snd_alloc Bc hb he hp
 case box t x=>obtain⟨b,hb,rfl⟩:=YP Ac;exact snd_box Bc hb he hp
 case build t ps=>
  split at Ac
  ·split at Ac
   ·obtain⟨b,hb,rfl⟩:=YP Ac;exact snd_build Bc ‹_› ‹_› ‹_› hb he hp
   ·cases Ac
  ·cases Ac
 case buildSlice t n ps=>
  split at Ac
  ·split at Ac
   ·split at Ac
    ·rename_i Ec;cases Ac;exact snd_bslice Bc ‹_› ‹_› ‹_› Ec.1 Ec.2 he hp
    ·cases Ac
   ·cases Ac
  ·cases Ac
 case load t x=>
  split at Ac
  ·cases Ac;exact snd_load Bc ‹_› ‹_› ‹_› he hc hp
  ·cases Ac
 case store t x y=>
  split at Ac
  ·cases Ac;exact snd_store Bc ‹_› ‹_› ‹_› he hc hp
  ·cases Ac
 case binOp op t x y ty=>
  split at Ac
  ·cases Ac
  ·cases Ac;exact snd_bin Bc ‹_› ‹_› ‹_› he hc hp
  ·cases Ac
 case unOp op t x=>
  cases op <;> simp only[XV]at Ac <;> (try cases Ac;done)
  ·obtain⟨b,hb,rfl⟩:=YP Ac;exact snd_neg Bc hb he hc hp
  ·obtain⟨b,hb,rfl⟩:=YP Ac;exact snd_not Bc hb he hp
 case convert s d x=>
  split at Ac
  ·cases Ac;exact snd_conv Bc ‹_› ‹_› ‹_› he hc hp
  ·cases Ac
 case makeFunc fn l1 l2=>
  cases fn <;> simp only[XV]at Ac <;> (try cases Ac;done)
  split at Ac
  ·cases Ac;exact snd_mkfn Bc ‹_› ‹_› he hp
  ·cases Ac
 case makeMap t r=>
  cases r <;> simp only[XV]at Ac <;> (try cases Ac;done)
  cases Ac;exact snd_mkmap Bc he hp
 case makeSlice t l c=>
  split at Ac
  ·split at Ac
   ·split at Ac
    ·cases Ac;exact snd_mkslice Bc ‹_› ‹_› ‹_› ‹_› ‹_› ‹_› he hc hp
    ·cases Ac
   ·cases Ac
  ·cases Ac
 case slice t x lo hi mx=>
  split at Ac
  ·split at Ac
   ·split at Ac
    ·cases Ac
    ·rename_i h1 h2 h3 h4 h5 Cc;simp only[Option.isNone_iff_eq_none,H8,La,ne_eq,JeW h4,JeW h5]at Cc
     cases Ac;exact snd_slice Bc ‹_› h1 h2 h3 h4 h5 (by simpa [La]using Cc) he hc hp
   ·cases Ac
  ·split at Ac
   ·cases Ac;exact snd_sliceS Bc ‹_› ‹_› ‹_› ‹_› he hc hp
   ·cases Ac
  ·cases Ac
 case fieldAddr t x f=>
  split at Ac
  ·split at Ac
   ·split at Ac
    ·split at Ac
     ·cases Ac;exact snd_faddr Bc ‹_› ‹_› ‹_› ‹_› ‹_› he hc hp
     ·cases Ac
    ·cases Ac
   ·cases Ac
  ·cases Ac
 case indexAddr t x i=>
  split at Ac
  ·split at Ac
   ·cases Ac;exact snd_iaddr Bc ‹_› ‹_› ‹_› ‹_› he hc hp
   ·cases Ac
  ·cases Ac
 case index t x i=>
  split at Ac
  ·split at Ac
   ·cases Ac;exact snd_indexS Bc ‹_› ‹_› ‹_› he hc hp
   ·cases Ac
  ·cases Ac
 case lookup t x k ok=>
  split at Ac
  ·split at Ac
   ·split at Ac
    ·cases Ac;exact snd_lookup Bc ‹_› ‹_› ‹_› ‹_› ‹_› ‹_› he hp
    ·cases Ac
   ·cases Ac
  ·cases Ac
 case mapUpdate t x k y=>
  split at Ac
  ·split at Ac
   ·split at Ac
    ·cases Ac;exact JfT (.inl Bc) ‹_› ‹_› ‹_› ‹_› ‹_› ‹_› he hp
    ·cases Ac
   ·cases Ac
  ·cases Ac
 case insert t x k y=>
  split at Ac
  ·split at Ac
   ·split at Ac
    ·cases Ac;exact JfT (.inr Bc) ‹_› ‹_› ‹_› ‹_› ‹_› ‹_› he hp
    ·cases Ac
   ·cases Ac
  ·cases Ac
 case nilCheck x=>obtain⟨b,hb,rfl⟩:=YP Ac;exact snd_nchk Bc hb he hp
 case extract x k=>obtain⟨b,hb,rfl⟩:=YP Ac;exact snd_extract Bc hb he hp
 case call cl=>
  split at Ac
  ·split at Ac
   ·split at Ac
    ·obtain⟨b,hb,rfl⟩:=YP Ac;simp[exec]at he
    ·cases Ac
   ·cases Ac
  ·split at Ac
   ·cases Ac;simp[exec]at he
   ·cases Ac
  ·split at Ac
   ·split at Ac
    ·obtain⟨b,hb,rfl⟩:=YP Ac;exact snd_len Bc ‹_› ‹_› ‹_› ‹_› hb he hp
    ·cases Ac
   ·cases Ac
  ·split at Ac
   ·split at Ac
    ·split at Ac
     ·split at Ac
      ·cases Ac;exact JfU Bc ‹_› ‹_› ‹_› ‹_› ‹_› (.inl ⟨_,rfl⟩) ‹_› ‹_› ‹_› ‹_› ‹_› he hc hp
      ·cases Ac
     ·cases Ac
    ·split at Ac
     ·split at Ac
      ·cases Ac;exact JfU Bc ‹_› ‹_› ‹_› ‹_› ‹_› (.inr rfl) ‹_› ‹_› ‹_› ‹_› ‹_› he hc hp
      ·cases Ac
     ·cases Ac
    ·cases Ac
   ·cases Ac
  ·split at Ac
   ·split at Ac
    ·cases Ac;exact snd_mx (big:=true) Bc ‹_› ‹_› ‹_› ‹_› he hp
    ·cases Ac
   ·cases Ac
  ·split at Ac
   ·split at Ac
    ·cases Ac;exact snd_mx (big:=false) Bc ‹_› ‹_› ‹_› ‹_› he hp
    ·cases Ac
   ·cases Ac
  ·split at Ac
   ·split at Ac
    ·split at Ac
     ·split at Ac
      ·rename_i PV;cases Ac;exact snd_copy Bc ‹_› ‹_› ‹_› ‹_› ‹_› PV ‹_› ‹_› he hc hp
      ·cases Ac
     ·cases Ac
    ·cases Ac
   ·cases Ac
  ·cases Ac
 all_goals (first|cases Ac|skip)
end
inductive KItem where
 |code (c:ICode)
 |ops (l:LD)
 |blk (id:Nat)
abbrev LM:=List KItem
def ICode.size:ICode->Nat
 |.skip=>1
 |.reg l=>l.length+2
 |.dreg l _=>l.length+2
 |.seq a b=>a.size+b.size+1
 |.cond _ a b=>a.size+b.size+1
 |.block _ a=>a.size+2
 |.loop a=>a.size+1
 |.rfunc _ _ a b=>a.size+b.size+1
 |.exit _=>1
 |.ret=>1
 |.bad=>1
def KItem.size:KItem->Nat
 |.code c=>c.size
 |.ops l=>l.length+1
 |.blk _=>1
def Y2:LM->Nat
 |[]=>0
 |x::k=>x.size+Y2 k
def put (T:Lu)(d:Option Nat)(v:CV):Lu:=
 match d with
 |some d=>T.set d v
 |none=>T
def WF (ro:Option Nat):Fence:={ fn:=λ_=>True,depth:=none,alive:=false,round:=ro }
theorem Jbm (P:Program)(ro:Option Nat)(m:Machine):m.fenced P (WF ro):=by
 intro g _;refine⟨λh=>?_,Or.inl trivial,λ_ _=>trivial,λ_ h=>?_⟩
 ·simp[WF]at h
 ·simp[WF]at h
theorem JeE (ro:Option Nat)(n:Nat):(WF ro).room n:=λ_ h=>by simp[WF]at h
theorem Jg7{m m':Machine}(h:Steps P m m'):StepsIn (Machine.fenced P (WF ro)) P m m':=(StepsIn.of_steps h).mono λm _=>Jbm P ro m
structure Fr where
 n:Nat
 rnd:Bool
def JdW (N:Fr)(b:Frame)(m:Bk)(H:Lv)(w:World)(ds:List Deferred):Prop:=(N.rnd=false->b.roundOf=none)/\N.n<=w.heap.size/\∃Ds:LB,ds=Ds.map (λD=>{ target:=.collected D,args:=#[] })/\Ds.Nodup/\∀D∈Ds,N.n<=D/\w.heap[D]? = some (.deferred (some []))/\¬owned m H D
theorem JdW.ext{N:Fr}{b:Frame}{ds:List Deferred}(h:JdW N b m H w ds)(he:Ext n0 m H w m' H' w'):JdW N b m' H' w' ds:=by
 obtain⟨hb,hn,Ds,h1,h2,h3⟩:=h;refine⟨hb,GH hn he.size,Ds,h1,h2,λD hD=>?_⟩;obtain⟨a,b,c⟩:=h3 D hD;have Ab:D<w.heap.size:=(GJ.1 b).1;refine⟨a,(he.frame D Ab c).trans b,λho=>?_⟩;rcases he.newOwn D ho with h|h
 ·exact c h
 ·omega
theorem JdW.nil (N:Fr)(b:Frame)(hb:N.rnd=false->b.roundOf=none)(m:Bk)(H:Lv)(w:World)(hn:N.n<=w.heap.size):JdW N b m H w []:=⟨hb,hn,[],rfl,List.nodup_nil,λD hD=>by cases hD⟩
section
variable (P:Program)(E:Env)(n0:Nat)(N:Fr)
def Reach (Q:Exit->Lu->Lv->Prop)(b:Frame)(rest:List Item)(cs:List Frame)(m:Bk)(H:Lv)(w:World)(mach:Machine):Prop:=∃e a' w' m' T' H',Ext n0 m H w m' H' w'/\Pre E n0 m' H' w' T' a'/\JdW N b m' H' w' a'.defers/\Q e T' H'/\ArrivesIn (Machine.fenced P (WF none)) P mach b rest cs e a' w'
def CallsC (f:Nat)(args:Lu)(H:Lv)(R:CV->Lv->Prop):Prop:=
 ∀m w (vs:LJ),Sim E m H w->J7 m.own m.imm args vs.toList->
  CallsIn (WF none) 0 P f vs w λe w'=>∃r m' v H',e=.returned r/\Ext H.length m H w m' H' w'/\Sim E m' H' w'/\rel m'.own m'.imm v r/\R v H'
def YY:LM->List Item->Prop
 |[],kr=>kr=[]
 |.code c::k,kr=>∃c' kr',kr=.code c'::kr'/\JM P c'=some c/\YY k kr'
 |.ops l::k,kr=>∃ops is kr',kr=.inRegion ops is::kr'/\(is.length=l.length/\∀(j i:Nat),is[j]? = some i->∃o io,ops[i]? = some o/\l[j]? = some io/\XU P ops o=some io)/\YY k kr'
 |.blk id::k,kr=>∃kr',kr=.inBlock id::kr'/\YY k kr'
def Ok (Q:Exit->Lu->Lv->Prop)(k:LM)(T:Lu)(H:Lv):Prop:=
 ∀(m:Bk) (w:World) (a:Act) (b:Frame) (cs:List Frame) (kr rest:List Item),Pre E n0 m H w T a->JdW N b m H w a.defers->YY P k kr->
  Reach P E n0 N Q b rest cs m H w (lone (b.atR a (kr++rest)) cs w)
end
section
variable{N:Fr}{b:Frame}{mach mach':Machine}{k:LM}
theorem Reach.step (h:Steps P mach mach')(he:Ext n0 m H w m' H' w')(hr:Reach P E n0 N Q b rest cs m' H' w' mach'):Reach P E n0 N Q b rest cs m H w mach:=by obtain⟨e,a',w2,m2,T2,H2,h1,h2,h3,h4,h5⟩:=hr;exact⟨e,a',w2,m2,T2,H2,he.trans h1,h2,h3,h4,.of_steps (Jg7 h) h5⟩
theorem Reach.one (h:Go.step P mach=.next mach')(hr:Reach P E n0 N Q b rest cs m H w mach'):Reach P E n0 N Q b rest cs m H w mach:=Reach.step (Steps.one h) (Ext.refl _ _ _ _) hr
theorem ok_nil (h:Q .normal T H):Ok P E n0 N Q [] T H:=by intro m w a b cs kr rest hp hd hk;simp only[YY]at hk;subst hk;exact⟨.normal,a,w,m,T,H,Ext.refl _ _ _ _,hp,hd,h,.refl _⟩
theorem ok_blk {id:Nat}(h:Ok P E n0 N Q k T H):Ok P E n0 N Q (.blk id::k) T H:=by intro m w a b cs kr rest hp hd hk;simp only[YY]at hk;obtain⟨kr',rfl,AC⟩:=hk;exact Reach.one stepR_inBlock (h m w a b cs kr' rest hp hd AC)
theorem inv_skip {c:Code}(h:JM P c=some .skip):c=.skip:=by cases c <;> simp only[JM]at h <;> (repeat' split at h) <;> (try cases h) <;> rfl
theorem inv_ret {c:Code}(h:JM P c=some .ret):c=.ret:=by cases c <;> simp only[JM]at h <;> (repeat' split at h) <;> (try cases h) <;> rfl
theorem inv_exit {c:Code}{id:Nat}(h:JM P c=some (.exit id)):c=.exit id:=by cases c <;> simp only[JM]at h <;> (repeat' split at h) <;> (try cases h) <;> rfl
theorem inv_seq {c:Code}{x:ICode}(h:JM P c=some (.seq x y)):∃a b,c=.seq a b/\JM P a=some x/\JM P b=some y:=by cases c <;> simp only[JM]at h <;> (repeat' split at h) <;> (try cases h) <;> exact⟨_,_,rfl,‹_›,‹_›⟩
theorem inv_cond {c:Code}{x:ICode}(h:JM P c=some (.cond i x y)):∃o a b,c=.cond o a b/\JP o=some i/\JM P a=some x/\JM P b=some y:=by cases c <;> simp only[JM]at h <;> (repeat' split at h) <;> (try cases h) <;> exact⟨_,_,_,rfl,‹_›,‹_›,‹_›⟩
theorem inv_block {c:Code}{id:Nat}{x:ICode}(h:JM P c=some (.block id x)):∃a,c=.block id a/\JM P a=some x:=by cases c <;> simp only[JM]at h <;> (repeat' split at h) <;> (try cases h) <;> exact⟨_,rfl,‹_›⟩
theorem inv_loop {c:Code}{x:ICode}(h:JM P c=some (.loop x)):∃a,c=.loop a/\JM P a=some x:=by cases c <;> simp only[JM]at h <;> (repeat' split at h) <;> (try cases h) <;> exact⟨_,rfl,‹_›⟩
theorem inv_reg {c:Code}(h:JM P c=some (.reg l)):∃id ops,c=.region id ops false/\YW P ops ops.toList=some l:=by
 cases c <;> simp only[JM]at h <;> (repeat' split at h) <;> (try cases h)
 rename_i id ops dr _ Ie hc;obtain rfl:dr=false:=Bool.eq_false_iff.2 Ie;exact⟨id,ops,rfl,hc⟩
theorem JhF {c:Code}{es:List LB}(h:JM P c=some (.dreg l es)):∃id ops,c=.region id ops true/\YW P ops ops.toList=some l/\es=ops.toList.map Jbo:=by
 cases c <;> simp only[JM]at h <;> (repeat' split at h) <;> (try cases h)
 rename_i id ops dr _ Ie hc;obtain rfl:dr=true:=Ie;exact⟨id,ops,rfl,hc,rfl⟩
theorem inv_rfunc {c:Code}{f:IArg}{ps:LB}{x:ICode}(h:JM P c=some (.rfunc f ps x y)):∃g qs a b,c=.rangeFunc g qs a b/\JP g=some f/\qs.toList=ps/\JM P a=some x/\JM P b=some y:=by cases c <;> simp only[JM]at h <;> (repeat' split at h) <;> (try cases h) <;> exact⟨_,_,_,_,rfl,‹_›,rfl,‹_›,‹_›⟩
theorem XT {ops:Array Oper}:∀(l:List Oper) (is:LD),YW P ops l=some is->is.length=l.length/\∀(j:Nat) o,l[j]? = some o->∃io,is[j]? = some io/\XU P ops o=some io
 |[],is,h=>by simp[YW]at h;subst h;simp
 |o::l,is,h=>by
  simp only[YW]at h
  split at h
  ·rename_i i is' h1 h2
   cases h
   obtain⟨hl,hg⟩:=XT l is' h2;refine⟨by simp[hl],λj o' ho=>?_⟩
   cases j with
   |zero=>simp at ho;subst ho;exact⟨i,rfl,h1⟩
   |succ j=>simpa using hg j o' (by simpa using ho)
  ·cases h
theorem ok_skip (h:Ok P E n0 N Q k T H):Ok P E n0 N Q (.code .skip::k) T H:=by intro m w a b cs kr rest hp hd hk;simp only[YY]at hk;obtain⟨c',kr',rfl,hc,AC⟩:=hk;obtain rfl:=inv_skip hc;exact Reach.one stepR_skip (h m w a b cs kr' rest hp hd AC)
theorem ok_seq{x:ICode}(h:Ok P E n0 N Q (.code x :: .code y::k) T H):Ok P E n0 N Q (.code (.seq x y)::k) T H:=by intro m w a b cs kr rest hp hd hk;simp only[YY]at hk;obtain⟨c',kr',rfl,hc,AC⟩:=hk;obtain⟨c1,c2,rfl,h1,h2⟩:=inv_seq hc;refine Reach.one stepR_seq (h m w a b cs (.code c1 :: .code c2::kr') rest hp hd ?_);simp only[YY];exact⟨c1,_,rfl,h1,c2,_,rfl,h2,AC⟩
theorem ok_block {id:Nat}{x:ICode}(h:Ok P E n0 N Q (.code x :: .blk id::k) T H):Ok P E n0 N Q (.code (.block id x)::k) T H:=by intro m w a b cs kr rest hp hd hk;simp only[YY]at hk;obtain⟨c',kr',rfl,hc,AC⟩:=hk;obtain⟨c1,rfl,h1⟩:=inv_block hc;refine Reach.one stepR_block (h m w a b cs (.code c1 :: .inBlock id::kr') rest hp hd ?_);simp only[YY];exact⟨c1,_,rfl,h1,_,rfl,AC⟩
theorem ok_cond{x:ICode}{t:Bool}(hi:Kg T i=.bool t)(h:Ok P E n0 N Q (.code (if t then x else y)::k) T H):Ok P E n0 N Q (.code (.cond i x y)::k) T H:=by intro m w a b cs kr rest hp hd hk;simp only[YY]at hk;obtain⟨c',kr',rfl,hc,AC⟩:=hk;obtain⟨o,c1,c2,rfl,h0,h1,h2⟩:=inv_cond hc;have hr:=JZ (a:=a) hp.tmps h0;rw[hi]at hr;simp only[rel]at hr;refine Reach.one (stepR_cond hr) (h m w a b cs (.code (if t then c1 else c2)::kr') rest hp hd ?_);simp only[YY];exact⟨_,_,rfl,by cases t <;> simp[h1,h2],AC⟩
theorem ok_ret (h:Q .ret T H):Ok P E n0 N Q (.code .ret::k) T H:=by intro m w a b cs kr rest hp hd hk;simp only[YY]at hk;obtain⟨c',kr',rfl,hc,AC⟩:=hk;obtain rfl:=inv_ret hc;exact⟨.ret,a,w,m,T,H,Ext.refl _ _ _ _,hp,hd,h,λhn=>⟨_,.one (Jbm _ _ _) (stepR_ret hn)⟩,λ_=>⟨_,.refl _⟩⟩
theorem ok_reg(h:Ok P E n0 N Q (.ops l::k) T H):Ok P E n0 N Q (.code (.reg l)::k) T H:=by
 intro m w a b cs kr rest hp hd hk;simp only[YY]at hk;obtain⟨c',kr',rfl,hc,AC⟩:=hk;obtain⟨id,ops,rfl,h1⟩:=inv_reg hc;obtain⟨hl,hg⟩:=XT _ _ h1;refine Reach.one stepR_region (h m w a b cs (.inRegion ops (List.range ops.size)::kr') rest hp hd ?_);simp only[YY];refine⟨ops,_,_,rfl,⟨by simp[hl],λj i hj=>?_⟩,AC⟩;have Ab:j<ops.size:=by have:=(Gf.1 hj).1;simpa using this
 have:i=j:=by have:=(Gf.1 hj).2;simpa using this.symm
 subst this;obtain⟨io,h2,h3⟩:=hg i ops[i] (by simp[Ab]);exact⟨ops[i],io,by simp[Ab],h2,h3⟩
theorem JbH (h:Ok P E n0 N Q k T H):Ok P E n0 N Q (.ops []::k) T H:=by intro m w a b cs kr rest hp hd hk;simp only[YY]at hk;obtain⟨ops,is,kr',rfl,⟨hl,_⟩,AC⟩:=hk;obtain rfl:is=[]:=Gx (by simpa using hl);exact Reach.one stepR_region_end (h m w a b cs kr' rest hp hd AC)
theorem Jdg{n0:Nat}{v:CV}(hs:Sim E m H w)(ht:J7 m.own m.imm T a.tmps.toList)(hl:n0<=H.length)(hr:rel m.own m.imm v r):Pre E n0 m H w (put T d v) (a.put d r):=by
 refine⟨hs,?_,hl⟩
 cases d with
 |none=>exact ht
 |some d=>simp only[put,Act.put];have:=rels_set ht d hr;simpa using this
theorem put_defers:(a.put d r).defers=a.defers:=by cases d <;> rfl
theorem semAt_plain{ρ:Operand->Value}{o:Oper}{i:IOp}(h:XV P o.op=some i):o.semAt ro ρ=execOp ρ o:=Oper.semAt_eq ro ρ o λc hc=>by rw[hc]at h;simp[XV]at h
theorem wanted_none {ops:Array Oper}{o:Oper}(h:XU P ops o=some io)(hg:io.guard=none):Region.wanted o (yielded ops tmps)=true/\o.dst=io.dst/\XV P o.op=some io.op:=by
 unfold XU at h
 split at h
 ·cases h
 ·rename_i i hi
  split at h
  ·rename_i BO
   cases h
   exact⟨by simp[Region.wanted,BO],rfl,hi⟩
  ·split at h
   ·cases h;simp at hg
   ·cases h
theorem Jem {ops:Array Oper}{o:Oper}{g:Nat}{t:Bool}(h:XU P ops o=some io)(hg:io.guard=some (g,want))(hT:J7 own imm T a.tmps.toList)(hb:T.getD g .un=.bool t) :
  Region.wanted o (yielded ops a.tmps)=(t == want)/\o.dst=io.dst/\XV P o.op=some io.op:=by
 unfold XU at h
 split at h
 ·cases h
 ·rename_i i hi
  split at h
  ·cases h;simp at hg
  ·rename_i j wt BO
   split at h
   ·rename_i d BR
    cases h
    simp only[Ga,Gb]at hg;obtain⟨rfl,rfl⟩:=hg;refine⟨?_,rfl,hi⟩;have Ab:d<T.length:=by
     rcases H5 d T.length with h1|h1
     ·exact h1
     ·rw[Gp,GN h1]at hb;cases hb
    obtain⟨u,hu,hr⟩:=Yv hT (Gh Ab);have e1:T[d]=.bool t:=by rw[<-hb];simp[Gp,Gh Ab]
    rw[e1]at hr;simp only[rel]at hr;subst hr;have U1:a.tmps[d]? = some (.bool t):=by simpa using hu
    have:yielded ops a.tmps j=some t:=by simp only[yielded,BR,He,U1]
    simp only[Region.wanted,BO,this]
    cases t <;> cases wt <;> rfl
   ·cases h
theorem Jc9 {ops:Array Oper}{i:Nat}{is:LB}{o:Oper}{nx:Next}(ho:ops[i]? = some o)(hw:Region.wanted o (yielded ops a.tmps)=true)(IB:o.semAt b.roundOf a.eval=execOp a.eval o)(Ak:(execOp a.eval o).run P w=.ok nx w')(Dt:nx=.value r\/(nx=.skip/\r=undef)) :
  Go.step P (lone (b.atR a (.inRegion ops (i::is)::kr)) cs w)=.next (lone (b.atR (a.put o.dst r) (.inRegion ops is::kr)) cs w'):=by
 have hg:=stepGR_op (P:=P) (b:=b) (k:=kr) (cs:=cs) (w:=w) (rest:=is) ho hw;rw[IB]at hg;have AA:∀v,(b.atR a (.inRegion ops (i::is)::kr)).finish v=b.atR (a.put o.dst v) (.inRegion ops is::kr):=by intro v;rw[Frame.finish_atR,ho];rfl
 refine step_lone_go ?_;rcases Dt with rfl|⟨rfl,rfl⟩
 ·rw[hg,<-AA];simp[stepG.apply,Ak]
 ·rw[hg,<-AA];simp[stepG.apply,Ak]
theorem JbG(h:YY P (.ops (io::l)::k) kr):∃ops i is kr' o,kr=.inRegion ops (i::is)::kr'/\ops[i]? = some o/\XU P ops o=some io/\YY P (.ops l::k) (.inRegion ops is::kr'):=by
 simp only[YY]at h;obtain⟨ops,is,kr',rfl,⟨hl,hg⟩,AC⟩:=h
 cases is with
 |nil=>simp at hl
 |cons i is=>obtain⟨o,io',h1,h2,h3⟩:=hg 0 i rfl;simp at h2;subst h2;refine⟨ops,i,is,kr',o,rfl,h1,h3,?_⟩;simp only[YY];exact⟨ops,is,kr',rfl,⟨by simpa using hl,λj i' hj=>by simpa using hg (j+1) i' (by simpa using hj)⟩,AC⟩
def GOk (T:Lu)(g:Option (Nat×Bool)):Prop:=g=none\/∃s want,g=some (s,want)/\T.getD s .un=.bool want
theorem JaY {ops:Array Oper}{o:Oper}(h:XU P ops o=some io)(hg:GOk T io.guard)(hT:J7 own imm T a.tmps.toList) :
  Region.wanted o (yielded ops a.tmps)=true/\o.dst=io.dst/\XV P o.op=some io.op:=by
 rcases hg with hg|⟨s,want,hg,hb⟩
 ·exact wanted_none h hg
 ·obtain⟨h1,h2,h3⟩:=Jem h hg hT hb;exact⟨by rw[h1];simp,h2,h3⟩
theorem JeY{c:Cond}{v:CV}(hg:GOk T io.guard)(he:exec io.op T H=some (c,v,H'))(hc:c.holds)(h:Ok P E n0 N Q (.ops l::k) (put T io.dst v) H'):Ok P E n0 N Q (.ops (io::l)::k) T H:=by
 intro m w a b cs kr rest hp hd hk;obtain⟨ops,i,is,kr',o,rfl,ho,FN,AC⟩:=JbG hk;obtain⟨hw,BR,Bc⟩:=JaY FN hg hp.tmps;obtain⟨m',w',r,nx,Ak,Dt,Af,C9,hrel,CL⟩:=JgC Bc he hc hp;have Al:=Jc9 (b:=b) (cs:=cs) (is:=is) (kr:=kr'++rest) ho hw (semAt_plain Bc) Ak Dt;rw[BR]at Al;have Ad:n0<=H'.length:=by rw[<-C9.len];exact Af.long (by rw[hp.sim.len];exact hp.long)
 refine Reach.step (.one Al) Af (h m' w' _ b cs (.inRegion ops is::kr') rest (Jdg C9 (KY CL Af.imm _ _ hp.tmps) Ad hrel) ?_ AC);rw[put_defers];exact hd.ext Af
theorem wanted_skip {ops:Array Oper}{o:Oper}{g:Nat}(h:XU P ops o=some io)(hg:io.guard=some (g,want))(hT:J7 own imm T a.tmps.toList)(hb:T.getD g .un=.tup []) :
  Region.wanted o (yielded ops a.tmps)=false/\o.dst=io.dst:=by
 unfold XU at h
 split at h
 ·cases h
 ·rename_i i hi
  split at h
  ·cases h;simp at hg
  ·rename_i j wt BO
   split at h
   ·rename_i d BR
    cases h
    simp only[Ga,Gb]at hg;obtain⟨rfl,rfl⟩:=hg;refine⟨?_,rfl⟩;have Ab:d<T.length:=by
     rcases H5 d T.length with h1|h1
     ·exact h1
     ·rw[Gp,GN h1]at hb;cases hb
    obtain⟨u,hu,hr⟩:=Yv hT (Gh Ab);have e1:T[d]=.tup []:=by rw[<-hb];simp[Gp,Gh Ab]
    rw[e1]at hr;simp only[rel]at hr;obtain⟨vs,rfl,_⟩:=hr;have U1:a.tmps[d]? = some (.tuple vs):=by simpa using hu
    have:yielded ops a.tmps j=none:=by simp only[yielded,BR,He,U1]
    simp only[Region.wanted,BO,this];rfl
   ·cases h
theorem JeX{g:Nat}(dD:io.guard=some (g,want))(hg:T.getD g .un=.bool (!want)\/T.getD g .un=.tup [])(h:Ok P E n0 N Q (.ops l::k) (put T io.dst (.tup [])) H):Ok P E n0 N Q (.ops (io::l)::k) T H:=by
 intro m w a b cs kr rest hp hd hk;obtain⟨ops,i,is,kr',o,rfl,ho,FN,AC⟩:=JbG hk;have fG:Region.wanted o (yielded ops a.tmps)=false/\o.dst=io.dst:=by
  rcases hg with hg|hg
  ·obtain⟨hw,BR,Bc⟩:=Jem FN dD hp.tmps hg;exact⟨by rw[hw];cases want <;> rfl,BR⟩
  ·exact wanted_skip FN dD hp.tmps hg
 obtain⟨UU,BR⟩:=fG;have Al:=stepR_op_skip (P:=P) (b:=b) (a:=a) (k:=kr'++rest) (cs:=cs) (w:=w) (ops:=ops) (i:=i) (rest:=is) (by simp[ho,UU]);simp only[ho,He]at Al;rw[BR]at Al;exact Reach.one Al (h m w _ b cs (.inRegion ops is::kr') rest (Jdg hp.sim hp.tmps hp.long (by simp[rel,J7,undef])) (by rw[put_defers];exact hd) AC)
theorem step_call {ops:Array Oper}{i:Nat}{is:LB}{o:Oper}{vs:LJ}{R:Ending->World->Prop}(ho:ops[i]? = some o)(hw:Region.wanted o (yielded ops a.tmps)=true)(IB:o.semAt b.roundOf a.eval=execOp a.eval o)(Ak:(execOp a.eval o).run P w=.ok (.enter f vs) w)
  (Ah:CallsIn (WF none) 0 P f vs w R) (hR:∀e w',R e w'->∃r,e=.returned r):∃r w',R (.returned r) w'/\Steps P (lone (b.atR a (.inRegion ops (i::is)::kr)) cs w) (lone (b.atR (a.put o.dst r) (.inRegion ops is::kr)) cs w'):=by
 have hg:=stepGR_op (P:=P) (b:=b) (k:=kr) (cs:=cs) (w:=w) (rest:=is) ho hw;rw[IB]at hg;have AA:∀v,(b.atR a (.inRegion ops (i::is)::kr)).finish v=b.atR (a.put o.dst v) (.inRegion ops is::kr):=by intro v;rw[Frame.finish_atR,ho];rfl
 obtain⟨e,w'',fr,SS,Bt,Bq,EZ⟩:=Ah.2 (b.atR a (.inRegion ops (i::is)::kr)::cs) (JeE _ _);have DC:Go.step P (lone (b.atR a (.inRegion ops (i::is)::kr)) cs w)=.next (lone (Frame.enter P f vs .normal) (b.atR a (.inRegion ops (i::is)::kr)::cs) w):=step_lone_go (by rw[hg];simp[stepG.apply,Ak,Frame.atR])
 obtain⟨r,rfl⟩:=hR e w'' SS;refine⟨r,w'',SS,.head DC (Steps.trans (StepsIn.steps Bt) (.one ?_))⟩;rw[<-AA];exact step_leave_returned EZ
theorem Jgb{args:Lu}(hg:GOk T io.guard)(Ah:CallsC P E f args H R)(h:∀v H',R v H'->Ok P E n0 N Q (.ops l::k) (put T io.dst v) H')
  (Ak:∀(m:Bk) (w:World) (a:Act) (o:Oper),Pre E n0 m H w T a->XV P o.op=some io.op->∃vs:LJ,(execOp a.eval o).run P w=.ok (.enter f vs) w/\J7 m.own m.imm args vs.toList):Ok P E n0 N Q (.ops (io::l)::k) T H:=by
 intro m w a b cs kr rest hp hd hk;obtain⟨ops,i,is,kr',o,rfl,ho,FN,AC⟩:=JbG hk;obtain⟨hw,BR,Bc⟩:=JaY FN hg hp.tmps;obtain⟨vs,CB,BI⟩:=Ak m w a o hp Bc;obtain⟨r,w',⟨r',m',v,H',gL,Af,C9,hrel,SN⟩,Bt⟩:=step_call (b:=b) (cs:=cs) (is:=is) (kr:=kr'++rest) ho hw (semAt_plain Bc) CB (Ah m w vs hp.sim BI) (λe w' ⟨r,_,_,_,h,_⟩=>⟨r,h⟩)
 cases gL
 rw[BR]at Bt;have CL:KZ m.own m'.own:=λj x hj=>Af.base j x (by rw[<-hp.sim.len];exact(Gf.1 hj).1) hj
 have IW:Ext n0 m H w m' H' w':={ Af with base:=λj x hj hx=>CL j x hx,long:=λh=>GH (by rw[<-hp.sim.len]at *;exact GH (by have:=hp.long;rw[<-hp.sim.len]at this;exact this) (Gg _)) (Af.long (by rw[hp.sim.len];exact Gg _)) };have Ad:n0<=H'.length:=by rw[<-C9.len];exact IW.long (by rw[hp.sim.len];exact hp.long)
 refine Reach.step Bt IW (h v H' SN m' w' _ b cs (.inRegion ops is::kr') rest (Jdg C9 (KY CL Af.imm _ _ hp.tmps) Ad hrel) ?_ AC);rw[put_defers];exact hd.ext IW
theorem Ja5{fn:Func}{vs:LJ}(hf:P.funcs[f]? = some fn) (hb:fn.body.isSome=true) (hn:fn.name≠ "runtime.NumGoroutine"):(callFunc f vs).run P w=.ok (.enter f vs) w:=by
 have ak:(fn.name == "runtime.NumGoroutine")=false:=by simpa using hn
 have UD:fn.body.isNone=false:=by cases h:fn.body <;> simp_all
 simp only[callFunc,Sem.run_bind,run_program,Result.andThen_ok,hf,ak,UD,GA,if_false,Sem.run_pure]
theorem invo_call {op:Op}(h:XV P op=some (.call f as)):∃cl fn,op=.call cl/\cl.callee=.value (.func f)/\P.funcs[f]? = some fn/\fn.body.isSome=true/\fn.name≠ "runtime.NumGoroutine" /\JaV cl.args.toList=some as:=by
 unfold XV at h
 split at h
 all_goals (repeat' split at h)
 all_goals first
  |(cases h;done)
  |(obtain⟨_,_,h9⟩:=YP h;cases h9;done)
  |skip
 obtain⟨as',h8,h9⟩:=YP h
 cases h9
 have Ec:=‹(Option.isSome _ && _)=true›;simp only[H8,bne_iff_ne,ne_eq]at Ec;exact⟨_,_,rfl,‹_›,‹_›,Ec.1,Ec.2,h8⟩
theorem Jgn {op:Op}{x:IArg}(h:XV P op=some (.callv x as)):∃cl xo,op=.call cl/\cl.callee=.value xo/\JP xo=some x/\JaV cl.args.toList=some as:=by
 unfold XV at h
 split at h
 all_goals (repeat' split at h)
 all_goals first
  |(cases h;done)
  |(obtain⟨_,_,h9⟩:=YP h;cases h9;done)
  |skip
 cases h
 exact⟨_,_,rfl,‹_›,‹_›,‹_›⟩
theorem Jdl(hg:GOk T g)(Ah:CallsC P E f (as.map (Kg T)) H R)(h:∀v H',R v H'->Ok P E n0 N Q (.ops l::k) (put T d v) H'):Ok P E n0 N Q (.ops (⟨d,.call f as,g⟩::l)::k) T H:=by refine Jgb (io:=⟨d,.call f as,g⟩) hg Ah h (λm w a o hp Bc=>?_);obtain⟨cl,fn,ho,Cy,Bq,hb,hn,has⟩:=invo_call Bc;refine⟨cl.args.map a.eval,?_,by simpa using JbP hp.tmps has⟩;simp only[execOp,ho,resolve,Cy,Act.eval,Deferred.ofValue,Sem.run_bind,Sem.run_pure,Result.andThen_ok,invoke];simpa using Ja5 (vs:=cl.args.map a.eval) Bq hb hn
theorem Jhx{x:IArg}{l1 l2:Lu}{fn:Func}(hg:GOk T g) (hx:Kg T x=.fn f l1 l2) (Bq:P.funcs[f]? = some fn) (hb:fn.body.isSome=true) (hn:fn.name≠ "runtime.NumGoroutine")
  (Ah:CallsC P E f (l1++as.map (Kg T)++l2) H R) (h:∀v H',R v H'->Ok P E n0 N Q (.ops l::k) (put T d v) H'):Ok P E n0 N Q (.ops (⟨d,.callv x as,g⟩::l)::k) T H:=by
 refine Jgb (io:=⟨d,.callv x as,g⟩) hg Ah h (λm w a o hp Bc=>?_);obtain⟨cl,xo,ho,Cy,PW,has⟩:=Jgn Bc;have hr:=JZ (a:=a) hp.tmps PW;rw[hx]at hr;simp only[rel]at hr;obtain⟨v1,v2,hv,CB,CJ⟩:=hr;refine⟨v1++cl.args.map a.eval++v2,?_,by simpa using Q9 CB (Q9 (JbP hp.tmps has) CJ)⟩;simp only[execOp,ho,resolve,Cy,hv,Deferred.ofValue,Sem.run_bind,Sem.run_pure,Result.andThen_ok,invoke];exact Ja5 Bq hb hn
end
section
variable{N:Fr}{b:Frame}{k:LM}
def Ym (id:Nat):LM->Option LM
 |[]=>none
 |.blk id'::k=>if id'=id then some k else Ym id k
 |.code _::k=>Ym id k
 |.ops _::k=>Ym id k
theorem YV {id:Nat}{rest:List Item}:∀(k:LM) (kr:List Item),YY P k kr->
  match Ym id k with
  |some k'=>∃kr',YY P k' kr'/\exitTo id (kr++rest)=some (kr'++rest)
  |none=>exitTo id (kr++rest)=exitTo id rest
 |[],kr,h=>by simp only[YY]at h;subst h;simp[Ym]
 |.blk id'::k,kr,h=>by
  simp only[YY]at h;obtain⟨kr',rfl,hk⟩:=h;simp only[Ym];by_cases he:id'=id
  ·subst he;simp only[if_true];exact⟨kr',hk,by simp[exitTo]⟩
  ·have:=YV (id:=id) (rest:=rest) k kr' hk;have e2:exitTo id (.inBlock id'::kr'++rest)=exitTo id (kr'++rest):=by simp[exitTo,he]
   rw[if_neg he,e2];exact this
 |.code _::k,kr,h=>by
  simp only[YY]at h;obtain⟨c',kr',rfl,_,hk⟩:=h;have:=YV (id:=id) (rest:=rest) k kr' hk;have e2:exitTo id (.code c'::kr'++rest)=exitTo id (kr'++rest):=by simp[exitTo]
  simp only[Ym];rw[e2];exact this
 |.ops _::k,kr,h=>by
  simp only[YY]at h;obtain⟨ops,is,kr',rfl,_,hk⟩:=h;have:=YV (id:=id) (rest:=rest) k kr' hk;have e2:exitTo id (.inRegion ops is::kr'++rest)=exitTo id (kr'++rest):=by simp[exitTo]
  simp only[Ym];rw[e2];exact this
theorem ok_exit {id:Nat}(h:match Ym id k with|some k'=>Ok P E n0 N Q k' T H|none=>Q (.exit id) T H):Ok P E n0 N Q (.code (.exit id)::k) T H:=by
 intro m w a b cs kr rest hp hd hk;simp only[YY]at hk;obtain⟨c',kr',rfl,hc,AC⟩:=hk;obtain rfl:=inv_exit hc;have hx:=YV (id:=id) (rest:=rest) k kr' AC
 cases Ms:Ym id k with
 |some k'=>rw[Ms]at h hx;obtain⟨kr2,Aq,he⟩:=hx;exact Reach.one (stepR_exit he) (h m w a b cs kr2 rest hp hd Aq)
 |none=>rw[Ms]at h hx;simp only at hx;refine⟨.exit id,a,w,m,T,H,Ext.refl _ _ _ _,hp,hd,h,λk' AC=>.one (Jbm _ _ _) (stepR_exit (k:=kr'++rest) (hx.trans AC)),λ_ hn=>⟨kr'++rest,hx.trans hn,.refl _⟩⟩
def loopQ (P:Program)(E:Env)(n0:Nat)(N:Fr)(Q:Exit->Lu->Lv->Prop)(k:LM)(I:Lu->Lv->Prop):Exit->Lu->Lv->Prop
 |.normal,T,H=>I T H
 |.exit id,T,H=>match Ym id k with
  |some k'=>Ok P E n0 N Q k' T H
  |none=>Q (.exit id) T H
 |.ret,T,H=>Q .ret T H
 |_,_,_=>False
theorem ok_loop {x:ICode}{σ:Type}(I:σ->Lu->Lv->Prop)(μ:σ->Nat)(s0:σ)(h0:I s0 T H)(hb:∀s T H,I s T H->Ok P E n0 N (loopQ P E n0 N Q k λT' H'=>∃s',I s' T' H'/\μ s' < μ s) [.code x] T H):Ok P E n0 N Q (.code (.loop x)::k) T H:=by
 intro m w a b cs kr rest hp hd hk;simp only[YY]at hk;obtain⟨c',kr',rfl,hc,AC⟩:=hk;obtain⟨c1,rfl,h1⟩:=inv_loop hc;refine Reach.one stepR_loop ?_;have key:∀j s T H m w a,μ s=j->I s T H->Pre E n0 m H w T a->JdW N b m H w a.defers->Reach P E n0 N Q b rest cs m H w (lone (b.atR a (.code c1 :: .inLoop c1::(kr'++rest))) cs w):=by
  intro j
  induction j using HY with
  |_ j ih=>
   intro s T H m w a hj hI hp hd;have Ep:YY P [.code x] [.code c1]:=by simp only[YY];exact⟨c1,[],rfl,h1,rfl⟩
   obtain⟨e,a',w',m',T',H',Af,EW,DD,hq,EE⟩:=hb s T H hI m w a b cs [.code c1] (.inLoop c1::(kr'++rest)) hp hd Ep
   cases e with
   |normal=>simp only[loopQ]at hq;obtain⟨s',jG,Ab⟩:=hq;have:=ih (μ s') om s' T' H' m' w' a' rfl jG EW DD;refine Reach.step (StepsIn.steps EE) Af (Reach.one stepR_inLoop this)
   |exit id=>
    simp only[loopQ]at hq;have e1:exitTo id (.inLoop c1::(kr'++rest))=exitTo id (kr'++rest):=by simp[exitTo]
    have hx:=YV (id:=id) (rest:=rest) k kr' AC
    cases Ms:Ym id k with
    |some k'=>rw[Ms]at hq hx;obtain⟨kr2,Aq,he⟩:=hx;exact Reach.step (StepsIn.steps (EE.1 _ (e1.trans he))) Af (hq m' w' a' b cs kr2 rest EW DD Aq)
    |none=>rw[Ms]at hq hx;simp only at hx;refine⟨.exit id,a',w',m',T',H',Af,EW,DD,hq,λk' AC=>EE.1 k' (by rw[e1,hx];exact AC),λhr hn=>?_⟩;exact EE.2 hr (by rw[e1,hx];exact hn)
   |ret=>exact⟨.ret,a',w',m',T',H',Af,EW,DD,hq,EE⟩
   |goto l=>exact hq.elim
   |panic ch=>exact hq.elim
   |outgrown=>exact hq.elim
 have:=key _ s0 T H m w a rfl h0 hp hd;simpa using this
def JdE (T:Lu)(H:Lv):RVar->Option (Cond×CV)
 |.tmp t=>some (.tt,T.getD t .un)
 |.cell ag n t=>match exec (.load ag n (.s t)) T H with
  |some (c,v,_)=>some (c,v)
  |none=>none
def XC (T:Lu)(H:Lv):List RVar->Option (Cond×Lu)
 |[]=>some (.tt,[])
 |x::l=>match JdE T H x,XC T H l with
  |some (c,v),some (c',vs)=>some (.and c c',v::vs)
  |_,_=>none
def resK (r:Option (Cond×Lu))(R:CV->Lv->Prop)(H:Lv):Prop:=
 match r with
 |some (c,[v])=>c.holds/\R v H
 |some (c,vs)=>c.holds/\R (.tup vs) H
 |none=>False
def retQ (ts:List RVar)(R:CV->Lv->Prop):Exit->Lu->Lv->Prop
 |.normal,T,H=>resK (XC T H ts) R H
 |.ret,T,H=>resK (XC T H ts) R H
 |_,_,_=>False
theorem runOne {x:ResultVar}{rv:RVar}{c:Cond}{v:CV}(hx:(∃t,x=.tmp t/\rv=.tmp t)\/(∃s t ag n,x=.cell s t/\rv=.cell ag n s/\Jh8 P t=some ag/\Jg6 P t=some n))(hp:Pre E n0 m H w T a)(h:JdE T H rv=some (c,v))(hc:c.holds) :
  ∃r,rel m.own m.imm v r/\(match x with | .tmp t=>(pure (a.tmps.getD t undef):Sem Value) | .cell s t=>do loadVar t (<-asAddr (a.tmps.getD s undef))).run P w=.ok r w:=by
 rcases hx with ⟨t,rfl,rfl⟩|⟨s,t,ag,n,rfl,rfl,Cs,hn⟩
 ·simp only[JdE,Ga,Gb]at h;obtain⟨rfl,rfl⟩:=h;exact⟨_,getD_rel hp.tmps t,rfl⟩
 ·simp only[JdE]at h
  split at h
  ·rename_i c' v' H' he;simp only[Ga,Gb]at h;obtain⟨rfl,rfl⟩:=h;obtain⟨rfl,ad,r,hv,hr,hrel⟩:=load_val (x:=.tmp s) (i:=.s s) Cs hn rfl he hc hp;have Pq:a.tmps.getD s undef=.pointer (some ad):=hv;exact⟨r,hrel,by simp only[Sem.run_bind,Pq,asAddr,Sem.run_pure,Result.andThen_ok,hr]⟩
  ·cases h
theorem run_results {fn:Func}{ts:List RVar}(hr:JaG P fn.results.toList=some ts)(hp:Pre E n0 m H w T a)(hk:resK (XC T H ts) R H):∃v cv,(results fn a.tmps).run P w=.ok v w/\rel m.own m.imm cv v/\R cv H:=by
 have key:∀(l:List ResultVar) (ts:List RVar) (c:Cond) (vs:Lu),JaG P l=some ts->XC T H ts=some (c,vs)->c.holds->∃rs,J7 m.own m.imm vs rs/\rs.length=l.length/\
   (l.mapM (λ(x:ResultVar)=>match x with | .tmp t=>(pure (a.tmps.getD t undef):Sem Value) | .cell s t=>do loadVar t (<-asAddr (a.tmps.getD s undef)))).run P w=.ok rs w:=by
  intro l
  induction l with
  |nil=>intro ts c vs h h' _;simp[JaG]at h;subst h;simp[XC]at h';obtain⟨_,rfl⟩:=h';exact⟨[],by simp[J7],rfl,sM⟩
  |cons x l ih=>
   intro ts c vs h h' hc;have step:∀rv ts',ts=rv::ts'->JaG P l=some ts'->((∃t,x=.tmp t/\rv=.tmp t)\/(∃s t ag n,x=.cell s t/\rv=.cell ag n s/\Jh8 P t=some ag/\Jg6 P t=some n))->∃rs,J7 m.own m.imm vs rs/\rs.length=(x::l).length/\
     ((x::l).mapM (λ(x:ResultVar)=>match x with | .tmp t=>(pure (a.tmps.getD t undef):Sem Value) | .cell s t=>do loadVar t (<-asAddr (a.tmps.getD s undef)))).run P w=.ok rs w:=by
    intro rv ts' AJ hl hx;subst AJ;simp only[XC]at h'
    split at h'
    ·rename_i c1 v1 c2 vs2 h1 h2;simp only[Ga,Gb]at h';obtain⟨rfl,rfl⟩:=h';obtain⟨r,CB,CJ⟩:=runOne hx hp h1 hc.1;obtain⟨rs,Cz,Ad,Ak⟩:=ih ts' c2 vs2 hl h2 hc.2;refine⟨r::rs,by simp only[J7];exact⟨r,rs,rfl,CB,Cz⟩,by simp[Ad],?_⟩;simp only[HV,Sem.run_bind]
     erw [CJ]
     simp only[Result.andThen_ok]
     erw [Ak]
     simp only[Result.andThen_ok,Sem.run_pure]
    ·cases h'
   cases x with
   |tmp t=>
    simp only[JaG]at h
    split at h
    ·rename_i ts' h1
     cases h
     exact step _ ts' rfl h1 (.inl ⟨t,rfl,rfl⟩)
    ·cases h
   |cell s t=>
    simp only[JaG]at h
    split at h
    ·rename_i ag n ts' h1 h2 h3
     cases h
     exact step _ ts' rfl h3 (.inr ⟨s,t,ag,n,rfl,rfl,h1,h2⟩)
    ·cases h
 unfold resK at hk
 cases ZG:XC T H ts with
 |none=>simp[ZG]at hk
 |some p=>
  obtain⟨c,vs⟩:=p;rw[ZG]at hk;have hc:c.holds:=by
   cases vs with
   |nil=>exact hk.1
   |cons v vs=>cases vs with
    |nil=>exact hk.1
    |cons _ _=>exact hk.1
  obtain⟨rs,Cz,Ad,Ak⟩:=key fn.results.toList ts c vs hr ZG hc;have hl:=Ke Cz;have AA:(results fn a.tmps).run P w=.ok (if h:rs.toArray.size=1 then rs.toArray[0] else .tuple rs.toArray) w:=by
   have e:fn.results=fn.results.toList.toArray:=sM
   unfold results;rw[e,Hy];simp only[Sem.run_bind,Sem.run_map]
   erw [Ak]
   simp only[Result.andThen_ok,Sem.run_pure]
  rcases vs with _|⟨v,_|⟨v',vs⟩⟩
  ·refine⟨_,.tup [],AA,?_,hk.2⟩;obtain rfl:rs=[]:=Gx (by simpa using hl.symm);simp[rel,J7]
  ·refine⟨_,v,AA,?_,hk.2⟩;simp only[J7]at Cz;obtain⟨r,rs',rfl,CB,rfl⟩:=Cz;simpa using CB
  ·refine⟨_,.tup (v::v'::vs),AA,?_,hk.2⟩;rw[dif_neg (by simp at hl|-;omega)];simp only[rel];exact⟨_,rfl,by simpa using Cz⟩
theorem Sim.putDef {D:Nat}{x:Obj}(hs:Sim E m H w)(hD:w.heap[D]? = some x)(hx:∀c e f,x≠.cells c e f)(hn:¬owned m H D):Sim E m H (w.putObj D ob):=by
 have AV:∀B,B≠D->(w.putObj D ob).heap[B]? = w.heap[B]?:=λB hB=>World.putObj_heap_other hB
 have Ut:¬D<gN:=λh=>by obtain⟨c,e,q,h1⟩:=hs.gl.1.cells h hD;exact hx c e q h1
 refine⟨hs.len,λk o x1 hk Bh=>?_,λB i v hv=>?_,hs.one,hs.sep,hs.ro,λk s b hk=>?_,hs.extsep,λB hB=>by rw[World.putObj_size];exact hs.extlt B hB,hs.gl.1.mono λB hB=>AV B λe=>Ut (e▸hB),hs.gl.2⟩
 ·exact KO (KZ.refl _) (KJ.refl _) (λha=>AV _ λe=>hn (.inr ⟨k,o,x1,hk,ha,Bh,e⟩)) (hs.obj k o x1 hk Bh)
 ·have h1:=hs.imm B i v hv;by_cases hB:B=D
  ·subst hB;simp only[World.cell?,hD]at h1
   cases x <;> simp at h1
   exact absurd rfl (hx _ _ _)
  ·exact(cell?_congr (AV B hB)).trans h1
 ·refine E.stable _ _ _ _ _ _ _ (hs.ext k s b hk) (λB hB=>AV B λe=>hB.elim (λhB=>hn (.inl (e▸hB))) (λhB=>Ut (e▸hB))) (by rw[World.putObj_size];exact Gg _) (KJ.refl _) (λB i v h=>.inl h) (λB i v hv=>?_) hs.one;have h1:=hs.imm B i v hv;by_cases hB:B=D
  ·subst hB;simp only[World.cell?,hD]at h1
   cases x <;> simp at h1
   exact absurd rfl (hx _ _ _)
  ·exact(cell?_congr (AV B hB)).trans h1
theorem callsC_of{args:Lu}(hF:Jd P f=some F)(h:∀n,Ok P E H.length ⟨n,false⟩ (retQ F.results R) [.code F.body] (args++Gv (F.ntmps-args.length) .un) H):CallsC P E f args H R:=by
 intro m w vs hs BI;unfold Jd at hF
 split at hF
 ·rename_i fn Bq
  split at hF
  ·rename_i c hb
   split at hF
   ·rename_i ic ts iG AJ
    cases hF
    have Ad:=Ke BI;have hT:J7 m.own m.imm (args++Gv (fn.ntmps-args.length) .un) (vs++Ho (fn.ntmps-vs.size) undef).toList:=by
     simp only[Array.toList_append,Array.toList_replicate];refine Q9 BI ?_;rw[XK];refine⟨by simp at Ad|-;omega,λi c v hc hv=>?_⟩;have:c=.un:=by have:=List.mem_of_getElem? hc;exact(List.mem_replicate.1 this).2
     subst this;simp[rel]
    refine callsIn_of_wp_marks Bq hb trivial (λb k cs Rv _ _=>?_);have Ep:YY P [.code ic] [.code c]:=by simp only[YY];exact⟨c,[],rfl,iG,rfl⟩
    obtain⟨e,a',w',m',T',H',Af,EW,DD,hq,EE⟩:=h w.heap.size m w { tmps:=vs++Ho (fn.ntmps-vs.size) undef,defers:=[] } b cs [.code c] k ⟨hs,hT,Gg _⟩ (JdW.nil _ _ (λ_=>Rv) _ _ _ (Gg _)) Ep;have fin:resK (XC T' H' ts) R H'->LeavesInM (WF none) 0 P fn a'.tmps (λe w''=>∃r m' v H',e=.returned r/\Ext H.length m H w m' H' w''/\Sim E m' H' w''/\rel m'.own m'.imm v r/\R v H') a'.defers .returning w':=by
     intro hR;obtain⟨_,_,Ds,IZ,F6,hD⟩:=DD;rw[IZ];have key:∀(Ds:LB) (w1:World),Ds.Nodup->(∀D∈Ds,w.heap.size<=D/\w1.heap[D]? = some (.deferred (some []))/\¬owned m' H' D)->Ext H.length m H w m' H' w1->Sim E m' H' w1->
       LeavesInM (WF none) 0 P fn a'.tmps (λe w''=>∃r m' v H',e=.returned r/\Ext H.length m H w m' H' w''/\Sim E m' H' w''/\rel m'.own m'.imm v r/\R v H') (Ds.map λD=>{ target:=.collected D,args:=#[] }) .returning w1:=by
      intro Ds
      induction Ds with
      |nil=>intro w1 _ _ he EL;obtain⟨v,cv,Ak,hv,SN⟩:=run_results (P:=P) AJ ⟨EL,EW.tmps,EW.long⟩ hR;exact⟨v,Ak,v,m',cv,H',rfl,he,EL,hv,SN⟩
      |cons D Ds ih=>
       intro w1 hn hD he EL;obtain⟨fe,eZ,bL⟩:=hD D sM;refine⟨sM,.inl ⟨D,w1.putObj D (.deferred none),rfl,run_takeDeferred eZ,?_⟩⟩;have F6:=(List.nodup_cons.1 hn);refine ih _ F6.2 (λD' PR=>?_) ?_ (EL.putDef eZ (by intro c e f h;cases h) bL)
       ·obtain⟨a1,a2,a3⟩:=hD D' (by simp[PR]);exact⟨a1,(World.putObj_heap_other (by rintro rfl;exact F6.1 PR)).trans a2,a3⟩
       ·exact { he with size:=by rw[World.putObj_size];exact he.size,frame:=λB hB ho=>(World.putObj_heap_other om).trans (he.frame B hB ho),same:=he.same }
     exact key Ds w' F6 hD Af EW.sim
    cases e with
    |normal=>exact⟨.normal,a',w',fin hq,EE⟩
    |ret=>exact⟨.ret,a',w',fin hq,EE⟩
    |exit id=>exact hq.elim
    |goto l=>exact hq.elim
    |panic ch=>exact hq.elim
    |outgrown=>exact hq.elim
   ·cases hF
  ·cases hF
 ·cases hF
end
theorem Jak {id:Nat}:∀(k k':LM),Ym id k=some k'->Y2 k'<=Y2 k
 |[],_,h=>by simp[Ym]at h
 |.blk id'::k,k',h=>by
  simp only[Ym]at h
  split at h
  ·cases h;simp[Y2,KItem.size]
  ·have:=Jak k k' h;simp[Y2,KItem.size];omega
 |.code _::k,k',h=>by simp only[Ym]at h;have:=Jak k k' h;simp only[Y2,KItem.size];omega
 |.ops _::k,k',h=>by simp only[Ym]at h;have:=Jak k k' h;simp only[Y2,KItem.size];omega
section
variable (P:Program)(E:Env)(n0:Nat)(N:Fr)(Q:Exit->Lu->Lv->Prop)
def KD (k:LM)(T:Lu)(H:Lv):Prop:=
 match k with
 |[]=>Q .normal T H
 |.blk _::k=>KD k T H
 |.ops []::k=>KD k T H
 |.ops (⟨d,op,none⟩::l)::k=>match exec op T H with
  |some (c,v,H')=>c.holds/\KD (.ops l::k) (put T d v) H'
  |none=>Ok P E n0 N Q (.ops (⟨d,op,none⟩::l)::k) T H
 |.ops (⟨d,op,some (s,want)⟩::l)::k=>match T.getD s .un with
  |.bool t=>(t=want->match exec op T H with
    |some (c,v,H')=>c.holds/\KD (.ops l::k) (put T d v) H'
    |none=>Ok P E n0 N Q (.ops (⟨d,op,some (s,want)⟩::l)::k) T H)/\(t=(!want)->KD (.ops l::k) (put T d (.tup [])) H)
  |.tup []=>KD (.ops l::k) (put T d (.tup [])) H
  |_=>False
 |.code .skip::k=>KD k T H
 |.code (.seq a b)::k=>KD (.code a :: .code b::k) T H
 |.code (.block id a)::k=>KD (.code a :: .blk id::k) T H
 |.code (.cond i a b)::k=>match Kg T i with
  |.bool t=>(t=true->KD (.code a::k) T H)/\(t=false->KD (.code b::k) T H)
  |_=>False
 |.code .ret::_=>Q .ret T H
 |.code (.exit id)::k=>match _h:Ym id k with
  |some k'=>KD k' T H
  |none=>Q (.exit id) T H
 |.code (.reg l)::k=>KD (.ops l::k) T H
 |.code (.dreg l es)::k=>Ok P E n0 N Q (.code (.dreg l es)::k) T H
 |.code (.loop a)::k=>Ok P E n0 N Q (.code (.loop a)::k) T H
 |.code (.rfunc f ps a b)::k=>Ok P E n0 N Q (.code (.rfunc f ps a b)::k) T H
 |.code .bad::_=>False
termination_by Y2 k
decreasing_by
 all_goals simp only[Y2,KItem.size,ICode.size,G9]
 all_goals first
  |omega
  |(have:=Jak _ _ ‹_›;omega)
def vrun0 (k:LM)(T:Lu)(H:Lv):Prop:=KD P E n0 N Q k T H
def vres (r:Option (Cond×CV×Lv))(d:Option Nat)(op:IOp)(g:Option (Nat×Bool))(l:LD)(k:LM)(T:Lu)(H:Lv):Prop:=
 match r with
 |some (c,v,H')=>c.holds/\KD P E n0 N Q (.ops l::k) (put T d v) H'
 |none=>Ok P E n0 N Q (.ops (⟨d,op,g⟩::l)::k) T H
def JgR (v:CV)(p q:Prop):Prop:=
 match v with
 |.bool t=>(t=true->p)/\(t=false->q)
 |_=>False
def XI (v:CV)(want:Bool)(p q:Prop):Prop:=
 match v with
 |.bool t=>(t=want->p)/\(t=(!want)->q)
 |.tup []=>q
 |_=>False
def Jc4 (r:Option LM)(id:Nat)(T:Lu)(H:Lv):Prop:=
 match r with
 |some k'=>KD P E n0 N Q k' T H
 |none=>Q (.exit id) T H
end
section
variable{N:Fr}{Q':Exit->Lu->Lv->Prop}{b:Frame}{T':Lu}{k:LM}
theorem v_nil:KD P E n0 N Q [] T H=Q .normal T H:=by rw[KD]
theorem v_blk {id:Nat}:KD P E n0 N Q (.blk id::k) T H=KD P E n0 N Q k T H:=by rw[KD]
theorem v_ops_nil:KD P E n0 N Q (.ops []::k) T H=KD P E n0 N Q k T H:=by rw[KD]
theorem v_op{op:IOp}:KD P E n0 N Q (.ops (⟨d,op,none⟩::l)::k) T H=vres P E n0 N Q (exec op T H) d op none l k T H:=by rw[KD];rfl
theorem v_gop{op:IOp}{s:Nat}:KD P E n0 N Q (.ops (⟨d,op,some (s,want)⟩::l)::k) T H=XI (T.getD s .un) want (vres P E n0 N Q (exec op T H) d op (some (s,want)) l k T H) (KD P E n0 N Q (.ops l::k) (put T d (.tup [])) H):=by rw[KD];rfl
theorem v_skip:KD P E n0 N Q (.code .skip::k) T H=KD P E n0 N Q k T H:=by rw[KD]
theorem v_seq{x:ICode}:KD P E n0 N Q (.code (.seq x y)::k) T H=KD P E n0 N Q (.code x :: .code y::k) T H:=by rw[KD]
theorem v_block {id:Nat}{x:ICode}:KD P E n0 N Q (.code (.block id x)::k) T H=KD P E n0 N Q (.code x :: .blk id::k) T H:=by rw[KD]
theorem v_cond{x:ICode}:KD P E n0 N Q (.code (.cond i x y)::k) T H=JgR (Kg T i) (KD P E n0 N Q (.code x::k) T H) (KD P E n0 N Q (.code y::k) T H):=by rw[KD];rfl
theorem v_ret:KD P E n0 N Q (.code .ret::k) T H=Q .ret T H:=by rw[KD]
theorem v_exit {id:Nat}:KD P E n0 N Q (.code (.exit id)::k) T H=Jc4 P E n0 N Q (Ym id k) id T H:=by rw[KD];unfold Jc4;split <;> simp_all
theorem v_reg:KD P E n0 N Q (.code (.reg l)::k) T H=KD P E n0 N Q (.ops l::k) T H:=by rw[KD]
theorem v_loop {a:ICode}:KD P E n0 N Q (.code (.loop a)::k) T H=Ok P E n0 N Q (.code (.loop a)::k) T H:=by rw[KD]
theorem v_dreg{es:List LB}:KD P E n0 N Q (.code (.dreg l es)::k) T H=Ok P E n0 N Q (.code (.dreg l es)::k) T H:=by rw[KD]
theorem v_rfunc {f:IArg}{ps:LB}{x:ICode}:KD P E n0 N Q (.code (.rfunc f ps x y)::k) T H=Ok P E n0 N Q (.code (.rfunc f ps x y)::k) T H:=by rw[KD]
theorem vres_some {c:Cond}{v:CV}{op:IOp}:vres P E n0 N Q (some (c,v,H')) d op g l k T H=(c.holds/\KD P E n0 N Q (.ops l::k) (put T d v) H'):=rfl
theorem vres_none{op:IOp}:vres P E n0 N Q none d op g l k T H=Ok P E n0 N Q (.ops (⟨d,op,g⟩::l)::k) T H:=rfl
theorem vcond_bool {t:Bool}:JgR (.bool t) p q=((t=true->p)/\(t=false->q)):=rfl
theorem vguard_bool{t:Bool}:XI (.bool t) want p q=((t=want->p)/\(t=(!want)->q)):=rfl
theorem vguard_skip:XI (.tup []) want p q=q:=rfl
theorem vguard_tt:XI (.bool true) true p q=p:=by simp[XI]
theorem vguard_ff:XI (.bool false) false p q=p:=by simp[XI]
theorem vguard_tf:XI (.bool true) false p q=q:=by simp[XI]
theorem vguard_ft:XI (.bool false) true p q=q:=by simp[XI]
theorem vcond_true:JgR (.bool true) p q=p:=by simp[JgR]
theorem vcond_false:JgR (.bool false) p q=q:=by simp[JgR]
theorem vexit_some {id:Nat}{k':LM}:Jc4 P E n0 N Q (some k') id T H=KD P E n0 N Q k' T H:=rfl
theorem vexit_none {id:Nat}:Jc4 P E n0 N Q none id T H=Q (.exit id) T H:=rfl
theorem vrun0_eq:vrun0 P E n0 N Q k T H=KD P E n0 N Q k T H:=rfl
theorem vrun_look {T':Lu}{H':Lv}(hT:T=T')(hH:H=H'):KD P E n0 N Q k T H=KD P E n0 N Q k T' H':=by rw[hT,hH]
theorem ok_look {T':Lu}{H':Lv}(hT:T=T')(hH:H=H'):Ok P E n0 N Q k T H=Ok P E n0 N Q k T' H':=by rw[hT,hH]
theorem vres_look {r r':Option (Cond×CV×Lv)}{op:IOp}(h:r=r'):vres P E n0 N Q r d op g l k T H=vres P E n0 N Q r' d op g l k T H:=by rw[h]
theorem vcond_look {v v':CV}(h:v=v'):JgR v p q=JgR v' p q:=by rw[h]
theorem vguard_look {v v':CV}(h:v=v'):XI v want p q=XI v' want p q:=by rw[h]
theorem vexit_look {r r':Option LM}{id:Nat}(h:r=r'):Jc4 P E n0 N Q r id T H=Jc4 P E n0 N Q r' id T H:=by rw[h]
attribute [congr] vrun_look ok_look vres_look vcond_look vguard_look vexit_look
theorem JfP{op:IOp}(ih:∀T H,KD P E n0 N Q (.ops l::k) T H->Ok P E n0 N Q (.ops l::k) T H)(hg:GOk T g)(h:vres P E n0 N Q (exec op T H) d op g l k T H):Ok P E n0 N Q (.ops (⟨d,op,g⟩::l)::k) T H:=by
 cases he:exec op T H with
 |none=>rw[he]at h;exact h
 |some r=>obtain⟨c,v,H'⟩:=r;rw[he]at h;exact JeY (io:=⟨d,op,g⟩) hg he h.1 (ih _ _ h.2)
theorem JD (k:LM):∀(T:Lu) (H:Lv),KD P E n0 N Q k T H->Ok P E n0 N Q k T H:=by
 suffices hs:∀n k,Y2 k=n->∀(T:Lu) (H:Lv),KD P E n0 N Q k T H->Ok P E n0 N Q k T H from hs _ k rfl
 intro n
 induction n using HY with
 |_ n ih=>
  intro k hn T H h
  match k,hn,h with
  |[],_,h=>rw[v_nil]at h;exact ok_nil h
  |.blk id::k,hn,h=>rw[v_blk]at h;exact ok_blk (ih _ (by rw[<-hn];simp[Y2,KItem.size]) k rfl _ _ h)
  |.ops []::k,hn,h=>rw[v_ops_nil]at h;exact JbH (ih _ (by rw[<-hn];simp[Y2,KItem.size]) k rfl _ _ h)
  |.ops (⟨d,op,none⟩::l)::k,hn,h=>rw[v_op]at h;exact JfP (λT H=>ih _ (by rw[<-hn];simp[Y2,KItem.size]) _ rfl T H) (.inl rfl) h
  |.ops (⟨d,op,some (s,want)⟩::l)::k,hn,h=>
   rw[v_gop]at h;unfold XI at h
   split at h
   ·rename_i t ht;by_cases EK:t=want
    ·exact JfP (λT H=>ih _ (by rw[<-hn];simp[Y2,KItem.size]) _ rfl T H) (.inr ⟨s,want,rfl,by rw[ht,EK]⟩) (h.1 EK)
    ·have:t = !want:=by cases t <;> cases want <;> simp_all
     exact JeX rfl (.inl (by rw[ht,this])) (ih _ (by rw[<-hn];simp[Y2,KItem.size]) _ rfl _ _ (h.2 this))
   ·rename_i ht;exact JeX rfl (.inr ht) (ih _ (by rw[<-hn];simp[Y2,KItem.size]) _ rfl _ _ h)
   ·exact h.elim
  |.code .skip::k,hn,h=>rw[v_skip]at h;exact ok_skip (ih _ (by rw[<-hn];simp[Y2,KItem.size,ICode.size]) k rfl _ _ h)
  |.code (.seq x y)::k,hn,h=>rw[v_seq]at h;exact ok_seq (ih _ (by rw[<-hn];simp[Y2,KItem.size,ICode.size];omega) _ rfl _ _ h)
  |.code (.block id x)::k,hn,h=>rw[v_block]at h;exact ok_block (ih _ (by rw[<-hn];simp[Y2,KItem.size,ICode.size];omega) _ rfl _ _ h)
  |.code (.cond i x y)::k,hn,h=>
   rw[v_cond]at h;unfold JgR at h
   split at h
   ·rename_i t ht;refine ok_cond ht (ih _ ?_ _ rfl _ _ ?_)
    ·rw[<-hn];cases t <;> simp[Y2,KItem.size,ICode.size] <;> omega
    ·cases t
     ·exact h.2 rfl
     ·exact h.1 rfl
   ·exact h.elim
  |.code .ret::k,hn,h=>rw[v_ret]at h;exact ok_ret h
  |.code (.exit id)::k,hn,h=>
   rw[v_exit]at h;refine ok_exit ?_;unfold Jc4 at h
   cases hx:Ym id k with
   |none=>rw[hx]at h;exact h
   |some k'=>rw[hx]at h;exact ih _ (by rw[<-hn];have:=Jak _ _ hx;simp[Y2,KItem.size,ICode.size];omega) _ rfl _ _ h
  |.code (.reg l)::k,hn,h=>rw[v_reg]at h;exact ok_reg (ih _ (by rw[<-hn];simp[Y2,KItem.size,ICode.size]) _ rfl _ _ h)
  |.code (.dreg l es)::k,hn,h=>rw[v_dreg]at h;exact h
  |.code (.loop a)::k,hn,h=>rw[v_loop]at h;exact h
  |.code (.rfunc f ps x y)::k,hn,h=>rw[v_rfunc]at h;exact h
  |.code .bad::k,hn,h=>rw[KD]at h;exact h.elim
theorem Ok.mono (h:Ok P E n0 N Q k T H)(hq:∀e T H,Q e T H->Q' e T H):Ok P E n0 N Q' k T H:=by intro m w a b cs kr rest hp hd hk;obtain⟨e,a',w',m',T',H',h1,h2,h3,h4,h5⟩:=h m w a b cs kr rest hp hd hk;exact⟨e,a',w',m',T',H',h1,h2,h3,hq _ _ _ h4,h5⟩
def wk (c c':CV):Prop:=∀own imm v,rel own imm c v->rel own imm c' v
def wks:Lu->Lu->Prop
 |[],[]=>True
 |c::cs,c'::cs'=>wk c c'/\wks cs cs'
 |_,_=>False
theorem JaA:∀{T T':Lu}{vs:LH},wks T T'->J7 own imm T vs->J7 own imm T' vs
 |[],[],_,_,h=>h
 |c::cs,c'::cs',vs,hw,h=>by simp only[J7]at h|-;obtain⟨r,rs,rfl,h1,h2⟩:=h;exact⟨r,rs,rfl,hw.1 _ _ _ h1,JaA hw.2 h2⟩
 |[],_::_,_,hw,_=>hw.elim
 |_::_,[],_,hw,_=>hw.elim
theorem wk.refl (c:CV):wk c c:=λ_ _ _ h=>h
theorem wk.un (c:CV):wk c .un:=λ_ _ _ _=>by simp[rel]
theorem wk.eq {c c':CV}(h:c=c'):wk c c':=h▸wk.refl c
theorem wk.rslc{cap:Option Nat}:wk (.rslc z els cap) (.rslc z els none):=by
 intro own imm v h;simp only[rel]at h|-;rcases h with ⟨_,h1,h2⟩|⟨B,o,c,h1,h2,h3,h4⟩
 ·exact .inl ⟨.inl trivial,h1,h2⟩
 ·exact .inr ⟨B,o,c,h1,h2,sM,h4⟩
theorem wk.nils:wk .nils (.rslc z [] none):=by intro own imm v h;simp only[rel]at h|-;exact .inl ⟨.inl trivial,trivial,none,h⟩
theorem wks.refl:∀(T:Lu),wks T T
 |[]=>trivial
 |c::cs=>⟨wk.refl c,wks.refl cs⟩
theorem Qm (hw:wks T T')(h:Ok P E n0 N Q k T' H):Ok P E n0 N Q k T H:=by intro m w a b cs kr rest hp hd hk;exact h m w a b cs kr rest ⟨hp.sim,JaA hw hp.tmps,hp.long⟩ hd hk
def forget:Lu->Lu->Prop
 |[],[]=>True
 |a::T,b::T'=>(b=.un\/a=b)/\forget T T'
 |_,_=>False
theorem YF:∀{T T':Lu},forget T T'->wks T T'
 |[],[],_=>trivial
 |_::_,_::_,h=>⟨h.1.elim (λh=>by rw[h];exact wk.un _) λh=>wk.eq h,YF h.2⟩
 |[],_::_,h=>h.elim
 |_::_,[],h=>h.elim
def Jeo (P:Program)(E:Env)(n0:Nat)(N:Fr)(Q:Exit->Lu->Lv->Prop)(k:LM)(I:Lu->Lv->Prop)(e:Exit)(T:Lu)(H:Lv):Prop:=
 match e with
 |.normal=>I T H
 |.exit id=>Jc4 P E n0 N Q (Ym id k) id T H
 |.ret=>Q .ret T H
 |_=>False
theorem JgQ:Jeo P E n0 N Q k I .normal T H=I T H:=rfl
theorem vloopQ_exit{id:Nat}:Jeo P E n0 N Q k I (.exit id) T H=Jc4 P E n0 N Q (Ym id k) id T H:=rfl
theorem vloopQ_ret:Jeo P E n0 N Q k I .ret T H=Q .ret T H:=rfl
theorem Jdy{I':Lu->Lv->Prop}(hI:∀T H,I T H->I' T H){e:Exit}(h:Jeo P E n0 N Q k I e T H):loopQ P E n0 N Q k I' e T H:=by
 cases e with
 |normal=>exact hI _ _ h
 |exit id=>
  simp only[Jeo,Jc4]at h;simp only[loopQ]
  split <;> rename_i hx <;> rw[hx]at h
  ·exact JD _ _ _ h
  ·exact h
 |ret=>exact h
 |goto _=>exact h.elim
 |panic _=>exact h.elim
 |outgrown=>exact h.elim
theorem JL {x:ICode}{σ:Type}(I:σ->Prop)(inv:σ->Lu)(hp:σ->Lv)(μ:σ->Nat)(s0:σ)(h0:I s0)(hT:forget T (inv s0))(hH:H=hp s0)
  (hb:∀s,I s->KD P E n0 N (Jeo P E n0 N Q k λT' H'=>∃s',I s'/\μ s' < μ s/\H'=hp s'/\forget T' (inv s')) [.code x] (inv s) (hp s)):Ok P E n0 N Q (.code (.loop x)::k) T H:=by
 subst hH;refine ok_loop (I:=λs T H=>I s/\wks T (inv s)/\H=hp s) μ s0 ⟨h0,YF hT,rfl⟩ ?_;rintro s T H ⟨hs,hw,rfl⟩;refine Qm hw ((JD _ _ _ (hb s hs)).mono λe T' H' hq=>Jdy (λT2 H2 h2=>?_) hq);obtain⟨s',AB,Ab,rfl,hf⟩:=h2;exact⟨s',⟨AB,YF hf,rfl⟩,Ab⟩
theorem gok {s:Nat}(h:T.getD s .un=.bool want):GOk T (some (s,want)):=.inr ⟨s,want,rfl,h⟩
theorem Kt(hg:GOk T g)(Ah:CallsC P E f (as.map (Kg T)) H R)(h:∀v H',R v H'->KD P E n0 N Q (.ops l::k) (put T d v) H'):Ok P E n0 N Q (.ops (⟨d,.call f as,g⟩::l)::k) T H:=Jdl hg Ah λv H' hR=>JD _ _ _ (h v H' hR)
def Pure (P:Program)(E:Env)(f:Nat)(args:Lu)(H:Lv)(v:CV):Prop:=CallsC P E f args H λv' H'=>v'=v/\H'=H
theorem JaZ{v:CV}(Ah:Pure P E f (as.map (Kg T)) H v)(h:KD P E n0 N Q (.ops l::k) (put T d v) H):Ok P E n0 N Q (.ops (⟨d,.call f as,none⟩::l)::k) T H:=Kt (.inl rfl) Ah λv' H' ⟨hv,hH⟩=>by rw[hv,hH];exact h
theorem vr_pureg{v:CV}(hg:GOk T g)(Ah:Pure P E f (as.map (Kg T)) H v)(h:KD P E n0 N Q (.ops l::k) (put T d v) H):Ok P E n0 N Q (.ops (⟨d,.call f as,g⟩::l)::k) T H:=Kt hg Ah λv' H' ⟨hv,hH⟩=>by rw[hv,hH];exact h
theorem CallsC.mono{args:Lu}{R':CV->Lv->Prop}(h:CallsC P E f args H R)(hR:∀v H',R v H'->R' v H'):CallsC P E f args H R':=by intro m w vs hs hv;refine(h m w vs hs hv).mono ?_;rintro e w' ⟨r,m',v,H',h1,h2,h3,h4,h5⟩;exact⟨r,m',v,H',h1,h2,h3,h4,hR _ _ h5⟩
theorem CallsC.weaken{args args':Lu}(hw:wks args args')(h:CallsC P E f args' H R):CallsC P E f args H R:=λm w vs hs hv=>h m w vs hs (JaA hw hv)
theorem Ki{args:Lu}(hF:Jd P f=some F)(h:∀n,vrun0 P E H.length ⟨n,false⟩ (retQ F.results R) [.code F.body] (args++Gv (F.ntmps-args.length) .un) H):CallsC P E f args H R:=callsC_of hF λN=>JD _ _ _ (h N)
end
end Go.Cm
end
