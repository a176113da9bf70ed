/-
  A part of the proof. Conditions: none.
-/
import Derived.Test.YtdnnimemociklaaGreatDoorYP40
set_option linter.unusedSimpArgs false
set_option linter.unusedVariables false
open Bool renaming and_eq_true->Gv,eq_iff_iff->GX,or_eq_false_iff->Hr,true_and->GY,false_and->Ht,and_true->Hu,or_eq_true->Lh
open List renaming getD_eq_getElem?_getD->Ga,getElem?_eq_getElem->Gf,length_cons->Gg,range->Gb,getElem?_set_self->Gn,length_nil->Gi,map_cons->Gj,getElem?_set_ne->Gr,getElem_mem->Gp,getElem?_eq_none->Gw,map_nil->Gl,getElem?_range->Gx,getD_cons_zero->Gy,getElem?_eq_some_iff->GI,set_cons_zero->Gz,take_of_length_le->GJ,getElem?_append_right->GM,getElem?_map->GG,getElem?_replicate->GN,length_take->GH,set_cons_succ->GK,length->Gs,mem_cons->GA,pairwise_iff_getElem->GZ,mem_or_eq_of_mem_set->G5,filter_cons->GL,take_succ_eq_append_getElem->Hw,eq_nil_of_length_eq_zero->Hy,all_eq_true->GQ,getD_cons_succ->G6,replicate->GR,getElem?_append_left->Hz,drop_zero->GU,length_range->G7,not_mem_nil->G8,length_drop->G9,ext_getElem->Ha,map_map->GV,length_set->Hd,take_zero->He,mem_range->Hf,take_succ_cons->HV,map_congr_left->HY,getElem_range->HZ,all_cons->Hg,getElem?_set->H5,foldl_append->H6,getElem_set->H7,cons_append->H8,range_succ->H9,nil_append->La,getElem?_take_of_lt->Li,getElem?_cons_zero->Lj,drop_eq_nil_of_le->Ll,mem_map->Lb,length_filter_le->Lm,all_nil->Lc,length_append->Lp,getElem?_drop->Lr,ext_getElem?->Ls,take_length->Lt,mem_flatMap->kX,map_append->kY,length_map->kZ,headD_cons->V9,all_append->V8,map_set->kW,map_id->kV
open Option renaming getD_some->GD,isSome_some->Hl,isSome_none->Hm,map_some->Ho
open Nat renaming le_refl->Gh,zero_add->Gm,lt_of_not_le->Ld,strongRecOn->Le,add_sub_cancel_left->kU,lt_or_ge->Lf,le_of_eq->Lg,reduceEqDiff->V7,reduceAdd->V6,sub_self->V5
open Int renaming toNat_natCast->Gd,cast_ofNat_Int->Gq
open Classical renaming byContradiction->Hq
open Option.some renaming injEq->Gt,inj->V4
open Prod.mk renaming injEq->Gu
open Go.Proofs.Tryz renaming prog->Gc
noncomputable section
section
set_option maxRecDepth 100000
open Go.Proofs
namespace Go.Cm
theorem aN{a b:Prop}(h:b)(k:a:=by first|omega|exact⟨om,om⟩|exact Jg):a/\b:=⟨k,h⟩
variable {a f k m n u v w x:Nat}{t:Tr}{o p:Lx}{ψ:Nat->Nat}
inductive TyX where
 |int
 |bool
 |arr (a:TyX)
 |str (a:TyX)
 deriving DecidableEq,Inhabited
def Xg:LA:=[115,116,114,101,97,109,32]
def tyT:TyX->LA
 |.int=>[105,110,116]
 |.bool=>[98,111,111,108]
 |.arr a=>91::(tyT a++[93])
 |.str a=>Xg++tyT a
def tyP:TyX->Nat
 |.int=>1
 |.bool=>1
 |.arr a=>tyP a+1
 |.str a=>tyP a+1
theorem Jet:∀{a b:TyX},tyT a=tyT b->a=b
 |.int,.int,_=>rfl
 |.bool,.bool,_=>rfl
 |.arr a,.arr b,h=>by simp only[tyT,List.cons.injEq,true_and]at h;rw[Jet (List.append_cancel_right h)]
 |.str a,.str b,h=>by simp only[tyT]at h;rw[Jet (List.append_cancel_left h)]
 |.int,.bool,h=>by simp[tyT]at h
 |.int,.arr _,h=>by simp[tyT]at h
 |.int,.str _,h=>by simp[tyT,Xg]at h
 |.bool,.int,h=>by simp[tyT]at h
 |.bool,.arr _,h=>by simp[tyT]at h
 |.bool,.str _,h=>by simp[tyT,Xg]at h
 |.arr _,.int,h=>by simp[tyT]at h
 |.arr _,.bool,h=>by simp[tyT]at h
 |.arr _,.str _,h=>by simp[tyT,Xg]at h
 |.str _,.int,h=>by simp[tyT,Xg]at h
 |.str _,.bool,h=>by simp[tyT,Xg]at h
 |.str _,.arr _,h=>by simp[tyT,Xg]at h
theorem JdB {a b:TyX}:(tyT a == tyT b)=(a == b):=by rw[GX,beq_iff_eq,beq_iff_eq];exact⟨Jet,λh=>by rw[h]⟩
theorem Jes {a:TyX}:tyT a≠[]:=by cases a <;> simp[tyT,Xg]
abbrev TL:=List TyX
variable {l:TL}{got:List TL}{r:Option TL}{τ:Nat->TL}
def tyF (t:Tr):Nat->Nat->TyX
 |0,_=>.int
 |f+1,i=>if (nd t i).k=60 then .int else if (nd t i).k=61 then .bool else if (nd t i).k=62 then .arr (tyF t f (Ju t i 0)) else .str (tyF t f (Ju t i 0))
def tyN (t:Tr)(i:Nat):TyX:=tyF t (i+1) i
def Q3 (t:Tr)(d:Nat):TL:=(Gb (nd t d).n.toNat).map λk=>tyN t (Ju t (Ju t d k) 0)
def XH (t:Tr)(d:Nat):TL:=(Gb ((nd t d).kids.length-1-(nd t d).n.toNat)).map λk=>tyN t (Ju t d ((nd t d).n.toNat+k))
def Jr (got:List TL)(i:Nat):TL:=got.getD i []
def YS (ls:List TL):Option TL:=match ls with
 |[l]=>some l
 |_=>if ls.all (λl=>l.length == 1) then some (ls.map λl=>l.headD .int) else none
def Jbi (t:Tr)(got:List TL)(i j:Nat):TL:=if j<(nd t i).kids.length then Jr got (Ji t (Ju t i j)) else []
def Qd (t:Tr)(m:Nat)(got:List TL)(i:Nat):Option TL:=
 let k:=(nd t i).k
 let K:=λj=>if j<(nd t i).kids.length then Jr got (Ju t i j) else []
 if k=1 then some [.int]
 else if k=2 then some [.bool]
 else if k=4 then match K 1 with
  |[.str a]=>if K 0=[a] then some [.str a] else none
  |_=>none
 else if k=5\/k=6 then if K 0=[.bool]/\K 1=[.bool] then some [.bool] else none
 else if k=7\/k=8 then if K 0=[.int]/\K 1=[.int]\/K 0=[.bool]/\K 1=[.bool] then some [.bool] else none
 else if 9<=k/\k<=12 then if K 0=[.int]/\K 1=[.int] then some [.bool] else none
 else if 13<=k/\k<=17 then if K 0=[.int]/\K 1=[.int] then some [.int] else none
 else if k=18 then match K 0 with
  |[.arr a]=>if K 1=[.int] then some [a] else none
  |_=>none
 else if k=19 then if K 0=[.bool] then some [.bool] else none
 else if k=20 then if K 0=[.int] then some [.int] else none
 else if k=21 then match K 0 with
  |[.str a]=>some [a]
  |_=>none
 else if k=22 then match K 0 with
  |[.str a]=>some [.str a]
  |_=>none
 else if k=23 then match K 0 with
  |[.str _]=>some [.bool]
  |_=>none
 else if k=24 then match K 0 with
  |[.arr _]=>some [.int]
  |_=>none
 else if k=25 then some [.str (tyN t (Ju t i 0))]
 else if k=26 then if (nd t i).kids.length=(Q3 t m).length/\∀j,j<(nd t i).kids.length->K j=[(Q3 t m).getD j .int] then some (XH t m) else none
 else if k=27 then if K 0=[.bool]/\K 1=K 2 then some (K 1) else none
 else if k=28 then if K (nd t i).n.toNat=[.bool] then some (K ((nd t i).kids.length-1)) else none
 else if k=29 then match Jbi t got i 1 with
  |[a]=>if ((Gb ((nd t i).kids.length-1)).all λj=>Jbi t got i (j+1) == [a])=true/\K 0=[.int] then some [.arr a] else none
  |_=>none
 else if k=40 then YS ((Gb ((nd t i).kids.length-(nd t i).n.toNat)).map λj=>K ((nd t i).n.toNat+j))
 else if k=45 then YS ((Gb (nd t i).kids.length).map K)
 else if k=42 then if (nd t i).kids=[] then some [] else some [tyN t (Ju t i 0)]
 else if k=64 then some [tyN t (Ju t i 0)]
 else if k=43 then if (K 0).length=1 then some (K 0) else none
 else if k=44 then if (Jr got m).length=1/\K 0=Jr got m then some [] else none
 else if k=47 then some [.int]
 else if k=65 then if K ((nd t i).kids.length-1)=XH t i then some [] else none
 else some []
def Xz (k:Nat)(b:Bool):List (Nat×Bool)->List (Nat×Bool)
 |[]=>[(k,b)]
 |(j,c)::l=>if j=k then(k,b)::l else(j,c)::Xz k b l
def J6 (l:List (Nat×Bool))(k:Nat):Bool:=match l with
 |[]=>false
 |(j,c)::l=>if j=k then c else J6 l k
theorem QX{j:Nat}{b:Bool}:∀{l:List (Nat×Bool)},J6 (Xz k b l) j=if j=k then b else J6 l j
 |[]=>by
  show (if k=j then b else J6 [] j)=if j=k then b else J6 [] j
  by_cases h:j=k
  ·rw[if_pos h,if_pos h.symm]
  ·rw[if_neg h,if_neg (λe:k=j=>h e.symm)]
 |(a,c)::l=>by
  rw[Xz];by_cases h:a=k
  ·subst h;rw[if_pos rfl,J6,J6];by_cases e:j=a
   ·subst e;simp
   ·rw[if_neg (λx=>e x.symm),if_neg e,if_neg (λx=>e x.symm)]
  ·rw[if_neg h,J6,J6,QX];by_cases e:a=j
   ·subst e;rw[if_pos rfl,if_pos rfl,if_neg h]
   ·rw[if_neg e,if_neg e]
structure FS where
 got:List TL
 dn:LK
 fd:List (Nat×Bool)
 fg:List (Nat×Bool)
 bad:Option Nat
variable {S':FS}{go:FS->Nat->FS}
def FS.fail (S:FS)(i:Nat):FS:=if S.bad.isSome then S else { S with bad:=some i }
def Qg (l:TL):Bool:=l.all λa=>decide (tyP a<=20)
def FS.fin (S:FS)(i:Nat)(r:Option TL):FS:=match r with
 |none=>S.fail i
 |some l=>if S.bad.isSome then S else if Qg l=true then { S with got:=if l=[] then S.got else S.got.set i l,dn:=S.dn.set i true } else S.fail i
def Yb (t:Tr)(s:Nat)(l:TL)(got:List TL):Nat->List TL
 |0=>got
 |k+1=>if (nd t (Ju t s k)).kids=[] then(Yb t s l got k).set (Ju t s k) [l.getD k .int] else Yb t s l got k
def JR (t:Tr)(s:Nat)(S:FS):FS:=
 let l:=Jr S.got (Ji t s)
 if l.length=(nd t s).n.toNat then { S with got:=Yb t s l S.got (nd t s).n.toNat,fd:=Xz s true S.fd } else S.fail s
def Kr (a n:Nat):LB:=(Gb n).map λj=>a+j
def Qn (t:Tr)(o:Lx)(go:FS->Nat->FS)(s i:Nat)(S:FS):FS:=
 if J6 S.fg s=true then S.fail i
 else
  let e:=Ji t s
  let S1:=(Kr (fs o e).toNat (e+1-(fs o e).toNat)).foldl go { S with fg:=Xz s true S.fg }
  let S2:=if S1.bad.isSome then S1 else JR t s S1
  { S2 with fg:=Xz s false S2.fg }
def Y3 (t:Tr)(o:Lx)(go:FS->Nat->FS)(m i:Nat)(S:FS):FS×Option TL:=
 if (nd t m).k=47 then(S,some [.int])
 else if (nd t m).k=64\/(nd t m).k=42/\(nd t m).kids≠[] then(S,some [tyN t (Ju t m 0)])
 else if (nd t m).k=42/\J6 S.fd (Ky t m).toNat=false then
  let S':=Qn t o go (Ky t m).toNat i S
  (S',some (Jr S'.got m))
 else(S,some (Jr S.got m))
def XF (t:Tr)(s:Nat)(l:TL):Bool:=(Gb (nd t s).n.toNat).all λk=>(nd t (Ju t s k)).kids.isEmpty || tyN t (Ju t (Ju t s k) 0) == l.getD k .int
def YC (t:Tr)(s:Nat)(S:FS):FS:=if J6 S.fd s=true then S else JR t s S
def doF (t:Tr)(o:Lx)(mean:Nat->Nat):Nat->FS->Nat->FS
 |0,S,_=>S
 |f+1,S,i=>
  if S.bad.isSome || S.dn.getD i false then S
  else if (nd t i).k=3 then
   let r:=Y3 t o (doF t o mean f) (mean i) i S
   r.1.fin i r.2
  else if (nd t i).k=41 then
   let S':=YC t i S
   S'.fin i (if XF t i (Jr S'.got (Ji t i))=true then some [] else none)
  else S.fin i (Qd t (mean i) S.got i)
def FS.start (t:Tr):FS:=⟨GR t.nodes.length [],GR t.nodes.length false,[],[],none⟩
def JN (t:Tr)(o:Lx):FS:=(Gb t.nodes.length).foldl (doF t o (λi=>(JY t o i).toNat) (t.nodes.length+1)) (FS.start t)
theorem getD_setB {l:LK}{i j:Nat}{b:Bool}(h:i<l.length):(l.set i b).getD j false=if j=i then b else l.getD j false:=by
 simp only[Ga,H5];by_cases e:j=i
 ·subst e;simp[h]
 ·rw[if_neg (λx=>e x.symm),if_neg e]
theorem JaL{i j:Nat}{x:TL}(h:i<got.length):Jr (got.set i x) j=if j=i then x else Jr got j:=by
 unfold Jr;simp only[Ga,H5];by_cases e:j=i
 ·subst e;simp[h]
 ·rw[if_neg (λx=>e x.symm),if_neg e]
def Jay (t:Tr)(i:Nat):Prop:=(nd t i).k=42/\(nd t i).kids=[]
def nB (t:Tr)(s:Nat):Nat:=(nd t s).n.toNat
theorem Yw{s:Nat}:∀m,(Yb t s l got m).length=got.length
 |0=>rfl
 |m+1=>by
  rw[Yb]
  split
  ·rw[Hd,Yw m]
  ·exact Yw m
theorem JbF{s:Nat}{j:Nat}:∀m,(∀k,k<m->(nd t (Ju t s k)).kids=[]->Ju t s k≠j)->Jr (Yb t s l got m) j=Jr got j
 |0,_=>rfl
 |m+1,h=>by
  have ih:=JbF (s:=s) m λk hk=>h k om
  rw[Yb]
  split
  ·rename_i hb;have Ai:=h m om hb;unfold Jr at ih|-;rw[Ga,Gr Ai,<-Ga];exact ih
  ·exact ih
theorem Jhs{s:Nat}(AQ:∀k,(nd t (Ju t s k)).kids=[]->k<nB t s->Ju t s k<got.length)(DW:∀k j,k<nB t s->j<nB t s->Ju t s k=Ju t s j->k=j):∀m,m<=nB t s->∀k,k<m->(nd t (Ju t s k)).kids=[]->Jr (Yb t s l got m) (Ju t s k)=[l.getD k .int]
 |0,_,k,hk,_=>om
 |m+1,hm,k,hk,hb=>by
  rw[Yb];by_cases he:k=m
  ·subst he;rw[if_pos hb,JaL (by rw[Yw];exact AQ k hb om),if_pos rfl]
  ·have ih:=Jhs AQ DW m om k om hb
   split
   ·rename_i Ca;rw[JaL (by rw[Yw];exact AQ m Ca om),if_neg (λe=>he (DW _ _ om om e))];exact ih
   ·exact ih
structure FI (t:Tr)(S:FS):Prop where
 gl:S.got.length=t.nodes.length
 dl:S.dn.length=t.nodes.length
 emp:∀i,S.dn.getD i false=false->¬Jay t i->Jr S.got i=[]
 unf:∀s,s<t.nodes.length->(nd t s).k=41->J6 S.fd s=false->∀k,k<nB t s->(nd t (Ju t s k)).kids=[]->Jr S.got (Ju t s k)=[]
 fnd:∀s,J6 S.fd s=true->s<t.nodes.length/\(nd t s).k=41/\(Jr S.got (Ji t s)).length=nB t s/\∀k,k<nB t s->(nd t (Ju t s k)).kids=[]->Jr S.got (Ju t s k)=[(Jr S.got (Ji t s)).getD k .int]
 fine:∀i,Qg (Jr S.got i)=true
 ini:∀i,i<t.nodes.length->S.dn.getD i false=true->(nd t i).k=43->(Jr S.got i).length=1
 typ:∀i,i<t.nodes.length->S.dn.getD i false=true->(nd t i).k=42->(nd t i).kids≠[]->Jr S.got i=[tyN t (Ju t i 0)]
structure FG (t:Tr)(S S':FS):Prop where
 keep:∀i,Jr S.got i≠[]->Jr S'.got i=Jr S.got i
 dn:∀i,S.dn.getD i false=true->S'.dn.getD i false=true
 dk:∀i,S.dn.getD i false=true->¬Jay t i->Jr S'.got i=Jr S.got i
 fd:∀s,J6 S.fd s=true->J6 S'.fd s=true
 fg:∀s,J6 S'.fg s=J6 S.fg s
 bad:S.bad.isSome=true->S'.bad=S.bad
theorem FG.refl{S:FS}:FG t S S:=⟨λ_ _=>rfl,λ_ h=>h,λ_ _ _=>rfl,λ_ h=>h,λ_=>rfl,λ_=>rfl⟩
theorem FG.trans{A B C:FS}(h:FG t A B)(k:FG t B C):FG t A C where
 keep i hi:=by have h1:=h.keep i hi;rw[k.keep i (by rw[h1];exact hi),h1]
 dn i hi:=k.dn i (h.dn i hi)
 dk i hi hb:=(k.dk i (h.dn i hi) hb).trans (h.dk i hi hb)
 fd s hs:=k.fd s (h.fd s hs)
 fg s:=(k.fg s).trans (h.fg s)
 bad hb:=(k.bad (by rw[h.bad hb];exact hb)).trans (h.bad hb)
theorem FI.fail{S:FS}(h:FI t S)(i:Nat):FI t (S.fail i)/\FG t S (S.fail i)/\(S.fail i).bad.isSome=true:=by
 unfold FS.fail
 split
 ·rename_i hb;exact⟨h,.refl,hb⟩
 ·rename_i hb;exact⟨⟨h.gl,h.dl,h.emp,h.unf,h.fnd,h.fine,h.ini,h.typ⟩,⟨λ_ _=>rfl,λ_ h=>h,λ_ _ _=>rfl,λ_ h=>h,λ_=>rfl,λCa=>absurd Ca hb⟩,rfl⟩
section
variable(g:GoodT t o)
include g
theorem KA {s:Nat}(hs:s<t.nodes.length)(hk:(nd t s).k=41):(nd t s).kids.length=nB t s+1/\(∀k,k<nB t s->(nd t (Ju t s k)).k=42/\Ju t s k<s)/\(1<=(nd t (Ji t s)).k/\(nd t (Ji t s)).k<=29)/\Ji t s<s:=by
 obtain⟨a,h1,h2,h3,h4⟩:=Yu g hs hk;change (nd t s).n=a at h1;change (nd t s).kids.length=a+1 at h2;have hn:nB t s=a:=by unfold nB;omega
 have hm:=Jz g hs (i:=(nd t s).kids.length-1) om;refine⟨om,λk Aq=>?_,?_,hm.2.1⟩
 ·have h5:=Jz g hs (i:=k) om;exact⟨by rw[h5.2.2];exact h3 k om,h5.2.1⟩
 ·change (1<=(nd t (Ju t s ((nd t s).kids.length-1))).k)/\_;show _/\(nd t (Ju t s ((nd t s).kids.length-1))).k<=29;rw[hm.2.2,h2,show a+1-1=a by omega];exact h4
theorem set_ge1 {s:Nat}(hs:s<t.nodes.length)(hk:(nd t s).k=41):1<=nB t s:=by have hn:=g.nds (nd t s) (by unfold nd;rw[Ga,Gf hs];exact Gp hs);rw[ndI_R]at hn;simp only[Gv]at hn;have h:=hn.2;unfold Qq at h;rw[hk]at h;simp[inI]at h;unfold nB;omega
theorem kid_inj {s i j:Nat}(hs:s<t.nodes.length)(hi:i<(nd t s).kids.length)(hj:j<(nd t s).kids.length)(he:Ju t s i=Ju t s j):i=j:=by
 have ha:=JhD g hs;have h1:=g.kid hs (Gp hi);have h2:=g.kid hs (Gp hj);unfold Ju at he;rw[Ga,Ga,Gf hi,Gf hj]at he;simp only[GD]at he;rcases Nat.lt_trichotomy i j with h|h|h
 ·have:=GZ.1 ha i j hi hj h;omega
 ·exact h
 ·have:=GZ.1 ha j i hj hi h;omega
theorem kid_one2{s i j:Nat}(hs:s<t.nodes.length)(hu:u<t.nodes.length)(hi:i<(nd t s).kids.length)(hj:j<(nd t u).kids.length)(he:Ju t s i=Ju t u j):s=u:=by have h1:=(J3 g hs (Jz g hs hi).1).1;have h2:=(J3 g hu (Jz g hu hj).1).1;rw[he]at h1;omega
theorem settle_ok {S:FS}{s:Nat}(h:FI t S)(hs:s<t.nodes.length)(hk:(nd t s).k=41)(hf:J6 S.fd s=false):FI t (JR t s S)/\FG t S (JR t s S)/\((JR t s S).bad=none->J6 (JR t s S).fd s=true):=by
 obtain⟨b1,b2,b3,b4⟩:=KA g hs hk;unfold JR;simp only
 split
 case isFalse=>obtain⟨f1,f2,f3⟩:=h.fail s;exact⟨f1,f2,λhb=>by rw[hb]at f3;cases f3⟩
 case isTrue hl=>
  have hl:(Jr S.got (Ji t s)).length=nB t s:=hl;have AQ:∀k,(nd t (Ju t s k)).kids=[]->k<nB t s->Ju t s k<S.got.length:=λk _ Aq=>by have:=(b2 k Aq).2;rw[h.gl];omega
  have DW:∀k j,k<nB t s->j<nB t s->Ju t s k=Ju t s j->k=j:=λk j h1 h2 he=>kid_inj g hs om om he
  have pin:=Jhs (l:=Jr S.got (Ji t s)) (got:=S.got) AQ DW (nB t s) (Gh _);have pout:∀j,(∀k,k<nB t s->(nd t (Ju t s k)).kids=[]->Ju t s k≠j)->Jr (Yb t s (Jr S.got (Ji t s)) S.got (nB t s)) j=Jr S.got j:=λj hj=>JbF _ hj
  have pnb:∀j,¬Jay t j->Jr (Yb t s (Jr S.got (Ji t s)) S.got (nB t s)) j=Jr S.got j:=λj hj=>pout j λk Aq hb he=>hj ⟨by rw[<-he];exact(b2 k Aq).1,by rw[<-he];exact hb⟩
  have Dx:Jr (Yb t s (Jr S.got (Ji t s)) S.got (nB t s)) (Ji t s)=Jr S.got (Ji t s):=pnb _ λhb=>by have:=hb.1;omega
  change FI t { S with got:=Yb t s (Jr S.got (Ji t s)) S.got (nB t s),fd:=Xz s true S.fd }/\FG t S { S with got:=Yb t s (Jr S.got (Ji t s)) S.got (nB t s),fd:=Xz s true S.fd }/\(_->J6 (Xz s true S.fd) s=true);have AV:∀u,u<t.nodes.length->(nd t u).k=41->u≠s->∀k,k<nB t u->Jr (Yb t s (Jr S.got (Ji t s)) S.got (nB t s)) (Ju t u k)=Jr S.got (Ju t u k):=λu hu Ik Ai k Aq=>by obtain⟨c1,_⟩:=KA g hu Ik;exact pout _ λk' AC _ he=>Ai (kid_one2 g hs hu om om he).symm
  refine⟨⟨by rw[Yw];exact h.gl,h.dl,λi hi hb=>?_,λu hu Ik Om k Aq hb=>?_,λu Om=>?_,λi=>?_,λi hi hd Cb=>?_,λi hi hd Ci Ai=>?_⟩,⟨λi hi=>?_,λ_ h=>h,λi _ hb=>pnb i hb,λu hu=>?_,λ_=>rfl,λ_=>rfl⟩,λ_=>by rw[QX,if_pos rfl]⟩
  ·rw[pnb i hb];exact h.emp i hi hb
  ·rw[QX]at Om
   split at Om
   ·cases Om
   ·rename_i Ai;rw[AV u hu Ik Ai k Aq];exact h.unf u hu Ik Om k Aq hb
  ·rw[QX]at Om;by_cases he:u=s
   ·subst he;exact⟨hs,hk,by rw[Dx];exact hl,λk Aq hb=>by rw[Dx];exact pin k Aq hb⟩
   ·rw[if_neg he]at Om;obtain⟨q1,q2,q3,q4⟩:=h.fnd u Om;obtain⟨c1,c2,c3,c4⟩:=KA g q1 q2;have di:Jr (Yb t s (Jr S.got (Ji t s)) S.got (nB t s)) (Ji t u)=Jr S.got (Ji t u):=pnb _ λhb=>by have:=hb.1;omega
    refine⟨q1,q2,by rw[di];exact q3,λk Aq hb=>?_⟩;rw[di,AV u q1 q2 he k Aq];exact q4 k Aq hb
  ·by_cases hx:∃k,k<nB t s/\(nd t (Ju t s k)).kids=[]/\Ju t s k=i
   ·obtain⟨k,Aq,hb,rfl⟩:=hx;rw[pin k Aq hb];have EM:=h.fine (Ji t s);unfold Qg at EM|-;rw[GQ]at EM;have:=EM ((Jr S.got (Ji t s)).getD k .int) (by rw[Ga,Gf om];exact Gp _);rw[Hg,this];rfl
   ·rw[pout i λk Aq hb he=>hx ⟨k,Aq,hb,he⟩];exact h.fine i
  ·rw[pnb i λhb=>by have:=hb.1;omega];exact h.ini i hi hd Cb
  ·rw[pnb i λhb=>Ai hb.2];exact h.typ i hi hd Ci Ai
  ·by_cases hx:∃k,k<nB t s/\(nd t (Ju t s k)).kids=[]/\Ju t s k=i
   ·obtain⟨k,Aq,hb,rfl⟩:=hx;exact absurd (h.unf s hs hk hf k Aq hb) hi
   ·exact pout i λk Aq hb he=>hx ⟨k,Aq,hb,he⟩
  ·rw[QX];split
   ·rfl
   ·exact hu
theorem Jgx {S:FS}{i:Nat}(h:FI t S)(hi:i<t.nodes.length)(hd:S.dn.getD i false=false)(hr:∀l,r=some l->(Jay t i->l=[])/\((nd t i).k=43->l.length=1)/\((nd t i).k=42->(nd t i).kids≠[]->l=[tyN t (Ju t i 0)])):FI t (S.fin i r)/\FG t S (S.fin i r)/\((S.fin i r).bad=none->(S.fin i r).dn.getD i false=true):=by
 unfold FS.fin
 cases r with
 |none=>
  obtain⟨f1,f2,f3⟩:=h.fail i;exact⟨f1,f2,λhb=>by simp only at hb;rw[hb]at f3;cases f3⟩
 |some l=>
  obtain⟨r1,r2,r3⟩:=hr l rfl;simp only
  split
  ·rename_i hb;exact⟨h,.refl,λh2=>by rw[h2]at hb;cases hb⟩
  split
  case isFalse=>obtain⟨f1,f2,f3⟩:=h.fail i;exact⟨f1,f2,λhb=>by rw[hb]at f3;cases f3⟩
  case isTrue I8 Sg=>
   have Ea:∀j,(S.dn.set i true).getD j false=if j=i then true else S.dn.getD j false:=λj=>getD_setB (by rw[h.dl];exact hi)
   have PE:∀j,Jr (if l=[] then S.got else S.got.set i l) j=if j=i/\l≠[] then l else Jr S.got j:=λj=>by
    by_cases hl:l=[]
    ·rw[if_pos hl,if_neg (λh=>h.2 hl)]
    ·rw[if_neg hl,JaL (by rw[h.gl];exact hi)];by_cases e:j=i
     ·rw[if_pos e,if_pos ⟨e,hl⟩]
     ·rw[if_neg e,if_neg (λh=>e h.1)]
   have AO:(if l=[] then S.got else S.got.set i l).length=t.nodes.length:=by split <;> simp[h.gl]
   generalize hG:(if l=[] then S.got else S.got.set i l)=G at PE AO;have AL:∀j,j≠i->Jr G j=Jr S.got j:=λj hj=>by rw[PE,if_neg (λh=>hj h.1)]
   have Oi:¬Jay t i->Jr S.got i=[]:=h.emp i hd;have bf:Jay t i->Jr G i=Jr S.got i:=λhb=>by rw[PE,if_neg (λh=>h.2 (r1 hb))]
   have CY:∀j,Jr S.got j≠[]->Jr G j=Jr S.got j:=λj hj=>by
    by_cases e:j=i
    ·subst e;by_cases hb:Jay t j
     ·exact bf hb
     ·exact absurd (Oi hb) hj
    ·exact AL j e
   have Ot:∀j,Jay t j->Jr G j=Jr S.got j:=λj hb=>by
    by_cases e:j=i
    ·subst e;exact bf hb
    ·exact AL j e
   have PQ:¬Jay t i->Jr G i=l:=λhb=>by
    rw[PE];by_cases hl:l=[]
    ·rw[if_neg (λh=>h.2 hl),Oi hb,hl]
    ·rw[if_pos ⟨rfl,hl⟩]
   refine⟨⟨AO,by simp[h.dl],λj hj hb=>?_,λs hs hk hf k Aq hb=>?_,λs hf=>?_,λj=>?_,λj hj BD Cb=>?_,λj hj BD Ci Ai=>?_⟩,⟨CY,λj hj=>by rw[Ea];split <;> first|rfl|exact hj,λj hj hb=>?_,λ_ h=>h,λ_=>rfl,λhb=>absurd hb I8⟩,λ_=>by rw[Ea,if_pos rfl]⟩
   ·rw[Ea]at hj
    split at hj
    ·cases hj
    ·rename_i e;rw[AL j e];exact h.emp j hj hb
   ·obtain⟨b1,b2,_⟩:=KA g hs hk;rw[Ot _ ⟨(b2 k Aq).1,hb⟩];exact h.unf s hs hk hf k Aq hb
   ·obtain⟨q1,q2,q3,q4⟩:=h.fnd s hf;obtain⟨b1,b2,b3,b4⟩:=KA g q1 q2;have Ai:Jr S.got (Ji t s)=Jr G (Ji t s)\/nB t s=0:=by
     by_cases hz:Jr S.got (Ji t s)=[]
     ·exact .inr (by rw[hz]at q3;simpa using q3.symm)
     ·exact .inl (CY _ hz).symm
    rcases Ai with Ai|Ai
    ·exact⟨q1,q2,by rw[<-Ai];exact q3,λk Aq hb=>by rw[<-Ai,Ot _ ⟨(b2 k Aq).1,hb⟩];exact q4 k Aq hb⟩
    ·have:=set_ge1 g q1 q2;omega
   ·by_cases e:j=i
    ·subst e;by_cases hb:Jay t j
     ·rw[bf hb];exact h.fine j
     ·rw[PQ hb];exact Sg
    ·rw[AL j e];exact h.fine j
   ·by_cases e:j=i
    ·subst e;rw[PQ λhb=>by have:=hb.1;omega];exact r2 Cb
    ·rw[Ea,if_neg e]at BD;rw[AL j e];exact h.ini j hj BD Cb
   ·by_cases e:j=i
    ·subst e;rw[PQ λhb=>Ai hb.2];exact r3 Ci Ai
    ·rw[Ea,if_neg e]at BD;rw[AL j e];exact h.typ j hj BD Ci Ai
   ·by_cases e:j=i
    ·subst e;rw[hd]at hj;cases hj
    ·exact AL j e
end
theorem FI.ext{S:FS}(h:FI t S)(h1:S'.got.length=S.got.length)(h2:S'.dn.length=S.dn.length)(h3:∀j,Jr S'.got j=Jr S.got j)(h4:∀j,S'.dn.getD j false=S.dn.getD j false)(h5:∀s,J6 S'.fd s=J6 S.fd s):FI t S':=
 ⟨h1.trans h.gl,h2.trans h.dl,λi hi hb=>by rw[h3];rw[h4]at hi;exact h.emp i hi hb,λs hs hk hf k Aq hb=>by rw[h5]at hf;rw[h3];exact h.unf s hs hk hf k Aq hb,λs hf=>by rw[h5]at hf;obtain⟨q1,q2,q3,q4⟩:=h.fnd s hf;exact⟨q1,q2,by rw[h3];exact q3,λk hk hb=>by rw[h3,h3];exact q4 k hk hb⟩,λi=>by rw[h3];exact h.fine i,λi hi hd hk=>by rw[h4]at hd;rw[h3];exact h.ini i hi hd hk,λi hi hd hk hn=>by rw[h4]at hd;rw[h3];exact h.typ i hi hd hk hn⟩
theorem FG.ext{S:FS}(h3:∀j,Jr S'.got j=Jr S.got j)(h4:∀j,S'.dn.getD j false=S.dn.getD j false)(h5:∀s,J6 S'.fd s=J6 S.fd s)(h6:∀s,J6 S'.fg s=J6 S.fg s)(h7:S.bad.isSome=true->S'.bad=S.bad):FG t S S':=⟨λi _=>h3 i,λi hi=>by rw[h4];exact hi,λi _ _=>h3 i,λs hs=>by rw[h5];exact hs,h6,h7⟩
def Jia (t:Tr)(S:FS)(m:Nat):TL:=if (nd t m).k=47 then [.int] else if (nd t m).k=64\/(nd t m).k=42/\(nd t m).kids≠[] then [tyN t (Ju t m 0)] else Jr S.got m
def FM (t:Tr)(o:Lx)(S:FS):Prop:=∀i,i<t.nodes.length->(nd t i).k=3->S.dn.getD i false=true->∀m:Nat,JY t o i=m->Jr S.got i=Jia t S m/\Jia t S m≠[]
theorem valN_keep{S:FS}(h:FG t S S')(hv:Jia t S m≠[]):Jia t S' m=Jia t S m:=by
 unfold Jia at hv|-;by_cases h1:(nd t m).k=47
 ·rw[if_pos h1,if_pos h1]
 ·rw[if_neg h1]at hv|-;rw[if_neg h1];by_cases h2:(nd t m).k=64\/(nd t m).k=42/\(nd t m).kids≠[]
  ·rw[if_pos h2,if_pos h2]
  ·rw[if_neg h2]at hv|-;rw[if_neg h2];exact h.keep m hv
theorem FM.step{S:FS}(h:FM t o S)(hg:FG t S S')(hn:∀i,i<t.nodes.length->(nd t i).k=3->S'.dn.getD i false=true->S.dn.getD i false=false->∀m:Nat,JY t o i=m->Jr S'.got i=Jia t S' m/\Jia t S' m≠[]):FM t o S':=λi hi hk hd m hm=>by
 cases hs:S.dn.getD i false with
 |false=>exact hn i hi hk hd hs m hm
 |true=>obtain⟨h1,h2⟩:=h i hi hk hs m hm;have h3:=valN_keep hg h2;refine⟨?_,by rw[h3];exact h2⟩;rw[h3,<-h1];exact hg.dk i hs λhb=>by have:=hb.1;omega
def uf (t:Tr)(S:FS):Nat:=((Gb t.nodes.length).filter λs=>!J6 S.fg s).length
theorem uf_eq{S:FS}(h:FG t S S'):uf t S'=uf t S:=by unfold uf;exact congrArg Gs (List.filter_congr λs _=>by rw[h.fg])
theorem Jfj {p q:Nat->Bool}{s:Nat}:∀{l:LB},s∈l->(∀x,q x=true->p x=true)->p s=true->q s=false->(l.filter q).length<(l.filter p).length
 |a::l,hs,IG,hp,hq=>by
  have Be:∀m:LB,(m.filter q).length<=(m.filter p).length:=λm=>by
   induction m with
   |nil=>exact Gh _
   |cons x m ih=>
    rw[GL,GL]
    cases hx:q x with
    |true=>rw[if_pos rfl,IG x hx,if_pos rfl];simpa using ih
    |false=>
     rw[if_neg sM]
     split
     ·rw[Gg];omega
     ·exact ih
  rcases GA.1 hs with rfl|h
  ·rw[GL,GL,hq,hp,if_neg sM,if_pos rfl,Gg];have:=Be l;omega
  ·have ih:=Jfj h IG hp hq;rw[GL,GL]
   cases hx:q a with
   |true=>rw[if_pos rfl,IG a hx,if_pos rfl];simpa using ih
   |false=>
    rw[if_neg sM]
    split
    ·rw[Gg];omega
    ·exact ih
theorem Jeq{S:FS}{s:Nat}(hs:s<t.nodes.length)(h:J6 S.fg s=false):uf t { S with fg:=Xz s true S.fg } < uf t S:=by
 refine Jfj (Hf.2 hs) (λx hx=>?_) (by rw[h];rfl) (by rw[QX,if_pos rfl];rfl);rw[QX]at hx
 split at hx
 ·cases hx
 ·exact hx
def JfO (t:Tr)(o:Lx)(S:FS)(i:Nat):Prop:=S.bad=none->(∀c:Nat,(c:Int)∈(nd t i).kids->S.dn.getD c false=true)/\∀v,v<t.nodes.length->(nd t v).k=43->v<i->blw o i (Ky t v).toNat->S.dn.getD v false=true
def GoOk (t:Tr)(o:Lx)(f:Nat)(go:FS->Nat->FS):Prop:=∀S i,FI t S->FM t o S->i<t.nodes.length->JfO t o S i->uf t S<f->FI t (go S i)/\FM t o (go S i)/\FG t S (go S i)/\((go S i).bad=none->(go S i).dn.getD i false=true)
theorem Jh5{S:FS}(h:FG t S S')(hb:S'.bad=none):S.bad=none:=by
 cases hs:S.bad with
 |none=>rfl
 |some x=>rw[h.bad (by rw[hs];rfl),hs]at hb;cases hb
theorem YK:Kr a (k+1)=Kr a k++[a+k]:=by unfold Kr;rw[H9,kY];rfl
theorem JaE(BO:GoOk t o f go){S:FS}(hI:FI t S)(hM:FM t o S)(hu:uf t S<f)(Mj:a+m<=t.nodes.length)(hP:∀S' j,FG t S S'->j<m->(S'.bad=none->∀j',j' < j->S'.dn.getD (a+j') false=true)->JfO t o S' (a+j)) :
  ∀k,k<=m->FI t ((Kr a k).foldl go S)/\FM t o ((Kr a k).foldl go S)/\FG t S ((Kr a k).foldl go S)/\(((Kr a k).foldl go S).bad=none->∀j,j<k->((Kr a k).foldl go S).dn.getD (a+j) false=true)
 |0,_=>⟨hI,hM,.refl,λ_ j hj=>om⟩
 |k+1,hk=>by
  obtain⟨h1,h2,h3,h4⟩:=JaE BO hI hM hu Mj hP k om;rw[YK,H6];generalize (Kr a k).foldl go S=S1 at *;obtain⟨q1,q2,q3,q4⟩:=BO S1 (a+k) h1 h2 om (hP S1 k h3 om h4) (by rw[uf_eq h3];exact hu);simp only[List.foldl_cons,List.foldl_nil];refine⟨q1,q2,h3.trans q3,λhb j hj=>?_⟩;by_cases e:j=k
  ·subst e;exact q4 hb
  ·exact q3.dn _ (h4 (Jh5 q3 hb) j om)
section
variable(g:GoodT t o)
include g
theorem Jds(hw:w<t.nodes.length)(hv:(v:Int)∈(nd t w).kids)(ha:(a:Int)∈(nd t w).kids)(hx:blw o x a)(Ai:v≠a)(h:v<a):v<x:=by
 have h1:=λh1 h2=>kid_one g hw hv ha (j:=v) h1 h2
 have I5:=(J3 g hw hv).2;have h2:¬blw o v a:=λhb=>Ai (h1 (JcW g om) hb)
 have h3:=hx.2;have h4:¬fs o (a:Int)<=(v:Int):=λh5=>h2 ⟨om,h5⟩
 omega
theorem Jcb(hw:w<t.nodes.length)(hk:(nd t w).k=28)(hv:(v:Int)∈(nd t w).kids)(Ch:(nd t v).k=43)(ha:(a:Int)∈(nd t w).kids)(Dl:(nd t a).k≠43):v<a:=by
 obtain⟨N,M,h1,h2,h3,h4,h5,h6,h7,h8⟩:=Ye g hw hk;obtain⟨i,hi,CO,aF⟩:=JcH hv;obtain⟨j,hj,Cq,D8⟩:=JcH ha;have MN:∀x:Nat,Jw t.nodes (x:Int)=(nd t x).k:=λx=>by unfold Jw nd;rw[Gd]
 change ∀i,i<N->Jw t.nodes ((nd t w).kids.getD i 0)=43 at h4;change 1<=Jw t.nodes ((nd t w).kids.getD N 0)/\Jw t.nodes ((nd t w).kids.getD N 0)<=29 at h5;change ∀i,N+1<=i->i<M->Jw t.nodes ((nd t w).kids.getD i 0)=41 at h6;change ∀i,M<=i->i+1<(nd t w).kids.length->Jw t.nodes ((nd t w).kids.getD i 0)=44 at h7;change Jw t.nodes ((nd t w).kids.getD ((nd t w).kids.length-1) 0)=45 at h8;have kC:N<=j:=by
  refine Nat.le_of_not_lt λAb=>Dl ?_
  have:=h4 j Ab;rw[D8,MN]at this;exact this
 have PD:i<N:=by
  refine Ld λBL=>?_
  have R6:Jw t.nodes ((nd t w).kids.getD i 0)=43:=by rw[aF,MN];exact Ch
  rcases (show i=N\/(N+1<=i/\i<M)\/(M<=i/\i+1<(nd t w).kids.length)\/i=(nd t w).kids.length-1 by omega) with e|⟨e1,e2⟩|⟨e1,e2⟩|e
  ·rw[e]at R6;omega
  ·have:=h6 i e1 e2;omega
  ·have:=h7 i e1 e2;omega
  ·rw[e]at R6;omega
 have Dp:=JhD g hw;have h9:=GZ.1 Dp i j hi hj om;rw[Ga,Gf hi]at aF;rw[Ga,Gf hj]at D8;simp only[GD]at aF D8;omega
theorem init_loop(hw:w<t.nodes.length)(hv:(v:Int)∈(nd t w).kids)(hk:(nd t v).k=43):(nd t w).k=28:=(YU (Jdh g hw hv)).2.1 (by rw[hk];rfl)
theorem Jey{i s:Nat}(hs:s<t.nodes.length)(Bw:(nd t s).k=41)(hm:(m:Int)∈(nd t s).kids)(BX:(nd t m).k=42)(AQ:inS t o (m:Int) i)(hi:i<t.nodes.length)(hx:blw o x (Ji t s))(hv:v<t.nodes.length)(Ch:(nd t v).k=43)(OA:v<x)(Pd:blw o x (Ky t v).toNat)(A7:¬fs o ((Ji t s:Nat):Int)<=(v:Int)):v<i/\blw o i (Ky t v).toNat:=by
 obtain⟨b1,b2,b3,b4⟩:=KA g hs Bw;have Be:=Jz g hs (i:=(nd t s).kids.length-1) om;change ((Ji t s:Nat):Int)∈(nd t s).kids/\_ at Be;obtain⟨w,w1,w2,w3,w4⟩:=QO g hv om;rw[w1,Gd]at Pd|-;obtain⟨u,a,hu,ha,Es,hd⟩:=AQ;have SB:=J3 g hu ha;have OG:(s:Int)∈(nd t u).kids/\((nd t u).k=40\/(nd t u).k=28/\(nd t a).k≠43):=by
  have same:∀s':Nat,(s':Int)∈(nd t u).kids->(m:Int)∈(nd t s').kids->(s:Int)∈(nd t u).kids:=λs' h1 h2=>by
   have h3:=(J3 g hu h1).2;have h4:=(J3 g (show s' < t.nodes.length by omega) h2).1;have h5:=(J3 g hs hm).1;obtain rfl:s'=s:=om;exact h1
  rcases (QM g hu).1 hd with ⟨h1,s',h2,h3,h4,h5⟩|⟨h1,h2,h3⟩|⟨h1,h2,h3⟩|⟨h1,h2,h3⟩
  ·exact⟨same s' h2 h4,.inl h1⟩
  ·omega
  ·subst h3;omega
  ·rcases h3 with ⟨h3,h4⟩|⟨_,s',h3,h4,h5,h6⟩
   ·omega
   ·exact⟨same s' h3 h5,.inr ⟨h1,h2⟩⟩
 obtain⟨OG,Ik⟩:=OG;have fV:=(J3 g hu OG).2;have fF:blw o (Ji t s) w:=by
  have h1:=hx.1;have h2:=hx.2;have h3:=Pd.1;have h4:=Pd.2;rcases Lf (Ji t s) w with h5|h5
  ·refine anO ?_;have:=g.ord.nest w x (by rw[QF];exact w2) om h4 om;omega
  ·exfalso;have h6:=g.ord.nest (Ji t s) w (by rw[QF];omega) om om om;have h7:=(QA g w2 w4).2;omega
 have Ul:=(QA g w2 w4).2;have ME:Ji t s≠w:=λhe=>A7 (by rw[he];exact Ul)
 obtain⟨m1,p1,_,_,p4,_⟩:=X4 g w2 fF ME;have p5:=(J3 g hs Be.1).1;obtain rfl:m1=s:=om;have Mt:=init_loop g w2 w4 Ch;obtain⟨m2,q1,_,_,q4,_⟩:=X4 g w2 p4 (λhe=>by rw[he]at Bw;omega);have q5:=(J3 g hu OG).1;obtain rfl:m2=u:=om;have aB:=Qy g hu Es (QA g hu ha);by_cases UY:m2=w
 ·subst UY;rcases Ik with h|⟨_,h⟩
  ·omega
  ·exact⟨Jds g hu w4 ha Es (λhe=>by subst he;exact h Ch) (Jcb g hu Mt w4 Ch ha h),aB⟩
 ·rcases Jck g w2 q4 with h|⟨a',AX,UD⟩
  ·exact absurd h UY
  ·have jX:x<=a':=by have:=hx.1;have:=UD.1;omega
   exact⟨Jds g w2 w4 AX (Qy g (show a' < t.nodes.length by have:=(J3 g w2 AX).2;omega) aB UD) om om,Qy g w2 aB q4⟩
theorem YB {S:FS}{s:Nat}(h:FI t S)(hs:s<t.nodes.length)(hk:(nd t s).k=41):FI t (JR t s S)/\FG t S (JR t s S)/\((JR t s S).bad=none->J6 (JR t s S).fd s=true)/\(JR t s S).dn=S.dn:=by
 have Ea:(JR t s S).dn=S.dn:=by
  unfold JR;simp only
  split
  ·rfl
  ·unfold FS.fail;split <;> rfl
 cases hf:J6 S.fd s with
 |false=>obtain⟨h1,h2,h3⟩:=settle_ok g h hs hk hf;exact⟨h1,h2,h3,Ea⟩
 |true=>
  obtain⟨b1,b2,b3,b4⟩:=KA g hs hk;obtain⟨_,_,q3,q4⟩:=h.fnd s hf;have e:JR t s S = { S with got:=Yb t s (Jr S.got (Ji t s)) S.got (nB t s),fd:=Xz s true S.fd }:=by unfold JR;simp only;rw[if_pos (show (Jr S.got (Ji t s)).length=(nd t s).n.toNat from q3)];rfl
  have AQ:∀k,(nd t (Ju t s k)).kids=[]->k<nB t s->Ju t s k<S.got.length:=λk _ Aq=>by have:=(b2 k Aq).2;rw[h.gl];omega
  have DW:∀k j,k<nB t s->j<nB t s->Ju t s k=Ju t s j->k=j:=λk j h1 h2 he=>kid_inj g hs om om he
  have AL:∀j,Jr (Yb t s (Jr S.got (Ji t s)) S.got (nB t s)) j=Jr S.got j:=λj=>by
   by_cases hx:∃k,k<nB t s/\(nd t (Ju t s k)).kids=[]/\Ju t s k=j
   ·obtain⟨k,Aq,hb,rfl⟩:=hx;rw[Jhs AQ DW (nB t s) (Gh _) k Aq hb,q4 k Aq hb]
   ·exact JbF _ λk Aq hb he=>hx ⟨k,Aq,hb,he⟩
  have Si:∀u,J6 (Xz s true S.fd) u=J6 S.fd u:=λu=>by
   rw[QX]
   split
   ·rename_i he;rw[he,hf]
   ·rfl
  rw[e];exact⟨h.ext (Yw _) rfl AL (λ_=>rfl) Si,FG.ext AL (λ_=>rfl) Si (λ_=>rfl) (λ_=>rfl),λ_=>by rw[Si];exact hf,rfl⟩
omit g in
theorem FM.same {t:Tr}{o:Lx}{S:FS}(h:FM t o S)(hg:FG t S S')(hd:S'.dn=S.dn):FM t o S':=h.step hg λi _ _ h1 h2=>by rw[hd,h2]at h1;cases h1
theorem JbL(BO:GoOk t o f go){S:FS}{i s:Nat}(hI:FI t S)(hM:FM t o S)(hi:i<t.nodes.length)(hP:JfO t o S i)(hu:uf t S<f+1)(hs:s<t.nodes.length)(Bw:(nd t s).k=41)(hm:(m:Int)∈(nd t s).kids)(BX:(nd t m).k=42)(AQ:inS t o (m:Int) i) :
  FI t (Qn t o go s i S)/\FM t o (Qn t o go s i S)/\FG t S (Qn t o go s i S)/\((Qn t o go s i S).bad=none->J6 (Qn t o go s i S).fd s=true):=by
 unfold Qn
 cases EB:J6 S.fg s with
 |true=>
  rw[if_pos rfl];obtain⟨f1,f2,f3⟩:=hI.fail i;have hd:(S.fail i).dn=S.dn:=by unfold FS.fail;split <;> rfl
  exact⟨f1,hM.same f2 hd,f2,λhb=>by rw[hb]at f3;cases f3⟩
 |false=>
  rw[if_neg sM];simp only;obtain⟨b1,b2,b3,b4⟩:=KA g hs Bw;have Fq:Ji t s<t.nodes.length:=om;have dG:=JhN g (a:=Ji t s) Fq;have Fx:FI t { S with fg:=Xz s true S.fg }:=⟨hI.gl,hI.dl,hI.emp,hI.unf,hI.fnd,hI.fine,hI.ini,hI.typ⟩;have I6:=Jeq hs EB;obtain⟨a,ha⟩:∃a:Nat,fs o ((Ji t s:Nat):Int)=a:=⟨(fs o ((Ji t s:Nat):Int)).toNat,om⟩;rw[ha,Gd];have Eg:=JaE BO Fx (S:={ S with fg:=Xz s true S.fg }) (show FM t o _ from hM) om (a:=a) (m:=Ji t s+1-a) om (λS' j Me hj BS hb=>?_) _ (Gh _)
  ·generalize (Kr a (Ji t s+1-a)).foldl go { S with fg:=Xz s true S.fg }=S1 at Eg|-;obtain⟨q1,q2,q3,q4⟩:=Eg;have Al:=YB g (S:=S1) q1 hs Bw;have h2:FI t (if S1.bad.isSome=true then S1 else JR t s S1)/\FM t o (if S1.bad.isSome=true then S1 else JR t s S1)/\FG t S1 (if S1.bad.isSome=true then S1 else JR t s S1)/\((if S1.bad.isSome=true then S1 else JR t s S1).bad=none->J6 (if S1.bad.isSome=true then S1 else JR t s S1).fd s=true):=by
    split
    ·rename_i hb;exact⟨q1,q2,.refl,λh=>by rw[h]at hb;cases hb⟩
    ·exact⟨Al.1,q2.same Al.2.1 Al.2.2.2,Al.2.1,Al.2.2.1⟩
   generalize (if S1.bad.isSome=true then S1 else JR t s S1)=S2 at h2|-;obtain⟨r1,r2,r3,r4⟩:=h2;have Aj:=q3.trans r3;refine⟨⟨r1.gl,r1.dl,r1.emp,r1.unf,r1.fnd,r1.fine,r1.ini,r1.typ⟩,r2,⟨Aj.keep,Aj.dn,Aj.dk,Aj.fd,λx=>?_,Aj.bad⟩,r4⟩;rw[QX]
   split
   ·rename_i he;rw[he,EB]
   ·rename_i he;rw[Aj.fg x,QX,if_neg he]
  ·have BD:=BS hb;have PZ:blw o (a+j) (Ji t s):=⟨om,om⟩;have Ab:a+j<t.nodes.length:=om;refine⟨λc hc=>?_,λv hv Ch OA Pd=>?_⟩
   ·have FP:=Qy g Fq (QA g Ab hc) PZ;have Az:=(J3 g Ab hc).2;have CR:=FP.2;have:=BD (c-a) om;rw[show a+(c-a)=c by omega]at this;exact this
   ·by_cases O3:fs o ((Ji t s:Nat):Int)<=(v:Int)
    ·have:=BD (v-a) om;rw[show a+(v-a)=v by omega]at this;exact this
    ·obtain⟨h1,h2⟩:=Jey g hs Bw hm BX AQ hi PZ hv Ch OA Pd O3;have bA:S.bad=none:=show ({ S with fg:=Xz s true S.fg }:FS).bad=none from Jh5 Me hb
     exact Me.dn v ((hP bA).2 v hv Ch h1 h2)
omit g in
theorem rule_ok{i:Nat}(h:Qd t m got i=some l):(Jay t i->l=[])/\((nd t i).k=43->l.length=1)/\((nd t i).k=42->(nd t i).kids≠[]->l=[tyN t (Ju t i 0)]):=by
 refine⟨λhb=>?_,λhk=>?_,λhk hn=>?_⟩
 ·unfold Qd at h;simp only[hb.1,hb.2]at h;simpa using h.symm
 ·unfold Qd at h;simp only[hk]at h;simp at h;obtain⟨h1,h2⟩:=h;rw[<-h2];exact h1
 ·unfold Qd at h;simp only[hk]at h;simp[hn]at h;exact h.symm
omit g in
theorem Jgy {S:FS}{i j:Nat}(hj:j≠i):(S.fin i r).dn.getD j false=S.dn.getD j false:=by
 unfold FS.fin FS.fail
 cases r with
 |none=>simp only;split <;> rfl
 |some l=>
  simp only
  split
  ·rfl
  ·split
   ·simp only[Ga,H5];rw[if_neg (λh=>hj h.symm)]
   ·rfl
omit g in
theorem fin_new {S:FS}{i:Nat}(hd:S.dn.getD i false=false)(hn:(S.fin i (some l)).dn.getD i false=true):S.bad=none/\(i<S.got.length->l≠[]->Jr (S.fin i (some l)).got i=l):=by
 unfold FS.fin FS.fail at hn|-;simp only at hn|-
 split at hn
 ·rw[hd]at hn;cases hn
 ·rename_i hb;have Ig:S.bad=none:=by cases h:S.bad with|none=>rfl|some x=>rw[h]at hb;exact absurd rfl hb
  split at hn
  ·rename_i hf;refine⟨Ig,λhl he=>?_⟩;rw[if_neg hb,if_pos hf];simp only;rw[if_neg he,JaL hl,if_pos rfl]
  ·simp only at hn;rw[hd]at hn;cases hn
omit g in
theorem fin_again {S:FS}{i:Nat}(hI:FI t S)(hM:FM t o S)(hi:i<t.nodes.length)(hd:S.dn.getD i false=true)(hl:Jr S.got i=l):FI t (S.fin i (some l))/\FM t o (S.fin i (some l))/\FG t S (S.fin i (some l))/\(S.fin i (some l)).dn.getD i false=true/\∀j,(S.fin i (some l)).dn.getD j false=S.dn.getD j false:=by
 have AA:Qg l=true:=by rw[<-hl];exact hI.fine i
 unfold FS.fin;simp only
 split
 ·exact⟨hI,hM,.refl,hd,λ_=>rfl⟩
 ·rename_i hb;have h3:∀j,Jr (if l=[] then S.got else S.got.set i l) j=Jr S.got j:=λj=>by
   split
   ·rfl
   ·rw[JaL (by rw[hI.gl];exact hi)]
    split
    ·rename_i e;rw[e,hl]
    ·rfl
  have h4:∀j,(S.dn.set i true).getD j false=S.dn.getD j false:=λj=>by
   rw[getD_setB (by rw[hI.dl];exact hi)]
   split
   ·rename_i e;rw[e,hd]
   ·rfl
  have hg:FG t S { S with got:=if l=[] then S.got else S.got.set i l,dn:=S.dn.set i true }:=FG.ext h3 h4 (λ_=>rfl) (λ_=>rfl) (λh=>absurd h hb);exact⟨hI.ext (by simp only;split <;> simp) sM h3 h4 (λ_=>rfl),hM.step hg λj _ _ q1 q2=>(by rw[h4]at q1;rw[q2]at q1;cases q1),hg,by simp only;rw[h4];exact hd,h4⟩
theorem Jaw (hE:(XY t o).2=0):∀f,GoOk t o f (doF t o (λi=>(JY t o i).toNat) f)
 |0=>λS i _ _ _ _ hu=>om
 |f+1=>λS i hI hM hi hP hu=>by
  unfold doF
  cases DI:(S.bad.isSome || S.dn.getD i false) with
  |true=>rw[if_pos rfl];refine⟨hI,hM,.refl,λhb=>?_⟩;rw[hb]at DI;simpa using DI
  |false=>
   rw[if_neg sM];obtain⟨Ed,EN⟩:=Hr.1 DI;have Ig:S.bad=none:=by cases h:S.bad with|none=>rfl|some x=>rw[h]at Ed;cases Ed
   by_cases h3:(nd t i).k=3
   ·rw[if_pos h3];simp only;obtain⟨F9,Co,MJ,_,Oa⟩:=YQ g hE hi h3;obtain⟨m,hm⟩:∃m:Nat,JY t o i=m:=⟨(JY t o i).toNat,om⟩;rw[hm]at F9 MJ Oa|-;rw[Gd]at Oa|-;have Ce:m<t.nodes.length:=om
    have AQ:inS t o (m:Int) i:=((mem_sight g hi).1 F9).2;have I8:¬Jay t i:=λh=>by have:=h.1;omega
    have fin3:∀(S':FS) (l:TL),FI t S'->FM t o S'->FG t S S'->l=Jia t S' m->(S'.bad=none->l≠[])->FI t (S'.fin i (some l))/\FM t o (S'.fin i (some l))/\FG t S (S'.fin i (some l))/\((S'.fin i (some l)).bad=none->(S'.fin i (some l)).dn.getD i false=true):=λS' l q1 q2 q3 hl Ai=>by
     cases hd:S'.dn.getD i false with
     |false=>
      obtain⟨r1,r2,r3⟩:=Jgx g (r:=some l) q1 hi hd λl' _=>⟨λh=>absurd h I8,λh=>om,λh=>om⟩
      refine⟨r1,q2.step r2 λj hj hk BD CQ m' dh=>?_,q3.trans r2,r3⟩;by_cases FH:j=i
      ·subst FH;obtain rfl:m=m':=om;obtain⟨n1,n2⟩:=fin_new hd BD;have ME:=Ai n1;have h5:Jia t S' m≠[]:=by rw[<-hl];exact ME
       rw[valN_keep r2 h5];exact⟨by rw[n2 (by rw[q1.gl];exact hi) ME,hl],h5⟩
      ·rw[Jgy FH,CQ]at BD;cases BD
     |true=>obtain⟨h5,h6⟩:=q2 i hi h3 hd m hm;obtain⟨r1,r2,r3,r4,_⟩:=fin_again (o:=o) q1 q2 hi hd (h5.trans hl.symm);exact⟨r1,r2,q3.trans r3,λ_=>r4⟩
    have BX:(nd t m).k=47\/(nd t m).k=64\/(nd t m).k=42\/((nd t m).k=43/\m<i/\blw o i (Ky t m).toNat):=by
     obtain⟨u,a,hu,ha,Es,hd⟩:=AQ;have SB:=J3 g hu ha;rcases (QM g hu).1 hd with ⟨_,s',h2,CS,h4,h5⟩|⟨h1,h2,CS⟩|⟨h1,h2,CS⟩|⟨h1,h2,CS⟩
     ·exact .inr (.inr (.inl h5))
     ·exact .inr (.inl CS)
     ·exact .inl (by rw[CS];exact h1)
     ·rcases CS with ⟨CS,h4⟩|⟨_,s',CS,h4,h5,h6⟩
      ·have gV:=(J3 g hu CS).1;refine .inr (.inr (.inr ⟨h4,?_,by rw[gV,Gd];exact Qy g hu Es (QA g hu ha)⟩));exact Jds g hu CS ha Es (λhe=>by subst he;exact h2 h4) (Jcb g hu h1 CS h4 ha h2)
      ·exact .inr (.inr (.inl h6))
    have BJ:(nd t m).k=42->∃s k:Nat,(Ky t m)=s/\s<t.nodes.length/\(nd t s).k=41/\(m:Int)∈(nd t s).kids/\k<nB t s/\Ju t s k=m:=λCi=>by
     obtain⟨s,s1,s2,s3,s4⟩:=QO g Ce om;have Bw:=(YU (Jdh g s2 s4)).2.2.1 (by rw[Ci];rfl);obtain⟨b1,b2,b3,b4⟩:=KA g s2 Bw;obtain⟨k,hk,MM,_⟩:=JcH s4;refine⟨s,k,s1,s2,Bw,s4,?_,MM⟩;refine Ld λBL=>?_
     obtain rfl:k=(nd t s).kids.length-1:=om;have:Ji t s=m:=MM;rw[this]at b3;omega
    have IV:∀S':FS,FI t S'->(nd t m).k=42->(nd t m).kids=[]->J6 S'.fd (Ky t m).toNat=true->Jr S'.got m≠[]:=λS' q1 Ci MN hf=>by obtain⟨s,k,s1,s2,s3,s4,s5,s6⟩:=BJ Ci;rw[s1,Gd]at hf;have:=(q1.fnd s hf).2.2.2 k s5 (by rw[s6];exact MN);rw[s6]at this;rw[this];simp
    unfold Y3;by_cases BQ:(nd t m).k=47
    ·rw[if_pos BQ];exact fin3 S _ hI hM .refl (by unfold Jia;rw[if_pos BQ]) λ_=>sM
    rw[if_neg BQ];by_cases Cr:(nd t m).k=64\/(nd t m).k=42/\(nd t m).kids≠[]
    ·rw[if_pos Cr];exact fin3 S _ hI hM .refl (by unfold Jia;rw[if_neg BQ,if_pos Cr]) λ_=>sM
    rw[if_neg Cr];by_cases CZ:(nd t m).k=42/\J6 S.fd (Ky t m).toNat=false
    ·rw[if_pos CZ];simp only;obtain⟨s,k,s1,s2,s3,s4,s5,s6⟩:=BJ CZ.1;have MN:(nd t m).kids=[]:=Hq λh=>Cr (.inr ⟨CZ.1,h⟩)
     rw[s1,Gd];obtain⟨q1,q2,q3,q4⟩:=JbL g (Jaw hE f) hI hM hi hP hu s2 s3 s4 CZ.1 AQ;refine fin3 _ _ q1 q2 q3 (by unfold Jia;rw[if_neg BQ,if_neg Cr]) λhb=>IV _ q1 CZ.1 MN (by rw[s1,Gd];exact q4 hb)
    ·rw[if_neg CZ];refine fin3 S _ hI hM .refl (by unfold Jia;rw[if_neg BQ,if_neg Cr]) λ_=>?_
     rcases BX with h|h|h|⟨h,h1,h2⟩
     ·exact absurd h BQ
     ·exact absurd (.inl h) Cr
     ·refine IV S hI h (Hq λhx=>Cr (.inr ⟨h,hx⟩)) ?_
      cases hx:J6 S.fd (Ky t m).toNat with
      |true=>rfl
      |false=>exact absurd ⟨h,hx⟩ CZ
     ·intro he;have:=hI.ini m Ce ((hP Ig).2 m Ce h h1 h2) h;rw[he]at this;simp at this
   ·rw[if_neg h3];by_cases Ba:(nd t i).k=41
    ·rw[if_pos Ba];simp only;have hS:FI t (YC t i S)/\FG t S (YC t i S)/\(YC t i S).dn=S.dn:=by
      unfold YC
      split
      ·exact⟨hI,.refl,rfl⟩
      ·have:=YB g hI hi Ba;exact⟨this.1,this.2.1,this.2.2.2⟩
     obtain⟨q1,q2,q3⟩:=hS;have jv:=hM.same q2 q3;obtain⟨r1,r2,r3⟩:=Jgx g (r:=if XF t i (Jr (YC t i S).got (Ji t i))=true then some [] else none) q1 hi (by rw[q3];exact EN) λl hl=>by
      split at hl
      ·cases hl;exact⟨λ_=>rfl,λh=>om,λh=>om⟩
      ·cases hl
     refine⟨r1,jv.step r2 λj hj hk BD CQ=>?_,q2.trans r2,r3⟩;rw[Jgy (λh=>by subst h;omega),CQ]at BD;cases BD
    ·rw[if_neg Ba];obtain⟨r1,r2,r3⟩:=Jgx g (r:=Qd t (JY t o i).toNat S.got i) hI hi EN λl hl=>rule_ok hl
     refine⟨r1,hM.step r2 λj hj hk BD CQ=>?_,r2,r3⟩;rw[Jgy (λh=>by subst h;omega),CQ]at BD;cases BD
theorem Jec (hE:(XY t o).2=0):∀k,k<=t.nodes.length->FI t ((Kr 0 k).foldl (doF t o (λi=>(JY t o i).toNat) (t.nodes.length+1)) (FS.start t))/\FM t o ((Kr 0 k).foldl (doF t o (λi=>(JY t o i).toNat) (t.nodes.length+1)) (FS.start t))/\FG t (FS.start t) ((Kr 0 k).foldl (doF t o (λi=>(JY t o i).toNat) (t.nodes.length+1)) (FS.start t))/\(((Kr 0 k).foldl (doF t o (λi=>(JY t o i).toNat) (t.nodes.length+1)) (FS.start t)).bad=none->∀j,j<k->((Kr 0 k).foldl (doF t o (λi=>(JY t o i).toNat) (t.nodes.length+1)) (FS.start t)).dn.getD (0+j) false=true):=by
 have FK:∀j,Jr (FS.start t).got j=[]:=λj=>by
  unfold FS.start Jr;simp only[Ga,GN]
  split <;> rfl
 have EN:∀j,(FS.start t).dn.getD j false=false:=λj=>by
  unfold FS.start;simp only[Ga,GN]
  split <;> rfl
 refine JaE (Jaw g hE (t.nodes.length+1)) ⟨by simp[FS.start],by simp[FS.start],λi _ _=>FK i,λs _ _ _ k _ _=>FK _,λs h=>by simp[FS.start,J6]at h,λi=>by rw[FK];rfl,λi _ h=>(by rw[EN]at h;cases h),λi _ h=>(by rw[EN]at h;cases h)⟩ (λi _ _ h=>by rw[EN]at h;cases h) ?_ om λS' j Me hj BS hb=>?_
 ·unfold uf;have:=Lm (λs=>!J6 (FS.start t).fg s) (Gb t.nodes.length);rw[G7]at this;omega
 ·have BD:=BS hb;refine⟨λc hc=>?_,λv hv Ch OA _=>?_⟩
  ·have Az:=(J3 g (show 0+j<t.nodes.length by omega) hc).2;have:=BD c om;rw[Gm]at this;exact this
  ·have:=BD v om;rw[Gm]at this;exact this
end
theorem rule_congr{i:Nat}{got':List TL}(h1:∀j,j<(nd t i).kids.length->Jr got' (Ju t i j)=Jr got (Ju t i j))(h2:(nd t i).k=29->∀j,1<=j->j<(nd t i).kids.length->Jr got' (Ji t (Ju t i j))=Jr got (Ji t (Ju t i j)))(h3:(nd t i).k=44->Jr got' m=Jr got m):Qd t m got' i=Qd t m got i:=by
 have hK:∀j,(if j<(nd t i).kids.length then Jr got' (Ju t i j) else [])=if j<(nd t i).kids.length then Jr got (Ju t i j) else []:=λj=>by
  split
  ·rename_i h;exact h1 j h
  ·rfl
 have hL:(nd t i).k=29->∀j,Jbi t got' i (j+1)=Jbi t got i (j+1):=λhk j=>by
  unfold Jbi
  split
  ·rename_i h;exact h2 hk (j+1) om h
  ·rfl
 unfold Qd;simp only[hK];by_cases e1:(nd t i).k=29
 ·have Ue:Jbi t got' i 1=Jbi t got i 1:=hL e1 0;simp only[e1,hL e1];simp
 ·by_cases e2:(nd t i).k=44
  ·simp only[e2,h3 e2];simp
  ·simp only[if_neg e1,if_neg e2]
structure FR (t:Tr)(o:Lx)(S:FS):Prop where
 clo:∀i,i<t.nodes.length->S.dn.getD i false=true->∀c:Nat,(c:Int)∈(nd t i).kids->S.dn.getD c false=true
 rule:∀i,i<t.nodes.length->S.dn.getD i false=true->(nd t i).k≠3->(nd t i).k≠41->∃l,Qd t (JY t o i).toNat S.got i=some l/\(¬Jay t i->Jr S.got i=l)
 sets:∀s,s<t.nodes.length->S.dn.getD s false=true->(nd t s).k=41->J6 S.fd s=true/\XF t s (Jr S.got (Ji t s))=true
section
variable(g:GoodT t o)
include g
theorem Jgi {i:Nat}(hi:i<t.nodes.length):lets t.nodes (nd t i)=Qi (nd t i).k (lets t.nodes (nd t i)):=by have hn:=g.nds (nd t i) (by unfold nd;rw[Ga,Gf hi];exact Gp hi);unfold ndI Kj at hn;simp only[Gv,beq_iff_eq]at hn;exact hn.1.1.1.2
theorem let_get {i j:Nat}(hi:i<t.nodes.length)(hj:j<(nd t i).kids.length):(lets t.nodes (nd t i))[j]? = some (JdR (nd t (Ju t i j)).k):=by have hm:=Jz g hi hj;unfold lets;rw[GG,Gf hj,Ho,hm.2.2,Ga,Gf hj];rfl
theorem kids_two {i:Nat}(hi:i<t.nodes.length)(hk:4<=(nd t i).k/\(nd t i).k<=18):(nd t i).kids.length=2:=by have h:=Jgi g hi;have hl:=congrArg Gs h;rw[KH]at hl;unfold Qi at hl;rw[if_pos hk]at hl;exact hl
theorem Xu {i:Nat}(hi:i<t.nodes.length)(hk:(19<=(nd t i).k/\(nd t i).k<=25)\/(nd t i).k=43\/(nd t i).k=44\/(62<=(nd t i).k/\(nd t i).k<=64)):(nd t i).kids.length=1:=by
 have h:=Jgi g hi;have hl:=congrArg Gs h;rw[KH]at hl;unfold Qi at hl;rw[iN7]at hl;by_cases h2:(19<=(nd t i).k/\(nd t i).k<=24)\/(nd t i).k=43\/(nd t i).k=44
 ·rw[if_pos h2]at hl;exact hl
 ·rw[if_neg h2,iP7]at hl;exact hl
theorem kids_if {i:Nat}(hi:i<t.nodes.length)(hk:(nd t i).k=27):(nd t i).kids.length=3:=by have h:=Jgi g hi;have hl:=congrArg Gs h;rw[KH]at hl;unfold Qi at hl;rw[hk]at hl;simpa using hl
theorem JeU {i j:Nat}(hi:i<t.nodes.length)(hk:(nd t i).k=29)(hj:1<=j)(A8:j<(nd t i).kids.length):(nd t (Ju t i j)).k=46\/(nd t (Ju t i j)).k=47:=by
 have h:=Jgi g hi;have hg:=let_get g hi A8;rw[h]at hg;unfold Qi at hg;rw[hk]at hg;simp only at hg;rw[iN7,iN7,iN7,iN7,iN7,iN7,if_pos trivial,GM (by simpa using hj),GN]at hg
 split at hg
 ·have Mr:=(V4 hg).symm;unfold JdR letter at Mr;by_cases a1:1<=(nd t (Ju t i j)).k/\(nd t (Ju t i j)).k<=29
  ·rw[if_pos a1]at Mr;exact absurd Mr vk
  rw[if_neg a1]at Mr;by_cases a2:60<=(nd t (Ju t i j)).k/\(nd t (Ju t i j)).k<=63
  ·rw[if_pos a2]at Mr;exact absurd Mr vk
  rw[if_neg a2]at Mr;by_cases a3:(nd t (Ju t i j)).k=46\/(nd t (Ju t i j)).k=47
  ·exact a3
  exfalso;rw[if_neg a3]at Mr
  repeat' (split at Mr)
  all_goals exact absurd Mr vk
 ·cases hg
theorem JeT(hu:u<t.nodes.length)(hk:(nd t u).k=46\/(nd t u).k=47):0<(nd t u).kids.length/\(1<=(nd t (Ji t u)).k/\(nd t (Ji t u)).k<=29)/\Ji t u<u:=by
 have h:=Jgi g hu;have hl:=congrArg Gs h;rw[KH]at hl;have Ad:(nd t u).kids.length=2\/(nd t u).kids.length=3:=by unfold Qi at hl;rcases hk with hk|hk <;> rw[hk]at hl <;> simp at hl <;> omega
 have hm:=Jz g hu (i:=(nd t u).kids.length-1) om;have hg:=let_get g hu (j:=(nd t u).kids.length-1) om;refine⟨om,Jbh ?_,hm.2.1⟩;rw[h]at hg;unfold Qi at hg;rcases hk with hk|hk
 ·rw[hk]at hl hg;simp[Qi]at hl hg;rw[hl]at hg;simp at hg;show JdR (nd t (Ju t u ((nd t u).kids.length-1))).k=101;rw[hl];exact hg.symm
 ·rw[hk]at hl hg;simp[Qi]at hl hg;rw[hl]at hg;simp at hg;show JdR (nd t (Ju t u ((nd t u).kids.length-1))).k=101;rw[hl];exact hg.symm
theorem kid_nb {i c:Nat}(hi:i<t.nodes.length)(hk:(nd t i).k≠41)(hc:(c:Int)∈(nd t i).kids):¬Jay t c:=λhb=>hk ((YU (Jdh g hi hc)).2.2.1 (by rw[hb.1];rfl))
theorem rule_keep{S:FS}{i:Nat}(h:FR t o S)(hg:FG t S S')(hi:i<t.nodes.length)(hk:(nd t i).k≠41)(hd:∀c:Nat,(c:Int)∈(nd t i).kids->S.dn.getD c false=true)(hl:Qd t (JY t o i).toNat S.got i=some l):Qd t (JY t o i).toNat S'.got i=some l:=by
 rw[<-hl];refine rule_congr (λj hj=>?_) (λPU j jU hj=>?_) (λBG=>?_)
 ·have hm:=(Jz g hi hj).1;exact hg.dk _ (hd _ hm) (kid_nb g hi hk hm)
 ·have hm:=Jz g hi hj;have Ab:Ju t i j<t.nodes.length:=om;obtain⟨p1,p2,p3⟩:=JeT g Ab (JeU g hi PU jU hj);have Co:=Jz g Ab (i:=(nd t (Ju t i j)).kids.length-1) om;exact hg.dk _ (h.clo _ Ab (hd _ hm.1) _ Co.1) λhb=>by have:=hb.1;omega
 ·have h1:(Jr S.got (JY t o i).toNat).length=1:=by unfold Qd at hl;simp only[BG]at hl;simp at hl;exact hl.1.1
  exact hg.keep _ λhe=>by rw[he]at h1;simp at h1
theorem JhC {s:Nat}(hs:s<t.nodes.length)(hk:(nd t s).k=41):((Ji t s:Nat):Int)∈(nd t s).kids:=by obtain⟨b1,_⟩:=KA g hs hk;exact(Jz g hs (i:=(nd t s).kids.length-1) om).1
theorem FR.step{S:FS}(h:FR t o S)(hg:FG t S S')(hn:∀i,i<t.nodes.length->S'.dn.getD i false=true->S.dn.getD i false=false->(∀c:Nat,(c:Int)∈(nd t i).kids->S'.dn.getD c false=true)/\((nd t i).k≠3->(nd t i).k≠41->∃l,Qd t (JY t o i).toNat S'.got i=some l/\(¬Jay t i->Jr S'.got i=l))/\((nd t i).k=41->J6 S'.fd i=true/\XF t i (Jr S'.got (Ji t i))=true)):FR t o S':=by
 refine⟨λi hi hd c hc=>?_,λi hi hd h3 Ba=>?_,λi hi hd Ba=>?_⟩
 ·cases hs:S.dn.getD i false with
  |false=>exact(hn i hi hd hs).1 c hc
  |true=>exact hg.dn c (h.clo i hi hs c hc)
 ·cases hs:S.dn.getD i false with
  |false=>exact(hn i hi hd hs).2.1 h3 Ba
  |true=>obtain⟨l,h1,h2⟩:=h.rule i hi hs h3 Ba;exact⟨l,rule_keep g h hg hi Ba (h.clo i hi hs) h1,λhb=>(hg.dk i hs hb).trans (h2 hb)⟩
 ·cases hs:S.dn.getD i false with
  |false=>exact(hn i hi hd hs).2.2 Ba
  |true=>obtain⟨h1,h2⟩:=h.sets i hi hs Ba;obtain⟨b1,b2,b3,b4⟩:=KA g hi Ba;refine⟨hg.fd i h1,?_⟩;rw[hg.dk (Ji t i) (h.clo i hi hs _ (JhC g hi Ba)) λhb=>by have:=hb.1;omega];exact h2
theorem FR.same{S:FS}(h:FR t o S)(hg:FG t S S')(hd:∀j,S'.dn.getD j false=S.dn.getD j false):FR t o S':=h.step g hg λi _ h1 h2=>by rw[hd,h2]at h1;cases h1
omit g in
theorem FR.fields{S:FS}(h:FR t o S)(h1:S'.got=S.got)(h2:S'.dn=S.dn)(h3:S'.fd=S.fd):FR t o S':=⟨by rw[h2];exact h.clo,by rw[h1,h2];exact h.rule,by rw[h1,h2,h3];exact h.sets⟩
omit g in
def GoR (t:Tr)(o:Lx)(f:Nat)(go:FS->Nat->FS):Prop:=∀S i,FI t S->FM t o S->FR t o S->i<t.nodes.length->JfO t o S i->uf t S<f->FR t o (go S i)
omit g in
theorem Jew(BO:GoOk t o f go)(EA:GoR t o f go){S:FS}(hI:FI t S)(hM:FM t o S)(hR:FR t o S)(hu:uf t S<f)(Mj:a+m<=t.nodes.length)(hP:∀S' j,FG t S S'->j<m->(S'.bad=none->∀j',j' < j->S'.dn.getD (a+j') false=true)->JfO t o S' (a+j)) :
  ∀k,k<=m->FR t o ((Kr a k).foldl go S)
 |0,_=>hR
 |k+1,hk=>by obtain⟨h1,h2,h3,h4⟩:=JaE BO hI hM hu Mj hP k om;have ih:=Jew BO EA hI hM hR hu Mj hP k om;rw[YK,H6];generalize (Kr a k).foldl go S=S1 at *;exact EA S1 (a+k) h1 h2 ih om (hP S1 k h3 om h4) (by rw[uf_eq h3];exact hu)
theorem JcL {S:FS}{i s:Nat}(hi:i<t.nodes.length)(hP:JfO t o S i)(hs:s<t.nodes.length)(Bw:(nd t s).k=41)(hm:(m:Int)∈(nd t s).kids)(BX:(nd t m).k=42)(AQ:inS t o (m:Int) i)(ha:fs o ((Ji t s:Nat):Int)=a):∀S' j,FG t { S with fg:=Xz s true S.fg } S'->j<Ji t s+1-a->(S'.bad=none->∀j',j' < j->S'.dn.getD (a+j') false=true)->JfO t o S' (a+j):=λS' j Me hj BS hb=>by
 obtain⟨b1,b2,b3,b4⟩:=KA g hs Bw;have Fq:Ji t s<t.nodes.length:=om;have BD:=BS hb;have PZ:blw o (a+j) (Ji t s):=⟨om,om⟩;have Ab:a+j<t.nodes.length:=om;refine⟨λc hc=>?_,λv hv Ch OA Pd=>?_⟩
 ·have FP:=Qy g Fq (QA g Ab hc) PZ;have Az:=(J3 g Ab hc).2;have CR:=FP.2;have:=BD (c-a) om;rw[show a+(c-a)=c by omega]at this;exact this
 ·by_cases O3:fs o ((Ji t s:Nat):Int)<=(v:Int)
  ·have:=BD (v-a) om;rw[show a+(v-a)=v by omega]at this;exact this
  ·obtain⟨h1,h2⟩:=Jey g hs Bw hm BX AQ hi PZ hv Ch OA Pd O3;have bA:S.bad=none:=show ({ S with fg:=Xz s true S.fg }:FS).bad=none from Jh5 Me hb
   exact Me.dn v ((hP bA).2 v hv Ch h1 h2)
theorem force_fr(BO:GoOk t o f go)(EA:GoR t o f go){S:FS}{i s:Nat}(hI:FI t S)(hM:FM t o S)(hR:FR t o S)(hi:i<t.nodes.length)(hP:JfO t o S i)(hu:uf t S<f+1)(hs:s<t.nodes.length)(Bw:(nd t s).k=41)(hm:(m:Int)∈(nd t s).kids)(BX:(nd t m).k=42)(AQ:inS t o (m:Int) i):FR t o (Qn t o go s i S):=by
 unfold Qn
 cases EB:J6 S.fg s with
 |true=>
  rw[if_pos rfl];unfold FS.fail
  split
  ·exact hR
  ·exact hR.fields rfl rfl rfl
 |false=>
  rw[if_neg sM];simp only;obtain⟨b1,b2,b3,b4⟩:=KA g hs Bw;have dG:=JhN g (a:=Ji t s) om;have Fx:FI t { S with fg:=Xz s true S.fg }:=⟨hI.gl,hI.dl,hI.emp,hI.unf,hI.fnd,hI.fine,hI.ini,hI.typ⟩;have I6:=Jeq hs EB;obtain⟨a,ha⟩:∃a:Nat,fs o ((Ji t s:Nat):Int)=a:=⟨(fs o ((Ji t s:Nat):Int)).toNat,om⟩;rw[ha,Gd];have Bi:=JcL g hi hP hs Bw hm BX AQ ha;have Eg:=JaE BO Fx (S:={ S with fg:=Xz s true S.fg }) (show FM t o _ from hM) om (a:=a) (m:=Ji t s+1-a) om Bi _ (Gh _);have Iy:=Jew BO EA Fx (S:={ S with fg:=Xz s true S.fg }) (show FM t o _ from hM) (hR.fields rfl rfl rfl) om (a:=a) (m:=Ji t s+1-a) om Bi _ (Gh _);generalize (Kr a (Ji t s+1-a)).foldl go { S with fg:=Xz s true S.fg }=S1 at Eg Iy|-;obtain⟨q1,q2,q3,q4⟩:=Eg;refine FR.fields (S:=if S1.bad.isSome=true then S1 else JR t s S1) ?_ rfl rfl rfl
  split
  ·exact Iy
  ·have Al:=YB g (S:=S1) q1 hs Bw;exact Iy.same g Al.2.1 λj=>by rw[Al.2.2.2]
end
section
variable(g:GoodT t o)
include g
theorem Jat (hE:(XY t o).2=0){i:Nat}(hi:i<t.nodes.length)(h3:(nd t i).k=3)(hm:JY t o i=m):m<t.nodes.length/\inS t o (m:Int) i/\((nd t m).k=47\/(nd t m).k=64\/(nd t m).k=43\/((nd t m).k=42/\∃s k:Nat,Ky t m=s/\s<t.nodes.length/\(nd t s).k=41/\(m:Int)∈(nd t s).kids/\k<nB t s/\Ju t s k=m)):=by
 obtain⟨F9,Co,MJ,_,Oa⟩:=YQ g hE hi h3;rw[hm]at F9 MJ Oa;rw[Gd]at Oa;have Ce:m<t.nodes.length:=om;have AQ:inS t o (m:Int) i:=((mem_sight g hi).1 F9).2;refine⟨Ce,AQ,?_⟩;have BX:(nd t m).k=47\/(nd t m).k=64\/(nd t m).k=43\/(nd t m).k=42:=by
  obtain⟨u,a,hu,ha,Es,hd⟩:=AQ;rcases (QM g hu).1 hd with ⟨_,s',h2,CS,h4,h5⟩|⟨h1,h2,CS⟩|⟨h1,h2,CS⟩|⟨h1,h2,CS⟩
  ·exact .inr (.inr (.inr h5))
  ·exact .inr (.inl CS)
  ·exact .inl (by rw[CS];exact h1)
  ·rcases CS with ⟨CS,h4⟩|⟨_,s',CS,h4,h5,h6⟩
   ·exact .inr (.inr (.inl h4))
   ·exact .inr (.inr (.inr h6))
 rcases BX with h|h|h|Ci
 ·exact .inl h
 ·exact .inr (.inl h)
 ·exact .inr (.inr (.inl h))
 ·obtain⟨s,s1,s2,s3,s4⟩:=QO g Ce om;have Bw:=(YU (Jdh g s2 s4)).2.2.1 (by rw[Ci];rfl);obtain⟨b1,b2,b3,b4⟩:=KA g s2 Bw;obtain⟨k,hk,MM,_⟩:=JcH s4;refine .inr (.inr (.inr ⟨Ci,s,k,s1,s2,Bw,s4,?_,MM⟩));refine Ld λBL=>?_
  obtain rfl:k=(nd t s).kids.length-1:=om;have:Ji t s=m:=MM;rw[this]at b3;omega
theorem doF_fr (hE:(XY t o).2=0):∀f,GoR t o f (doF t o (λi=>(JY t o i).toNat) f)
 |0=>λS i _ _ _ _ _ hu=>om
 |f+1=>λS i hI hM hR hi hP hu=>by
  unfold doF
  cases DI:(S.bad.isSome || S.dn.getD i false) with
  |true=>rw[if_pos rfl];exact hR
  |false=>
   rw[if_neg sM];obtain⟨Ed,EN⟩:=Hr.1 DI;have Ig:S.bad=none:=by cases h:S.bad with|none=>rfl|some x=>rw[h]at Ed;cases Ed
   have Ej:=(hP Ig).1;by_cases h3:(nd t i).k=3
   ·rw[if_pos h3];simp only;obtain⟨m,hm⟩:∃m:Nat,JY t o i=m:=⟨(JY t o i).toNat,by have:=(YQ g hE hi h3).2.1;omega⟩;obtain⟨Ce,AQ,BX⟩:=Jat g hE hi h3 hm;rw[hm,Gd];have I8:¬Jay t i:=λh=>by have:=h.1;omega
    have fin3:∀(S':FS) (l:TL),FI t S'->FM t o S'->FR t o S'->FG t S S'->(S'.dn.getD i false=true->l=Jia t S' m)->FR t o (S'.fin i (some l)):=λS' l q1 q2 qr q3 hl=>by
     cases hd:S'.dn.getD i false with
     |false=>
      obtain⟨r1,r2,r3⟩:=Jgx g (r:=some l) q1 hi hd λl' _=>⟨λh=>absurd h I8,λh=>om,λh=>om⟩
      refine qr.step g r2 λj hj BD CQ=>?_
      by_cases FH:j=i
      ·subst FH;exact⟨λc hc=>r2.dn c (q3.dn c (Ej c hc)),λh=>absurd h3 h,λh=>om⟩
      ·rw[Jgy FH,CQ]at BD;cases BD
     |true=>obtain⟨h5,h6⟩:=q2 i hi h3 hd m hm;obtain⟨_,_,r3,_,r5⟩:=fin_again (o:=o) q1 q2 hi hd (h5.trans (hl hd).symm);exact qr.same g r3 r5
    unfold Y3;by_cases BQ:(nd t m).k=47
    ·rw[if_pos BQ];exact fin3 S _ hI hM hR .refl λh=>by rw[EN]at h;cases h
    rw[if_neg BQ];by_cases Cr:(nd t m).k=64\/(nd t m).k=42/\(nd t m).kids≠[]
    ·rw[if_pos Cr];exact fin3 S _ hI hM hR .refl λh=>by rw[EN]at h;cases h
    rw[if_neg Cr];by_cases CZ:(nd t m).k=42/\J6 S.fd (Ky t m).toNat=false
    ·rw[if_pos CZ];simp only;rcases BX with h|h|h|⟨_,s,k,s1,s2,s3,s4,s5,s6⟩
     ·exact absurd h BQ
     ·exact absurd (.inl h) Cr
     ·have:=CZ.1;omega
     ·rw[s1,Gd];obtain⟨q1,q2,q3,q4⟩:=JbL g (Jaw g hE f) hI hM hi hP hu s2 s3 s4 CZ.1 AQ;have qr:=force_fr g (Jaw g hE f) (doF_fr hE f) hI hM hR hi hP hu s2 s3 s4 CZ.1 AQ;exact fin3 _ _ q1 q2 qr q3 λ_=>by unfold Jia;rw[if_neg BQ,if_neg Cr]
    ·rw[if_neg CZ];exact fin3 S _ hI hM hR .refl λh=>by rw[EN]at h;cases h
   ·rw[if_neg h3];by_cases Ba:(nd t i).k=41
    ·rw[if_pos Ba];simp only;obtain⟨b1,b2,b3,b4⟩:=KA g hi Ba;have hS:FI t (YC t i S)/\FG t S (YC t i S)/\(YC t i S).dn=S.dn/\((YC t i S).bad=none->J6 (YC t i S).fd i=true):=by
      unfold YC
      split
      ·rename_i h;exact⟨hI,.refl,rfl,λ_=>h⟩
      ·have:=YB g hI hi Ba;exact⟨this.1,this.2.1,this.2.2.2,this.2.2.1⟩
     obtain⟨q1,q2,q3,q4⟩:=hS;have hr:=Jgx g (r:=if XF t i (Jr (YC t i S).got (Ji t i))=true then some [] else none) q1 hi (by rw[q3];exact EN) λl hl=>by
      split at hl
      ·cases hl;exact⟨λ_=>rfl,λh=>om,λh=>om⟩
      ·cases hl
     have dR:=hR.same g q2 λj=>by rw[q3]
     generalize YC t i S=S1 at *
     cases Cs:XF t i (Jr S1.got (Ji t i)) with
     |false=>
      rw[Cs,if_neg sM]at hr;rw[if_neg sM];refine dR.same g hr.2.1 λj=>?_
      unfold FS.fin FS.fail;simp only
      split <;> rfl
     |true=>
      rw[Cs,if_pos rfl]at hr;rw[if_pos rfl];refine dR.step g hr.2.1 λj hj BD CQ=>?_
      by_cases FH:j=i
      ·subst FH;refine⟨λc hc=>hr.2.1.dn c (by rw[q3];exact Ej c hc),λ_ h=>absurd Ba h,λ_=>⟨hr.2.1.fd j (q4 (fin_new CQ BD).1),?_⟩⟩;rw[hr.2.1.dk (Ji t j) (by rw[q3];exact Ej _ (JhC g hj Ba)) λhb=>by have:=hb.1;omega];exact Cs
      ·rw[Jgy FH,CQ]at BD;cases BD
    ·rw[if_neg Ba];obtain⟨r1,r2,r3⟩:=Jgx g (r:=Qd t (JY t o i).toNat S.got i) hI hi EN λl hl=>rule_ok hl
     cases hr:Qd t (JY t o i).toNat S.got i with
     |none=>
      rw[hr]at r2;refine hR.same g r2 λj=>?_
      unfold FS.fin FS.fail;simp only
      split <;> rfl
     |some l=>
      rw[hr]at r2;refine hR.step g r2 λj hj BD CQ=>?_
      by_cases FH:j=i
      ·subst FH;obtain⟨n1,n2⟩:=fin_new CQ BD;refine⟨λc hc=>r2.dn c (Ej c hc),λ_ _=>⟨l,rule_keep g hR r2 hj Ba Ej hr,λhb=>?_⟩,λh=>absurd h Ba⟩;by_cases hl:l=[]
       ·subst hl;have h0:=hI.emp j EN hb;unfold FS.fin FS.fail;simp only
        split
        ·exact h0
        ·split
         ·simp only[if_true];exact h0
         ·exact h0
       ·exact n2 (by rw[hI.gl];exact hj) hl
      ·rw[Jgy FH,CQ]at BD;cases BD
end
def lisT (t:Tr)(τ:Nat->TL):List TL:=(Gb t.nodes.length).map τ
def valT (t:Tr)(τ:Nat->TL)(m:Nat):TL:=if (nd t m).k=47 then [.int] else if (nd t m).k=64\/(nd t m).k=42/\(nd t m).kids≠[] then [tyN t (Ju t m 0)] else τ m
structure TA (t:Tr)(o:Lx)(τ:Nat->TL):Prop where
 nam:∀i,i<t.nodes.length->(nd t i).k=3->∀m:Nat,JY t o i=m->τ i=valT t τ m/\valT t τ m≠[]
 sets:∀s,s<t.nodes.length->(nd t s).k=41->(τ (Ji t s)).length=nB t s/\(∀k,k<nB t s->τ (Ju t s k)=[(τ (Ji t s)).getD k .int])/\τ s=[]
 rule:∀i,i<t.nodes.length->(nd t i).k≠3->(nd t i).k≠41->∃l,Qd t (JY t o i).toNat (lisT t τ) i=some l/\(¬Jay t i->τ i=l)
 fine:∀i,i<t.nodes.length->Qg (τ i)=true
def bareN (t:Tr)(o:Lx)(i s:Nat):Prop:=(nd t i).k=3/\∃m:Nat,JY t o i=m/\Jay t m/\Ky t m=(s:Int)
def Acy (t:Tr)(o:Lx)(r:Nat->Nat):Prop:=∀s,s<t.nodes.length->(nd t s).k=41->∀i s',i<t.nodes.length->blw o i (Ji t s)->bareN t o i s'->r s' < r s
structure FT (t:Tr)(τ:Nat->TL)(S:FS):Prop where
 sub:∀i,i<t.nodes.length->Jr S.got i≠[]->Jr S.got i=τ i
 dne:∀i,i<t.nodes.length->S.dn.getD i false=true->¬Jay t i->Jr S.got i=τ i
 ok:S.bad=none
theorem FT.fields{S:FS}(h:FT t τ S)(h1:S'.got=S.got)(h2:S'.dn=S.dn)(h3:S'.bad=S.bad):FT t τ S':=⟨by rw[h1];exact h.sub,by rw[h1,h2];exact h.dne,by rw[h3];exact h.ok⟩
section
variable(g:GoodT t o){r:Nat->Nat}(hA:TA t o τ)
include g hA
end
def idxM:List (Nat×Bool)->Nat->Nat
 |[],_=>0
 |(j,_)::l,k=>if j=k then 0 else idxM l k+1
theorem idx_lt:∀{l:List (Nat×Bool)},J6 l k=true->idxM l k<l.length
 |[],h=>by simp[J6]at h
 |(j,c)::l,h=>by
  rw[idxM,Gg]
  split
  ·omega
  ·rename_i Ai;have h2:J6 l k=true:=by rw[J6,if_neg Ai]at h;exact h
   have:=idx_lt h2;omega
theorem idx_ins:∀{l:List (Nat×Bool)},J6 l x=true->idxM (Xz k true l) x=idxM l x
 |[],h=>by simp[J6]at h
 |(j,c)::l,h=>by
  rw[Xz];by_cases e:j=k
  ·subst e;rw[if_pos rfl,idxM,idxM]
  ·rw[if_neg e,idxM,idxM];by_cases e2:j=x
   ·rw[if_pos e2,if_pos e2]
   ·rw[if_neg e2,if_neg e2,idx_ins (by rw[J6,if_neg e2]at h;exact h)]
def allMT (l:List (Nat×Bool)):Prop:=∀p∈l,p.2=true
theorem idx_new:∀{l:List (Nat×Bool)},allMT l->J6 l k=false->idxM (Xz k true l) k=l.length
 |[],_,_=>by simp[Xz,idxM]
 |(j,c)::l,ha,h=>by
  have hc:c=true:=ha (j,c) sM;have Ai:j≠k:=λe=>by rw[J6,if_pos e,hc]at h;cases h
  rw[Xz,if_neg Ai,idxM,if_neg Ai,idx_new (λp hp=>ha p (by simp[hp])) (by rw[J6,if_neg Ai]at h;exact h),Gg]
theorem all_ins:∀{l:List (Nat×Bool)},allMT l->allMT (Xz k true l)
 |[],_=>λp hp=>by simp[Xz]at hp;rw[hp]
 |(j,c)::l,ha=>by
  rw[Xz]
  split
  ·intro p hp;rcases GA.1 hp with rfl|hp
   ·rfl
   ·exact ha p (by simp[hp])
  ·intro p hp;rcases GA.1 hp with rfl|hp
   ·exact ha _ sM
   ·exact all_ins (λq hq=>ha q (by simp[hq])) p hp
structure FO (t:Tr)(o:Lx)(S:FS):Prop where
 all:allMT S.fd
 ord:∀s,J6 S.fd s=true->∀i s',i<t.nodes.length->blw o i (Ji t s)->bareN t o i s'->J6 S.fd s'=true/\idxM S.fd s' < idxM S.fd s
 set0:∀s,s<t.nodes.length->(nd t s).k=41->Jr S.got s=[]
theorem FO.fields{S:FS}(h:FO t o S)(h1:S'.got=S.got)(h3:S'.fd=S.fd):FO t o S':=⟨by rw[h3];exact h.all,by rw[h3];exact h.ord,by rw[h1];exact h.set0⟩
theorem FO.fin{S:FS}{i:Nat}(h:FO t o S)(hl:i<S.got.length)(hr:(nd t i).k=41->r=none\/r=some []):FO t o (S.fin i r):=by
 unfold FS.fin FS.fail
 cases r with
 |none=>simp only;split <;> exact h.fields rfl rfl
 |some l=>
  simp only
  split
  ·exact h
  ·split
   ·refine⟨h.all,h.ord,λs hs hk=>?_⟩;simp only
    split
    ·exact h.set0 s hs hk
    ·rename_i Ai;rw[JaL hl]
     split
     ·rename_i e;subst e;rcases hr hk with h|h
      ·cases h
      ·cases h;exact absurd rfl Ai
     ·exact h.set0 s hs hk
   ·first
    |exact h.fields rfl rfl
    |(split <;> exact h.fields rfl rfl)
section
variable(g:GoodT t o)
include g
theorem done_below {S:FS}(hR:FR t o S):∀(a i:Nat),a<t.nodes.length->blw o i a->S.dn.getD a false=true->S.dn.getD i false=true:=by
 intro a
 induction a using Le with
 |ind a ih=>
  intro i ha hb hd;rcases Jck g ha hb with rfl|⟨c,hc,Ca⟩
  ·exact hd
  ·have:=(J3 g ha hc).2;exact ih c this i om Ca (hR.clo a ha hd c hc)
theorem bare_found {S:FS}(hI:FI t S)(hM:FM t o S){i s':Nat}(hE:(XY t o).2=0)(hi:i<t.nodes.length)(hd:S.dn.getD i false=true)(hb:bareN t o i s'):J6 S.fd s'=true:=by
 obtain⟨h3,m,hm,MU,hp⟩:=hb;obtain⟨h1,h2⟩:=hM i hi h3 hd m hm;obtain⟨Ce,AQ,BX⟩:=Jat g hE hi h3 hm;have hv:Jia t S m=Jr S.got m:=by unfold Jia;rw[if_neg (by rw[MU.1];omega),if_neg (λh=>by rcases h with h|h;(rw[MU.1]at h;omega);exact h.2 MU.2)]
 rw[hv]at h2;rcases BX with h|h|h|⟨_,s,k,s1,s2,s3,s4,s5,s6⟩
 ·have:=MU.1;omega
 ·have:=MU.1;omega
 ·have:=MU.1;omega
 ·obtain rfl:s=s':=om
  cases hf:J6 S.fd s with
  |true=>rfl
  |false=>have:=hI.unf s s2 s3 hf k s5 (by rw[s6];exact MU.2);rw[s6]at this;exact absurd this h2
theorem settle_fo {S:FS}{s:Nat}(hE:(XY t o).2=0)(hI:FI t S)(hM:FM t o S)(hR:FR t o S)(hO:FO t o S)(hs:s<t.nodes.length)(hk:(nd t s).k=41)(hd:S.bad=none->S.dn.getD (Ji t s) false=true)(hb:S.bad=none):FO t o (JR t s S):=by
 obtain⟨b1,b2,b3,b4⟩:=KA g hs hk;unfold JR;simp only
 split
 case isFalse=>unfold FS.fail;split <;> exact hO.fields rfl rfl
 case isTrue hl=>
  change FO t o { S with got:=Yb t s (Jr S.got (Ji t s)) S.got (nB t s),fd:=Xz s true S.fd };refine⟨all_ins hO.all,λs0 h0 i s' hi Bo Ig=>?_,λu hu Ik=>?_⟩
  ·simp only at h0|-;rw[QX]at h0;have fresh:∀x,J6 S.fd x=true->J6 (Xz s true S.fd) x=true/\idxM (Xz s true S.fd) x=idxM S.fd x:=λx hx=>⟨by rw[QX];split;rfl;exact hx,idx_ins hx⟩
   cases hf:J6 S.fd s0 with
   |true=>obtain⟨h1,h2⟩:=hO.ord s0 hf i s' hi Bo Ig;obtain⟨f1,f2⟩:=fresh s' h1;rw[f2,(fresh s0 hf).2];exact⟨f1,h2⟩
   |false=>
    rw[hf]at h0
    split at h0
    ·rename_i he;subst he;have h1:=bare_found g hI hM hE hi (done_below g hR _ i om Bo (hd hb)) Ig;obtain⟨f1,f2⟩:=fresh s' h1;rw[f2,idx_new hO.all hf];exact⟨f1,idx_lt h1⟩
    ·cases h0
  ·rw[show Jr (Yb t s (Jr S.got (Ji t s)) S.got (nB t s)) u=Jr S.got u from JbF _ λk Aq kG he=>by have:=(b2 k Aq).1;rw[he]at this;omega];exact hO.set0 u hu Ik
def GoO (t:Tr)(o:Lx)(f:Nat)(go:FS->Nat->FS):Prop:=∀S i,FI t S->FM t o S->FR t o S->FO t o S->i<t.nodes.length->JfO t o S i->uf t S<f->FO t o (go S i)
omit g in
theorem span_fo(BO:GoOk t o f go)(EA:GoR t o f go)(PH:GoO t o f go){S:FS}(hI:FI t S)(hM:FM t o S)(hR:FR t o S)(hO:FO t o S)(hu:uf t S<f)(Mj:a+m<=t.nodes.length)(hP:∀S' j,FG t S S'->j<m->(S'.bad=none->∀j',j' < j->S'.dn.getD (a+j') false=true)->JfO t o S' (a+j)) :
  ∀k,k<=m->FO t o ((Kr a k).foldl go S)
 |0,_=>hO
 |k+1,hk=>by obtain⟨h1,h2,h3,h4⟩:=JaE BO hI hM hu Mj hP k om;have ih:=span_fo BO EA PH hI hM hR hO hu Mj hP k om;have ihr:=Jew BO EA hI hM hR hu Mj hP k om;rw[YK,H6];generalize (Kr a k).foldl go S=S1 at *;exact PH S1 (a+k) h1 h2 ihr ih om (hP S1 k h3 om h4) (by rw[uf_eq h3];exact hu)
theorem force_fo(hE:(XY t o).2=0)(BO:GoOk t o f go)(EA:GoR t o f go)(PH:GoO t o f go){S:FS}{i s:Nat}(hI:FI t S)(hM:FM t o S)(hR:FR t o S)(hO:FO t o S)(hi:i<t.nodes.length)(hP:JfO t o S i)(hu:uf t S<f+1)(hs:s<t.nodes.length)(Bw:(nd t s).k=41)(hm:(m:Int)∈(nd t s).kids)(BX:(nd t m).k=42)(AQ:inS t o (m:Int) i):FO t o (Qn t o go s i S):=by
 unfold Qn
 cases EB:J6 S.fg s with
 |true=>
  rw[if_pos rfl];unfold FS.fail
  split
  ·exact hO
  ·exact hO.fields rfl rfl
 |false=>
  rw[if_neg sM];simp only;obtain⟨b1,b2,b3,b4⟩:=KA g hs Bw;have dG:=JhN g (a:=Ji t s) om;have Fx:FI t { S with fg:=Xz s true S.fg }:=⟨hI.gl,hI.dl,hI.emp,hI.unf,hI.fnd,hI.fine,hI.ini,hI.typ⟩;have I6:=Jeq hs EB;obtain⟨a,ha⟩:∃a:Nat,fs o ((Ji t s:Nat):Int)=a:=⟨(fs o ((Ji t s:Nat):Int)).toNat,om⟩;rw[ha,Gd];have Bi:=JcL g hi hP hs Bw hm BX AQ ha;have Eg:=JaE BO Fx (S:={ S with fg:=Xz s true S.fg }) (show FM t o _ from hM) om (a:=a) (m:=Ji t s+1-a) om Bi _ (Gh _);have Iy:=Jew BO EA Fx (S:={ S with fg:=Xz s true S.fg }) (show FM t o _ from hM) (hR.fields rfl rfl rfl) om (a:=a) (m:=Ji t s+1-a) om Bi _ (Gh _);have Rj:=span_fo BO EA PH Fx (S:={ S with fg:=Xz s true S.fg }) (show FM t o _ from hM) (hR.fields rfl rfl rfl) (hO.fields rfl rfl) om (a:=a) (m:=Ji t s+1-a) om Bi _ (Gh _);generalize (Kr a (Ji t s+1-a)).foldl go { S with fg:=Xz s true S.fg }=S1 at Eg Iy Rj|-;obtain⟨q1,q2,q3,q4⟩:=Eg;refine FO.fields (S:=if S1.bad.isSome=true then S1 else JR t s S1) ?_ rfl rfl
  split
  ·exact Rj
  ·rename_i hb;have Ig:S1.bad=none:=by cases h:S1.bad with|none=>rfl|some x=>rw[h]at hb;exact absurd rfl hb
   refine settle_fo g hE q1 q2 Iy Rj hs Bw (λhb=>?_) Ig;have:=q4 hb (Ji t s-a) om;rw[show a+(Ji t s-a)=Ji t s by omega]at this;exact this
theorem doF_fo (hE:(XY t o).2=0):∀f,GoO t o f (doF t o (λi=>(JY t o i).toNat) f)
 |0=>λS i _ _ _ _ _ _ hu=>om
 |f+1=>λS i hI hM hR hO hi hP hu=>by
  unfold doF
  cases DI:(S.bad.isSome || S.dn.getD i false) with
  |true=>rw[if_pos rfl];exact hO
  |false=>
   rw[if_neg sM];obtain⟨Ed,EN⟩:=Hr.1 DI;have Ig:S.bad=none:=by cases h:S.bad with|none=>rfl|some x=>rw[h]at Ed;cases Ed
   have Ae:i<S.got.length:=by rw[hI.gl];exact hi
   by_cases h3:(nd t i).k=3
   ·rw[if_pos h3];simp only;obtain⟨m,hm⟩:∃m:Nat,JY t o i=m:=⟨(JY t o i).toNat,by have:=(YQ g hE hi h3).2.1;omega⟩;obtain⟨Ce,AQ,BX⟩:=Jat g hE hi h3 hm;rw[hm,Gd];have h0:(nd t i).k=41->∀r:Option TL,r=none\/r=some []:=λh=>om
    unfold Y3;by_cases BQ:(nd t m).k=47
    ·rw[if_pos BQ];exact hO.fin Ae λh=>h0 h _
    rw[if_neg BQ];by_cases Cr:(nd t m).k=64\/(nd t m).k=42/\(nd t m).kids≠[]
    ·rw[if_pos Cr];exact hO.fin Ae λh=>h0 h _
    rw[if_neg Cr];by_cases CZ:(nd t m).k=42/\J6 S.fd (Ky t m).toNat=false
    ·rw[if_pos CZ];simp only;rcases BX with h|h|h|⟨_,s,k,s1,s2,s3,s4,s5,s6⟩
     ·exact absurd h BQ
     ·exact absurd (.inl h) Cr
     ·have:=CZ.1;omega
     ·rw[s1,Gd];obtain⟨q1,q2,q3,q4⟩:=JbL g (Jaw g hE f) hI hM hi hP hu s2 s3 s4 CZ.1 AQ;have qo:=force_fo g hE (Jaw g hE f) (doF_fr g hE f) (doF_fo hE f) hI hM hR hO hi hP hu s2 s3 s4 CZ.1 AQ;exact qo.fin (by rw[q1.gl];exact hi) λh=>h0 h _
    ·rw[if_neg CZ];exact hO.fin Ae λh=>h0 h _
   ·rw[if_neg h3];by_cases Ba:(nd t i).k=41
    ·rw[if_pos Ba];simp only;have hS:FO t o (YC t i S)/\FI t (YC t i S):=by
      unfold YC
      split
      ·exact⟨hO,hI⟩
      ·exact⟨settle_fo g hE hI hM hR hO hi Ba (λ_=>(hP Ig).1 _ (JhC g hi Ba)) Ig,(YB g hI hi Ba).1⟩
     exact hS.1.fin (by rw[hS.2.gl];exact hi) λ_=>by
      split
      ·exact .inr rfl
      ·exact .inl rfl
    ·rw[if_neg Ba];exact hO.fin Ae λh=>absurd h Ba
end
section
variable(g:GoodT t o)
theorem Jcp {t:Tr}(j:Nat):Jr (FS.start t).got j=[]:=by
 unfold FS.start Jr;simp only[Ga,GN]
 split <;> rfl
theorem Jby {t:Tr}(j:Nat):(FS.start t).dn.getD j false=false:=by
 unfold FS.start;simp only[Ga,GN]
 split <;> rfl
theorem start_fi {t:Tr}:FI t (FS.start t):=⟨by simp[FS.start],by simp[FS.start],λi _ _=>Jcp i,λs _ _ _ k _ _=>Jcp _,λs h=>by simp[FS.start,J6]at h,λi=>by rw[Jcp];rfl,λi _ h=>(by rw[Jby]at h;cases h),λi _ h=>(by rw[Jby]at h;cases h)⟩
theorem start_fm {t:Tr}{o:Lx}:FM t o (FS.start t):=λi _ _ h=>by rw[Jby]at h;cases h
theorem start_fr {t:Tr}{o:Lx}:FR t o (FS.start t):=⟨λi _ h=>(by rw[Jby]at h;cases h),λi _ h=>(by rw[Jby]at h;cases h),λi _ h=>(by rw[Jby]at h;cases h)⟩
theorem start_fo {t:Tr}{o:Lx}:FO t o (FS.start t):=⟨λp hp=>by simp[FS.start]at hp,λs h=>by simp[FS.start,J6]at h,λs _ _=>Jcp s⟩
theorem start_uf {t:Tr}:uf t (FS.start t)<t.nodes.length+1:=by unfold uf;have:=Lm (λs=>!J6 (FS.start t).fg s) (Gb t.nodes.length);rw[G7]at this;omega
theorem span_zero:Kr 0 n=Gb n:=by
 unfold Kr;refine Ha sM λi h1 h2=>?_
 simp
include g
theorem start_pre:∀S' j,FG t (FS.start t) S'->j<t.nodes.length->(S'.bad=none->∀j',j' < j->S'.dn.getD (0+j') false=true)->JfO t o S' (0+j):=λS' j _ hj BS hb=>by
 have BD:=BS hb;refine⟨λc hc=>?_,λv hv Ch OA _=>?_⟩
 ·have Az:=(J3 g (show 0+j<t.nodes.length by omega) hc).2;have:=BD c om;rw[Gm]at this;exact this
 ·have:=BD v om;rw[Gm]at this;exact this
theorem infer_inv (hE:(XY t o).2=0):FI t (JN t o)/\FM t o (JN t o)/\FR t o (JN t o)/\FO t o (JN t o)/\((JN t o).bad=none->∀j,j<t.nodes.length->(JN t o).dn.getD j false=true):=by obtain⟨h1,h2,_,h4⟩:=Jec g hE t.nodes.length (Gh _);have h5:=Jew (Jaw g hE (t.nodes.length+1)) (doF_fr g hE (t.nodes.length+1)) start_fi start_fm start_fr start_uf (a:=0) (m:=t.nodes.length) om (start_pre g) t.nodes.length (Gh _);have h6:=span_fo (Jaw g hE (t.nodes.length+1)) (doF_fr g hE (t.nodes.length+1)) (doF_fo g hE (t.nodes.length+1)) start_fi start_fm start_fr start_fo start_uf (a:=0) (m:=t.nodes.length) om (start_pre g) t.nodes.length (Gh _);rw[span_zero]at h1 h2 h4 h5 h6;refine⟨h1,h2,h5,h6,λhb j hj=>?_⟩;have:=h4 hb j hj;rw[Gm]at this;exact this
theorem typed_ta (hE:(XY t o).2=0)(hb:(JN t o).bad=none):TA t o (Jr (JN t o).got)/\Acy t o (idxM (JN t o).fd):=by
 obtain⟨hI,hM,hR,hO,hd⟩:=infer_inv g hE;have hd:=hd hb;have hl:lisT t (Jr (JN t o).got)=(JN t o).got:=by
  unfold lisT;refine Ha (by simp[hI.gl]) λi h1 h2=>?_
  simp[Jr,Ga,Gf h2]
 refine⟨⟨λi hi hk m hm=>hM i hi hk (hd i hi) m hm,λs hs hk=>?_,λi hi h3 Ba=>?_,λi _=>hI.fine i⟩,λs hs hk i s' hi Bo hn=>?_⟩
 ·obtain⟨f1,f2⟩:=hR.sets s hs (hd s hs) hk;obtain⟨_,_,f3,f4⟩:=hI.fnd s f1;obtain⟨b1,b2,b3,b4⟩:=KA g hs hk;refine⟨f3,λk Aq=>?_,hO.set0 s hs hk⟩;by_cases he:(nd t (Ju t s k)).kids=[]
  ·exact f4 k Aq he
  ·have Ap:Ju t s k<t.nodes.length:=by have:=(b2 k Aq).2;omega
   rw[hI.typ _ Ap (hd _ Ap) (b2 k Aq).1 he];unfold XF at f2;have:=GQ.1 f2 k (Hf.2 Aq);rw[Lh,List.isEmpty_iff]at this;rcases this with h|h
   ·exact absurd h he
   ·rw[eq_of_beq h]
 ·obtain⟨l,h1,h2⟩:=hR.rule i hi (hd i hi) h3 Ba;exact⟨l,by rw[hl];exact h1,h2⟩
 ·exact(hO.ord s (hR.sets s hs (hd s hs) hk).1 i s' hi Bo hn).2
end
section
variable(g:GoodT t o)
include g
theorem Yp {i:Nat}(hi:i<t.nodes.length)(hk:(nd t i).k=25\/(62<=(nd t i).k/\(nd t i).k<=64)\/(nd t i).k=42/\(nd t i).kids≠[]):0<(nd t i).kids.length/\Ju t i 0<i/\60<=(nd t (Ju t i 0)).k/\(nd t (Ju t i 0)).k<=63:=by
 have h:=Jgi g hi;have e:lets t.nodes (nd t i)=[116]:=by
  by_cases Ci:(nd t i).k=42
  ·have Ai:lets t.nodes (nd t i)≠[]:=λe=>by
    have:=congrArg Gs e;rw[KH]at this;rcases hk with h1|h1|h1
    ·omega
    ·omega
    ·exact h1.2 (Hy this)
   rw[Ci]at h;generalize lets t.nodes (nd t i)=hv at *;rw[h];simp[Qi,Ai]
  ·rw[h];unfold Qi;simp only;rw[iN7,iN7,iP7]
 have hl:=congrArg Gs e;rw[KH]at hl;simp only[Gg,Gi]at hl;have hg:=let_get g hi (j:=0) om;rw[e]at hg;have h2:=JcF (V4 hg).symm;exact⟨om,(Jz g hi (i:=0) om).2.1,h2.1,h2.2⟩
theorem tyF_fuel:∀(f f' i:Nat),i<t.nodes.length->60<=(nd t i).k->(nd t i).k<=63->i<f->i<f'->tyF t f i=tyF t f' i
 |0,_,_,_,_,_,h,_=>om
 |f+1,0,_,_,_,_,_,h=>om
 |f+1,f' + 1,i,hi,h1,h2,h3,h4=>by
  unfold tyF;by_cases e0:(nd t i).k=60
  ·rw[if_pos e0,if_pos e0]
  ·by_cases e1:(nd t i).k=61
   ·rw[if_neg e0,if_neg e0,if_pos e1,if_pos e1]
   ·obtain⟨k1,k2,k3,k4⟩:=Yp g hi (.inr (.inl ⟨om,om⟩));rw[tyF_fuel f f' (Ju t i 0) om k3 k4 om om]
theorem tyN_eq {i:Nat}(hi:i<t.nodes.length)(h1:60<=(nd t i).k)(h2:(nd t i).k<=63):tyN t i=if (nd t i).k=60 then .int else if (nd t i).k=61 then .bool else if (nd t i).k=62 then .arr (tyN t (Ju t i 0)) else .str (tyN t (Ju t i 0)):=by
 show tyF t (i+1) i=_;unfold tyF;by_cases e0:(nd t i).k=60
 ·rw[if_pos e0,if_pos e0]
 ·by_cases e1:(nd t i).k=61
  ·rw[if_neg e0,if_neg e0,if_pos e1,if_pos e1]
  ·obtain⟨k1,k2,k3,k4⟩:=Yp g hi (.inr (.inl ⟨om,om⟩));rw[tyF_fuel g i (Ju t i 0+1) (Ju t i 0) om k3 k4 om om];rfl
end
section
variable{u:Tr}(gu:GoodT u p)(g:GoodT t o)(h:TMap u t ψ)
include gu g h
end
def KK (t:Tr)(got:List TL)(i j:Nat):TL:=if j<(nd t i).kids.length then Jr got (Ju t i j) else []
def J9 (k:Nat)(ks:Lx)(n:Nat)(K L:Nat->TL)(ty:TyX)(sp sr si gm:TL):Option TL:=
 if k=1 then some [.int]
 else if k=2 then some [.bool]
 else if k=4 then match K 1 with
  |[.str a]=>if K 0=[a] then some [.str a] else none
  |_=>none
 else if k=5\/k=6 then if K 0=[.bool]/\K 1=[.bool] then some [.bool] else none
 else if k=7\/k=8 then if K 0=[.int]/\K 1=[.int]\/K 0=[.bool]/\K 1=[.bool] then some [.bool] else none
 else if 9<=k/\k<=12 then if K 0=[.int]/\K 1=[.int] then some [.bool] else none
 else if 13<=k/\k<=17 then if K 0=[.int]/\K 1=[.int] then some [.int] else none
 else if k=18 then match K 0 with
  |[.arr a]=>if K 1=[.int] then some [a] else none
  |_=>none
 else if k=19 then if K 0=[.bool] then some [.bool] else none
 else if k=20 then if K 0=[.int] then some [.int] else none
 else if k=21 then match K 0 with
  |[.str a]=>some [a]
  |_=>none
 else if k=22 then match K 0 with
  |[.str a]=>some [.str a]
  |_=>none
 else if k=23 then match K 0 with
  |[.str _]=>some [.bool]
  |_=>none
 else if k=24 then match K 0 with
  |[.arr _]=>some [.int]
  |_=>none
 else if k=25 then some [.str ty]
 else if k=26 then if ks.length=sp.length/\∀j,j<ks.length->K j=[sp.getD j .int] then some sr else none
 else if k=27 then if K 0=[.bool]/\K 1=K 2 then some (K 1) else none
 else if k=28 then if K n=[.bool] then some (K (ks.length-1)) else none
 else if k=29 then match L 1 with
  |[a]=>if ((Gb (ks.length-1)).all λj=>L (j+1) == [a])=true/\K 0=[.int] then some [.arr a] else none
  |_=>none
 else if k=40 then YS ((Gb (ks.length-n)).map λj=>K (n+j))
 else if k=45 then YS ((Gb ks.length).map K)
 else if k=42 then if ks=[] then some [] else some [ty]
 else if k=64 then some [ty]
 else if k=43 then if (K 0).length=1 then some (K 0) else none
 else if k=44 then if gm.length=1/\K 0=gm then some [] else none
 else if k=47 then some [.int]
 else if k=65 then if K (ks.length-1)=si then some [] else none
 else some []
theorem JW{i:Nat}:Qd t m got i=J9 (nd t i).k (nd t i).kids (nd t i).n.toNat (KK t got i) (Jbi t got i) (tyN t (Ju t i 0)) (Q3 t m) (XH t m) (XH t i) (Jr got m):=rfl
theorem ruleK_congr{ks ks':Lx}{K K' L L':Nat->TL}{ty ty':TyX}{sp sp' sr sr' si si' gm gm':TL}(hl:ks'.length=ks.length)(hK:k≠40->k≠28->K'=K)(Ef:k=28->K' n=K n/\K' (ks.length-1)=K (ks.length-1))(Eu:k=40->∀j,j<ks.length-n->K' (n+j)=K (n+j))(PU:k=29->∀j,L' (j+1)=L (j+1))(Cj:k=25\/k=64\/k=42/\ks≠[]->ty'=ty)(Dj:k=26->sp'=sp/\sr'=sr)(BG:k=44->gm'=gm)(BF:k=65->si'=si):J9 k ks' n K' L' ty' sp' sr' si' gm'=J9 k ks n K L ty sp sr si gm:=by
 by_cases e28:k=28
 ·subst e28;obtain⟨a,b⟩:=Ef rfl;simp[J9,hl,a,b]
 by_cases e40:k=40
 ·subst e40;have:((Gb (ks.length-n)).map λj=>K' (n+j))=(Gb (ks.length-n)).map λj=>K (n+j):=HY λj hj=>Eu rfl j (Hf.1 hj)
  simp[J9,hl,this]
 obtain rfl:=hK e40 e28;by_cases e29:k=29
 ·subst e29;have h1:=PU rfl 0;simp only[Gm]at h1;simp[J9,hl,h1,PU rfl]
 by_cases e25:k=25
 ·subst e25;simp[J9,Cj (.inl rfl)]
 by_cases e64:k=64
 ·subst e64;simp[J9,Cj (.inr (.inl rfl))]
 by_cases e42:k=42
 ·subst e42;by_cases he:ks=[]
  ·have BZ:ks'=[]:=Hy (by rw[hl,he];rfl);simp[J9,he,BZ]
  ·have BZ:ks'≠[]:=λe=>he (Hy (by rw[<-hl,e];rfl))
   simp[J9,he,BZ,Cj (.inr (.inr ⟨rfl,he⟩))]
 by_cases e26:k=26
 ·subst e26;obtain⟨rfl,rfl⟩:=Dj rfl;simp[J9,hl]
 by_cases e44:k=44
 ·subst e44;obtain rfl:=BG rfl;simp[J9]
 by_cases e65:k=65
 ·subst e65;obtain rfl:=BF rfl;simp[J9,hl]
 unfold J9;simp only[if_neg e28,if_neg e40,if_neg e29,if_neg e25,if_neg e64,if_neg e42,if_neg e26,if_neg e44,if_neg e65,hl]
structure TyM (u t:Tr)(p o:Lx)(ψ:Nat->Nat):Prop where
 n:∀j,j<u.nodes.length->(nd t (ψ j)).n=(nd u j).n
 pos:∀j,j<u.nodes.length->∀i,i<(nd u j).kids.length->(nd u (Ju u j i)).k≠41->ψ (Ju u j i)=Ju t (ψ j) i
 of:∀j,j<u.nodes.length->KI u j=true->∃d:Nat,d<u.nodes.length/\JY u p j=d/\JY t o (ψ j)=(ψ d:Nat)/\((nd u j).k=26->(nd u d).k=65)
section
variable{u:Tr}(gu:GoodT u p)(g:GoodT t o)(h:TMap u t ψ)(M:TyM u t p o ψ)
include gu g h M
end
section
variable(g:GoodT t o)
include g
end
section
variable(g:GoodT t o)
include g
theorem def_res {d:Nat}(hd:d<t.nodes.length)(hk:(nd t d).k=65):(nd t d).n.toNat+1<(nd t d).kids.length:=by
 have h:=g.nds (nd t d) (by unfold nd;rw[Ga,Gf hd];exact Gp hd);have hl:=KH (l:=t.nodes) (x:=nd t d);unfold ndI Kj at h;rw[hk]at h;generalize lets t.nodes (nd t d)=hv at *;simp only[Gv,beq_iff_eq]at h;obtain⟨⟨⟨⟨_,h1⟩,_⟩,_,h3⟩,h4⟩:=h;have e:hv.length=Qz 80 hv+Qz 116 hv+1:=by have:=congrArg Gs h1;simp[Qi]at this;omega
 simp[Xb]at h3;simp[Q5,inI]at h4;omega
end
end Go.Cm
end
section
set_option maxRecDepth 100000
namespace Go.Cm
variable {op:IOp}{T:Lu}{H H':Lv}{v:CV}{P:Program}{b f n0 p x:Nat}{Q:Exit->Lu->Lv->Prop}{es:List LB}{d:Option Nat}{g:Option (Nat×Bool)}{io:IOper}{xa:LP}{o:CObj}{R:LB}
def still:IOp->Bool
 |.nchk _=>true
 |.sliceS _ _ _=>true
 |.indexS _ _=>true
 |_=>false
theorem still_exec{c:Cond}(hs:still op=true)(he:exec op T H=some (c,v,H')):H'=H/\∀H2,exec op T H2=some (c,v,H2):=by
 cases op <;> simp only[still]at hs <;> first|(cases hs;done)|skip
 all_goals
  simp only[exec]at he|-
  repeat' split at he
  all_goals first|(cases he;done)|(simp only[Gt,Gu]at he;obtain⟨rfl,rfl,rfl⟩:=he;refine⟨rfl,λH2=>?_⟩;simp_all)
def low (op:IOp)(T:Lu):Option Nat:=match op with
 |.load _ _ a=>match Kg T a with
  |.ptr id _ _=>some id
  |_=>none
 |.iaddr _ a _=>match Kg T a with
  |.slc id _ _ _=>some id
  |_=>none
 |_=>none
theorem low_exec{H2:Lv}{c:Cond}{id:Nat}(hl:low op T=some id)(he:exec op T H=some (c,v,H'))(h2:H2[id]? = H[id]?):H'=H/\exec op T H2=some (c,v,H2):=by
 cases op <;> simp only[low]at hl <;> first|(cases hl;done)|skip
 case load ag n a=>
  split at hl
  ·rename_i i off ha
   cases hl
   simp only[exec,ha]at he|-;rw[h2]
   repeat' split at he
   all_goals first|(cases he;done)|(simp only[Gt,Gu]at he;obtain⟨rfl,rfl,rfl⟩:=he;refine⟨rfl,?_⟩;simp_all)
  ·cases hl
 case iaddr z a i=>
  split at hl
  ·rename_i off len cap ha
   cases hl
   simp only[exec,ha]at he|-
   cases hi:Kg T i <;> rw[hi]at he <;> simp only[reduceCtorEq]at he
   simp only;rw[h2]
   repeat' split at he
   all_goals first|(cases he;done)|(simp only[Gt,Gu]at he;obtain⟨rfl,rfl,rfl⟩:=he;refine⟨rfl,?_⟩;simp_all)
  ·cases hl
def JbV (b:Nat):Foot×Foot:=if b=4 then(.on [1,2,3,4,5],.on []) else if 2000<=b then(.on [b-2000+1],.on [b-2000+1]) else if 1000<=b then(.on [0,b-1000+1],.on [0,b-1000+1]) else footQ b
def Yd (b:Nat)(op:IOp)(T:Lu)(H:Lv):Option (Cond×CV×Lv):=if 1000<=b then none else if b=4 then(match low op T with|some id=>if id<5 then exec op T H else none|none=>none) else if b=0/\still op=true then exec op T H else JgK b op T H
section
variable (P:Program)(E:Env)(n0:Nat)(N:Fr)(Q:Exit->Lu->Lv->Prop)
def vdy (k:LM):LD->LB->Lu->Lv->Prop
 |[],_,T,H=>KD P E n0 N Q k T H
 |_::_,[],_,_=>False
 |⟨d,op,none⟩::l,b::bs,T,H=>match Yd b op T H with
  |some (c,v,H')=>c.holds/\vdy k l bs (put T d v) H'
  |none=>∃v H',HS P E ⟨d,op,none⟩ T H v H' (JbV b)/\vdy k l bs (put T d v) H'
 |⟨d,op,some (s,want)⟩::l,b::bs,T,H=>XI (T.getD s .un) want (match Yd b op T H with
  |some (c,v,H')=>c.holds/\vdy k l bs (put T d v) H'
  |none=>∃v H',HS P E ⟨d,op,some (s,want)⟩ T H v H' (JbV b)/\vdy k l bs (put T d v) H') (vdy k l bs (put T d (.tup [])) H)
def vdyR (r:Option (Cond×CV×Lv))(d:Option Nat)(op:IOp)(g:Option (Nat×Bool))(b:Nat)(k:LM)(l:LD)(bs:LB)(T:Lu)(H:Lv):Prop:=
 match r with
 |some (c,v,H')=>c.holds/\vdy P E n0 N Q k l bs (put T d v) H'
 |none=>∃v H',HS P E ⟨d,op,g⟩ T H v H' (JbV b)/\vdy P E n0 N Q k l bs (put T d v) H'
end
section
variable{E:Env}{N:Fr}{k:LM}{l:LD}{bs:LB}
theorem vy_nil:vdy P E n0 N Q k [] bs T H=KD P E n0 N Q k T H:=propext (by cases bs <;> exact Iff.rfl)
theorem vy_op:vdy P E n0 N Q k (⟨d,op,none⟩::l) (b::bs) T H=vdyR P E n0 N Q (Yd b op T H) d op none b k l bs T H:=propext Iff.rfl
theorem vy_gop{s:Nat}{want:Bool}:vdy P E n0 N Q k (⟨d,op,some (s,want)⟩::l) (b::bs) T H=XI (T.getD s .un) want (vdyR P E n0 N Q (Yd b op T H) d op (some (s,want)) b k l bs T H) (vdy P E n0 N Q k l bs (put T d (.tup [])) H):=propext Iff.rfl
theorem vdyR_some{c:Cond}:vdyR P E n0 N Q (some (c,v,H')) d op g b k l bs T H=(c.holds/\vdy P E n0 N Q k l bs (put T d v) H'):=propext Iff.rfl
theorem vdy_look {T':Lu}{H':Lv}(hT:T=T')(hH:H=H'):vdy P E n0 N Q k l bs T H=vdy P E n0 N Q k l bs T' H':=by rw[hT,hH]
theorem vdyR_look {r r':Option (Cond×CV×Lv)}(h:r=r'):vdyR P E n0 N Q r d op g b k l bs T H=vdyR P E n0 N Q r' d op g b k l bs T H:=by rw[h]
attribute [congr] vdy_look vdyR_look
theorem Jdv{c:Cond}(hg:GOk T g)(he:JgK b op T H=some (c,v,H'))(hc:c.holds):HS P E ⟨d,op,g⟩ T H v H' (footQ b):=by
 unfold JgK at he;unfold footQ
 split at he
 ·rename_i h;rw[if_pos h];unfold Je9 at he;rw[if_neg vk]at he
  split at he
  ·rename_i hs
   split at he
   ·rename_i c' v' h1;simp only[Gt,Gu]at he;obtain⟨rfl,rfl,rfl⟩:=he;exact JbY λH2=>.inr ⟨hg,.inl ⟨_,JhW hs h1 H2,hc⟩⟩
   ·cases he
  ·cases he
 ·rename_i h;rw[if_neg h]
  split at he
  ·rename_i h1;rw[if_pos h1]
   split at he
   ·rename_i h2;obtain rfl:=looks_heap h2 he;exact hs_ro hg he hc
   ·cases he
  ·rename_i h1;rw[if_neg h1];exact hs_op hg he hc
theorem xexecY_sound{c:Cond}(hg:GOk T g)(he:Yd b op T H=some (c,v,H'))(hc:c.holds):HS P E ⟨d,op,g⟩ T H v H' (JbV b):=by
 unfold Yd at he
 split at he
 ·cases he
 rename_i hb;unfold JbV
 split at he
 ·rename_i h4;rw[if_pos h4]
  split at he
  ·rename_i id hl
   split at he
   ·rename_i h5;obtain⟨rfl,_⟩:=low_exec hl he rfl;refine⟨λ_ _=>rfl,λT2 H2 ag hx=>⟨H2,λy hy=>(by cases hy),λ_ _=>rfl,λ_ _ _ _ _ Ao=>?_⟩⟩;have hH:H2[id]? = H'[id]?:=by have:=hx (id+1) (by simp only[Foot.has,GA,G8,or_false];omega);simpa [hat]using this
    exact JeY (Yh ag hg) (by rw[<-QG (Jj ag).2];exact(low_exec hl he hH).2) hc Ao
   ·cases he
  ·cases he
 ·rename_i h4;rw[if_neg h4,iN7,if_neg hb]
  split at he
  ·rename_i h;obtain⟨rfl,h2⟩:=h;obtain⟨rfl,h3⟩:=still_exec h2 he;exact JbY λH2=>.inr ⟨hg,.inl ⟨_,h3 H2,hc⟩⟩
  ·exact Jdv hg he hc
theorem hs_no0{f:Foot×Foot}(h:HS P E io T H v H Foot.no)(hf:(∀x,f.2.has x->f.1.has x)):HS P E io T H v H f:=by
 refine⟨λ_ _=>rfl,λT2 H2 ha hx=>?_⟩;obtain⟨H3,_,h2,h3⟩:=h.run T2 H2 ha λy hy=>(by cases hy)
 exact⟨H3,λy hy=>(h2 y λhy=>(by cases hy)).trans (hx y (hf y hy)),λy _=>h2 y λhy=>(by cases hy),h3⟩
theorem footY_sub:∀x,(JbV b).2.has x->(JbV b).1.has x:=λx=>by
 unfold JbV
 split
 ·intro h;cases h
 ·split
  ·exact id
  ·split
   ·exact id
   ·unfold footQ
    split
    ·exact id
    ·split
     ·intro h;cases h
     ·exact id
theorem vdy_vals:∀(l:LD) (bs:LB) (T:Lu) (H:Lv),vdy P E n0 N Q k l bs T H->l.length=bs.length->∃(v:Nat->CV) (hh:Nat->Lv),hh 0=H/\(∀j,j<l.length->HS P E (Q6 l j) (tst l v T j) (hh j) (v j) (hh (j+1)) (Xo (bs.map JbV) j))/\KD P E n0 N Q k (tst l v T l.length) (hh l.length)
 |[],bs,T,H,h,_=>⟨λ_=>.un,λ_=>H,rfl,sM,by rw[vy_nil]at h;exact h⟩
 |io::l,[],T,H,h,hl=>by simp at hl
 |io::l,b::bs,T,H,h,hl=>by
  have Fj:∃v0 H',HS P E io T H v0 H' (JbV b)/\vdy P E n0 N Q k l bs (put T io.dst v0) H':=by
   obtain⟨d,op,g⟩:=io;have hR:∀{g:Option (Nat×Bool)},GOk T g->vdyR P E n0 N Q (Yd b op T H) d op g b k l bs T H->∃v0 H',HS P E ⟨d,op,g⟩ T H v0 H' (JbV b)/\vdy P E n0 N Q k l bs (put T d v0) H':=λhg h=>by
    unfold vdyR at h
    split at h
    ·rename_i c v H' he;exact⟨v,H',xexecY_sound hg he h.1,h.2⟩
    ·exact h
   cases g with
   |none=>rw[vy_op]at h;exact hR (.inl rfl) h
   |some g=>
    obtain⟨s,want⟩:=g;rw[vy_gop]at h;unfold XI at h
    split at h
    ·rename_i t ht;by_cases hw:t=want
     ·exact hR (.inr ⟨s,want,rfl,by rw[ht,hw]⟩) (h.1 hw)
     ·have EH:t = !want:=by cases t <;> cases want <;> first|rfl|exact absurd rfl hw
      exact⟨.tup [],H,hs_no0 (JbY λH2=>.inl ⟨s,want,rfl,.inl (by rw[ht,EH]),rfl⟩) footY_sub,h.2 EH⟩
    ·rename_i ht;exact⟨.tup [],H,hs_no0 (JbY λH2=>.inl ⟨s,want,rfl,.inr ht,rfl⟩) footY_sub,h⟩
    ·exact h.elim
  obtain⟨v0,H',h1,h2⟩:=Fj;obtain⟨v,hh,h0,h3,h4⟩:=vdy_vals l bs _ _ h2 (by simpa using hl)
  let v':Nat->CV:=λj=>match j with|0=>v0|j+1=>v j
  let FJ:Nat->Lv:=λj=>match j with|0=>H|j+1=>hh j
  have key:∀j,tst (io::l) v' T (j+1)=tst l v (put T io.dst v0) j:=by
   intro j
   induction j with
   |zero=>rfl
   |succ j ih=>rw[tst,ih];rfl
  refine⟨v',FJ,rfl,λj hj=>?_,?_⟩
  ·cases j with
   |zero=>have e:FJ (0+1)=H':=h0;rw[e];exact h1
   |succ j=>rw[key];exact h3 j (by simpa using hj)
  ·rw[Gg,key];exact h4
theorem JH (bs:LB)(hm:P.follows .mixedOrders=true)(AP:(l.length == bs.length && (JaQ l.length es (clo es) && Qf l (clo es) (bs.map JbV)))=true)(h:vdy P E n0 N Q k l bs T H):Ok P E n0 N Q (.code (.dreg l es)::k) T H:=by simp only[Gv,beq_iff_eq]at AP;obtain⟨v,hh,h0,h1,h2⟩:=vdy_vals l bs T H h AP.1;exact Jhw AP.2.1 hm AP.2.2 h1 h0 (JD _ _ _ h2)
theorem Jdx(hg:GOk T g)(Ah:Fn P f (xa.map (Kg T)) v)(h:vdy P E n0 N Q k l bs (put T d v) H):vdyR P E n0 N Q none d (.call f xa) g 0 k l bs T H:=⟨v,H,hs_f hg Ah,h⟩
theorem JaB{H':Lv}(hg:GOk T g)(Ah:CallsC P E f (xa.map (Kg T)) H λv2 H2=>v2=v/\H2=H')(h:vdy P E n0 N Q k l bs (put T d v) H'):vdyR P E n0 N Q none d (.call f xa) g 2 k l bs T H:=⟨v,H',Je6 hg Ah,h⟩
theorem hs_pcall(hg:GOk T g)(Ah:Pure P E f (xa.map (Kg T)) H v):HS P E ⟨d,.call f xa,g⟩ T H v H (.all,.on []):=by
 have h:=Je6 (d:=d) hg Ah;refine⟨λ_ _=>rfl,λT2 H2 ag hx=>?_⟩;have hH:H2=H:=Jai λy=>hx y trivial
 obtain⟨H2',h1,_,h3⟩:=h.run T2 H2 ag λy _=>hx y trivial
 have bI:H2'=H:=Jai λy=>h1 y trivial
 subst hH bI;exact⟨_,λy hy=>(by cases hy),λ_ _=>rfl,h3⟩
theorem vy_p(hg:GOk T g)(Ah:Pure P E f (xa.map (Kg T)) H v)(h:vdy P E n0 N Q k l bs (put T d v) H):vdyR P E n0 N Q none d (.call f xa) g 1 k l bs T H:=⟨v,H,hs_pcall hg Ah,h⟩
theorem vy_new(id:Nat){c:Cond}(mk:Nat->CV)(o:CObj)(hg:GOk T g)(Oh:H.length=id)(he:∀H2,exec op T H2=some (c,mk H2.length,H2++[o]))(hc:c.holds)(Ab:id<1000)(h:vdy P E n0 N Q k l bs (put T d (mk id)) (H++[o])):vdyR P E n0 N Q none d op g (1000+id) k l bs T H:=by
 subst Oh;have hf:JbV (1000+H.length)=(.on [0,H.length+1],.on [0,H.length+1]):=by unfold JbV;rw[iN7,iN7,iP7,kU]
 refine⟨_,_,?_,h⟩;rw[hf];refine⟨λx hx=>?_,λT2 H2 ag hx=>?_⟩
 ·simp only[Foot.has,GA,G8,or_false,not_or]at hx
  cases x with
  |zero=>exact absurd rfl hx.1
  |succ x=>
   simp only[hat,Gu,and_true];have Ai:x≠H.length:=λe=>hx.2 (by rw[e])
   rcases Lf x H.length with h|h
   ·rw[Hz h]
   ·rw[Gw (by simp;omega),Gw h]
 ·have hl:H2.length=H.length:=by have:=hx 0 (by simp[Foot.has]);simpa [hat]using this
  refine⟨H2++[o],λx hx=>?_,λx hx=>?_,λ_ _ _ _ _ Ao=>JeY (c:=c) (v:=mk H2.length) (H':=H2++[o]) (Yh ag hg) (by rw[<-QG (Jj ag).2];exact he H2) hc (by rw[hl];exact Ao)⟩
  ·simp only[Foot.has,GA,G8,or_false]at hx;rcases hx with rfl|rfl
   ·simp[hat,hl]
   ·simp only[hat,Gu,and_true];rw[<-hl,GM (Gh _),hl,GM (Gh _)]
  ·simp only[Foot.has,GA,G8,or_false,not_or]at hx
   cases x with
   |zero=>exact absurd rfl hx.1
   |succ x=>
    simp only[hat,Gu,and_true];have Ai:x≠H2.length:=λe=>hx.2 (by rw[e,hl])
    rcases Lf x H2.length with h|h
    ·rw[Hz h]
    ·rw[Gw (by simp;omega),Gw h]
theorem vy_set(j:Nat){c:Cond}(o:CObj)(hg:GOk T g)(he:∀H2:Lv,H2[j]? = H[j]?->exec op T H2=some (c,v,H2.set j o))(hc:c.holds)(hj:j<H.length)(h:vdy P E n0 N Q k l bs (put T d v) (H.set j o)):vdyR P E n0 N Q none d op g (2000+j) k l bs T H:=by
 have hf:JbV (2000+j)=(.on [j+1],.on [j+1]):=by unfold JbV;rw[iN7,iP7,kU]
 have hs:∀(H:Lv) (x:Nat),x≠j+1->hat (H.set j o) x=hat H x:=λH x hx=>by
  cases x with
  |zero=>simp[hat]
  |succ i=>simp only[hat];rw[Gr om]
 refine⟨_,_,?_,h⟩;rw[hf];refine⟨λx hx=>hs H x (by simpa [Foot.has]using hx),λT2 H2 ag hx=>?_⟩;have hH:H2[j]? = H[j]?:=by have:=hx (j+1) (by simp[Foot.has]);simpa [hat]using this
 have D8:j<H2.length:=by rw[Gf hj]at hH;exact(GI.1 hH).1
 refine⟨H2.set j o,λx hx=>?_,λx hx=>hs H2 x (by simpa [Foot.has]using hx),λ_ _ _ _ _ Ao=>JeY (Yh ag hg) (by rw[<-QG (Jj ag).2];exact he H2 hH) hc Ao⟩;have:x=j+1:=by simpa [Foot.has]using hx
 subst this;simp only[hat];rw[Gn D8,Gn hj]
theorem YI{z n:Nat}{zero:Lu}{ps:List (Nat×IArg)}(els:LQ)(hg:GOk T g)(Az:Jk ((IOp.bslice z n zero ps).rd.map λs=>T.getD s .un)=true)(he:X7 T z (GR n zero) ps=some els)(hn:els.length=n)(hc:Jq els=true)(h:vdy P E n0 N Q k l bs (put T d (.rslc z els none)) H):vdyR P E n0 N Q none d (.bslice z n zero ps) g 0 k l bs T H:=by
 refine⟨_,H,JbY λH2=>.inr ⟨hg,.inr (.inr ⟨Az,rfl,.tt,.slc 0 0 n (some n),[.arr z els],0,z,els,?_,trivial,rfl,hc,?_⟩)⟩,h⟩
 ·simp[exec,he]
 ·subst hn;simp[frz]
end
theorem yexec0:Yd 0 op T H=if still op=true then exec op T H else Je9 false op T H:=by
 unfold Yd;rw[if_neg vk,if_neg vk];by_cases h:still op=true
 ·rw[if_pos ⟨rfl,h⟩,if_pos h]
 ·rw[if_neg (λx=>h x.2),if_neg h];rfl
theorem yexec1:Yd 1 op T H=if looks op=true then exec op T H else none:=by unfold Yd;rw[if_neg vk,if_neg vk,if_neg (λh=>by cases h.1)];rfl
theorem yexec2:Yd 2 op T H=exec op T H:=by unfold Yd;rw[if_neg vk,if_neg vk,if_neg (λh=>by cases h.1)];rfl
theorem yexec4:Yd 4 op T H=match low op T with|some id=>if id<5 then exec op T H else none|none=>none:=by unfold Yd;rw[if_neg vk,if_pos rfl]
theorem yexecN(h:1000<=b):Yd b op T H=none:=by unfold Yd;rw[if_pos h]
attribute [go_sem] yexec0 yexec1 yexec2 yexec4 still low
attribute [go_sem] vy_nil vy_op vy_gop vdyR_some
mutual
def refs:CV->LB
 |.slc j _ _ _=>[j]
 |.ptr j _ _=>[j]
 |.map j=>[j]
 |.fn _ l1 l2=>JeL l1++JeL l2
 |.iface _ c=>refs c
 |.agg l=>JeL l
 |.tup l=>JeL l
 |_=>[]
def JeL:Lu->LB
 |[]=>[]
 |c::cs=>refs c++JeL cs
end
def JeK:CObj->LB
 |.arr _ es=>es.flatMap JeL
 |.map kvs=>kvs.flatMap λp=>refs p.1++refs p.2
 |_=>[]
mutual
theorem Jcv {ρ:LB}:∀(c:CV),(∀i∈refs c,Jl i ρ 0=some i)->ren ρ c=c
 |.un,_=>rfl
 |.bool _,_=>rfl
 |.int _ _,_=>rfl
 |.str _,_=>rfl
 |.nilp,_=>rfl
 |.ptr j _ _,h=>by simp only[ren,h j (by simp[refs])]
 |.rptr _,_=>rfl
 |.nils,_=>rfl
 |.slc j _ _ _,h=>by simp only[ren,h j (by simp[refs])]
 |.rslc _ _ _,_=>rfl
 |.nilm,_=>rfl
 |.map j,h=>by simp only[ren,h j (by simp[refs])]
 |.fn _ l1 l2,h=>by simp only[ren,Jan l1 λi hi=>h i (by simp[refs,hi]),Jan l2 λi hi=>h i (by simp[refs,hi])]
 |.yld _,_=>rfl
 |.nilf,_=>rfl
 |.iface _ c,h=>by simp only[ren,Jcv c λi hi=>h i (by simpa [refs]using hi)]
 |.nili,_=>rfl
 |.agg l,h=>by simp only[ren,Jan l λi hi=>h i (by simpa [refs]using hi)]
 |.tup l,h=>by simp only[ren,Jan l λi hi=>h i (by simpa [refs]using hi)]
theorem Jan {ρ:LB}:∀(l:Lu),(∀i∈JeL l,Jl i ρ 0=some i)->JG ρ l=l
 |[],_=>rfl
 |c::cs,h=>by simp only[JG,Jcv c λi hi=>h i (by simp[JeL,hi]),Jan cs λi hi=>h i (by simp[JeL,hi])]
end
theorem ren_refsO {ρ:LB}(h:∀i∈JeK o,Jl i ρ 0=some i):Xn ρ o=o:=by
 cases o with
 |arr z es=>
  simp only[Xn]
  congr 1
  refine(HY λe he=>?_).trans (kV _);exact Jan e λi hi=>h i (by simp only[JeK,kX];exact⟨e,he,hi⟩)
 |map kvs=>
  simp only[Xn]
  congr 1
  refine(HY λp hp=>?_).trans (kV _);have h1:∀i∈refs p.1++refs p.2,Jl i ρ 0=some i:=λi hi=>h i (by simp only[JeK,kX];exact⟨p,hp,hi⟩)
  rw[Jcv p.1 λi hi=>h1 i (by simp[hi]),Jcv p.2 λi hi=>h1 i (by simp[hi])];rfl
 |dead=>rfl
 |ext s b=>rfl
def okId (H:Lv)(p i:Nat):Prop:=i<H.length/\(H[i]? = some .dead->i<p)
structure NoD (p:Nat)(T:Lu)(H:Lv):Prop where
 t:∀c∈T,∀i∈refs c,okId H p i
 h:∀o∈H,∀i∈JeK o,okId H p i
theorem mem_put{c:CV}(h:c∈put T d v):c=v\/c∈T:=by
 cases d with
 |none=>exact .inr h
 |some d=>exact(G5 h).symm
theorem JbI{i j:Nat}(ho:o.alive=true)(h:okId H p i):okId (H.set j o) p i:=by
 refine⟨by rw[Hd];exact h.1,λhd=>?_⟩;by_cases e:i=j
 ·subst e;rw[Gn h.1,Gt]at hd;subst hd;cases ho
 ·rw[Gr (λx=>e x.symm)]at hd;exact h.2 hd
section
variable (P:Program)(E:Env)(n0 p:Nat)(N:Fr)(Q:Exit->Lu->Lv->Prop)
structure HSI (io:IOper)(T:Lu)(H:Lv)(v:CV)(H':Lv)(f:Foot×Foot):Prop where
 out:∀x,¬f.2.has x->hat H' x=hat H x
 run:∀T2 H2,NoD p T2 H2->agree io.rd T T2->(∀x,f.1.has x->hat H2 x=hat H x)->∃H2',NoD p (put T2 io.dst v) H2'/\(∀x,f.2.has x->hat H2' x=hat H' x)/\(∀x,¬f.2.has x->hat H2' x=hat H2 x)/\
  ∀(N:Fr) (Q:Exit->Lu->Lv->Prop) (k:LM) (l:LD),Ok P E n0 N Q (.ops l::k) (put T2 io.dst v) H2'->Ok P E n0 N Q (.ops (io::l)::k) T2 H2
def JcM (b:Nat×LB):Foot×Foot:=match b.1 with
 |0=>(.on (b.2.map (· + 1)),.on [])
 |j+1=>(.on ((j+1)::b.2.map (· + 1)),.on [j+1])
def vdz (k:LM):LD->List (Nat×LB)->Lu->Lv->Prop
 |[],_,T,H=>KD P E n0 N Q k T H
 |_::_,[],_,_=>False
 |io::l,b::bs,T,H=>∃v H',HSI P E n0 p io T H v H' (JcM b)/\vdz k l bs (put T io.dst v) H'
end
section
variable{E:Env}{N:Fr}{k:LM}{l:LD}{fs:List (Foot×Foot)}{v:Nat->CV}{hh:Nat->Lv}{bs:List (Nat×LB)}
theorem Je7 (hv:∀j,j<l.length->HSI P E n0 p (Q6 l j) (tst l v T j) (hh j) (v j) (hh (j+1)) (Xo fs j)){a:Nat}:∀d,a+d<=l.length->(∀i,a<=i->i<a+d->¬(Xo fs i).2.has x)->hat (hh (a+d)) x=hat (hh a) x
 |0,_,_=>rfl
 |d+1,h,hn=>by
  have h1:=(hv (a+d) om).out x (hn (a+d) om om);have h2:=Je7 hv d om λi hi Dc=>hn i hi om
  rw[<-h2];exact h1
theorem any_orderI (ho:OrderedH l es fs)(hv:∀j,j<l.length->HSI P E n0 p (Q6 l j) (tst l v T j) (hh j) (v j) (hh (j+1)) (Xo fs j))(AA:Ok P E n0 N Q k (tst l v T l.length) (hh l.length)){S:Nat->Bool}{is:LB}(h:Sched l.length es S is) :
  ∀T' H',(∀i,i<l.length->S i=true->∀e∈es.getD i [],S e=true)->At l v T S T'->AtH l fs hh S H'->NoD p T' H'->Ok P E n0 N Q (.ops (is.map (Q6 l))::k) T' H':=by
 induction h with
 |nil hn=>
  rename_i S;intro T' H' Az hA hB _;have Aj:∀i,i<l.length->S i=true:=by
   intro i
   induction i using Le with
   |_ i ih=>
    intro hi
    cases hS:S i with
    |true=>rfl
    |false=>obtain⟨e,he,Ou⟩:=hn i hi hS;have Ab:=ho.base.lt i hi e he;have:=ih e Ab om;rw[this]at Ou;cases Ou
  have hH:H'=hh l.length:=Jai λx=>hB x l.length (Gh _) λi hi _=>⟨λ_=>hi,λ_=>Aj i hi⟩
  rw[hA.all ho.base Aj,hH];exact JbH AA
 |cons hi hS hr _ ih=>
  rename_i S j is Ex;intro T' H' Az hA hB hN;have key:∀i,i<l.length->i≠j->∀x,(Xo fs i).2.has x->((Xo fs j).1.has x\/(Xo fs j).2.has x)->(S i=true↔i<j):=by
   intro i Ae Ai x h1 h2;have h3:=ho.ord i j x Ae hi Ai h1 h2
   constructor
   ·intro EO;rcases h3 with h3|h3
    ·exact ho.base.lt j hi i h3
    ·have:=Az i Ae EO j h3;rw[hS]at this;cases this
   ·intro Ab;rcases h3 with h3|h3
    ·exact hr i h3
    ·have:=ho.base.lt i Ae j h3;omega
  obtain⟨H2',g0,g1,g2,g3⟩:=(hv j hi).run T' H' hN (hA.agree ho.base Az hi hS hr) (λx hx=>hB x j om λi Ae hw=>by
   by_cases Cv:i=j
   ·subst Cv;rw[hS];simp
   ·exact key i Ae Cv x hw (.inl hx))
  refine g3 N Q k _ (ih _ _ (λi Ae EO e he=>?_) (hA.step ho.base hi hS) ?_ g0)
  ·simp only[Lh,beq_iff_eq]at EO|-;rcases EO with h|h
   ·exact .inl (Az i Ae h e he)
   ·subst h;exact .inl (hr e he)
  ·intro x m hm hw;by_cases hx:(Xo fs j).2.has x
   ·rw[g1 x hx];have Ux:j<m:=(hw j hi hx).1 sM;have hc:=Je7 hv (x:=x) (a:=j+1) (m-(j+1)) om (λi h1 h2 Dq=>by
     have Ae:i<l.length:=om;have h4:=(hw i Ae Dq).2 om;have Ai:i≠j:=om;have h5:S i=true:=by simpa [Ai]using h4
     have:=(key i Ae Ai x Dq (.inr hx)).1 h5;omega)
    have e:j+1+(m-(j+1))=m:=om;rw[e]at hc;exact hc.symm
   ·rw[g2 x hx];refine hB x m hm λi Ae Dq=>?_
    have Ai:i≠j:=λe=>hx (e▸Dq)
    have:=hw i Ae Dq;simpa [Ai]using this
theorem vdz_vals:∀(l:LD) (bs:List (Nat×LB)) (T:Lu) (H:Lv),vdz P E n0 p N Q k l bs T H->l.length=bs.length->∃(v:Nat->CV) (hh:Nat->Lv),hh 0=H/\(∀j,j<l.length->HSI P E n0 p (Q6 l j) (tst l v T j) (hh j) (v j) (hh (j+1)) (Xo (bs.map JcM) j))/\KD P E n0 N Q k (tst l v T l.length) (hh l.length)
 |[],bs,T,H,h,_=>⟨λ_=>.un,λ_=>H,rfl,sM,by cases bs <;> exact h⟩
 |io::l,[],T,H,h,hl=>by simp at hl
 |io::l,b::bs,T,H,h,hl=>by
  obtain⟨v0,H',h1,h2⟩:=h;obtain⟨v,hh,h0,h3,h4⟩:=vdz_vals l bs _ _ h2 (by simpa using hl)
  let v':Nat->CV:=λj=>match j with|0=>v0|j+1=>v j
  let FJ:Nat->Lv:=λj=>match j with|0=>H|j+1=>hh j
  have key:∀j,tst (io::l) v' T (j+1)=tst l v (put T io.dst v0) j:=by
   intro j
   induction j with
   |zero=>rfl
   |succ j ih=>rw[tst,ih];rfl
  refine⟨v',FJ,rfl,λj hj=>?_,?_⟩
  ·cases j with
   |zero=>have e:FJ (0+1)=H':=h0;rw[e];exact h1
   |succ j=>rw[key];exact h3 j (by simpa using hj)
  ·rw[Gg,key];exact h4
theorem vr_dregZ (p:Nat)(bs:List (Nat×LB))(hm:P.follows .mixedOrders=true)(AP:(l.length == bs.length && (JaQ l.length es (clo es) && Qf l (clo es) (bs.map JcM)))=true)(hN:NoD p T H)(h:vdz P E n0 p N Q k l bs T H):Ok P E n0 N Q (.code (.dreg l es)::k) T H:=by
 simp only[Gv,beq_iff_eq]at AP;obtain⟨v,hh,h0,h1,h2⟩:=vdz_vals l bs T H h AP.1;refine ok_draw hm λis hs=>?_
 refine any_orderI (Jaf AP.2.2) h1 (JD _ _ _ h2) (JeA AP.2.1 hs λ_ _ h=>by cases h) T H (λ_ _ h=>by cases h) ⟨rfl,λ_ _=>rfl,λ_ _ _ h=>by cases h⟩ (λx m hm hw=>?_) hN;have hc:=Je7 h1 (x:=x) (a:=0) m om (λi _ h2 Dq=>by
  have:=(hw i om Dq).2 om
  cases this)
 rw[Gm]at hc;rw[hc,h0]
theorem YH{c:Cond}{v:CV}(hg:io.guard=none)(he:JgK 0 io.op T H=some (c,v,H))(hc:c.holds)(hr:refs v=R)(hR:∀i∈R,okId H p i)(h:vdz P E n0 p N Q k l bs (put T io.dst v) H):vdz P E n0 p N Q k (io::l) ((0,R)::bs) T H:=by
 refine⟨v,H,⟨λ_ _=>rfl,λT2 H2 hN ha hx=>?_⟩,h⟩;have hs:=Jdv (P:=P) (E:=E) (d:=io.dst) (g:=io.guard) (.inl hg) he hc;obtain⟨H3,_,h2,h3⟩:=hs.run T2 H2 ha λy hy=>(by cases hy)
 have hH:H3=H2:=Jai λy=>h2 y λhy=>(by cases hy)
 subst hH;refine⟨H3,⟨λc hc i hi=>?_,hN.h⟩,λy hy=>(by cases hy),λ_ _=>rfl,λN Q k l Ao=>h3 n0 N Q k l Ao⟩;rcases mem_put hc with rfl|hc
 ·rw[hr]at hi;have h4:=hR i hi;have h5:=hx (i+1) (by simp only[JcM,Foot.has,Lb];exact⟨i,hi,rfl⟩);simp only[hat,Gu,and_true]at h5;have h6:i<H3.length:=by have:=Gf h4.1;rw[this]at h5;exact(GI.1 h5).1
  exact⟨h6,λhd=>h4.2 (by rw[<-h5];exact hd)⟩
 ·exact hN.t c hc i hi
theorem JhG {H:Lv}{j:Nat}(h:x≠j+1):hat (H.set j o) x=hat H x:=by
 cases x with
 |zero=>simp[hat]
 |succ i=>simp only[hat];rw[Gr om]
theorem okId_foot{H2:Lv}{j:Nat}(hR:∀i∈R,okId H p i)(hx:∀x,(JcM (j+1,R)).1.has x->hat H2 x=hat H x):∀i∈R,okId H2 p i:=λi hi=>by
 have h4:=hR i hi;have h5:=hx (i+1) (by simp only[JcM,Foot.has,GA,Lb];exact .inr ⟨i,hi,rfl⟩);simp only[hat,Gu,and_true]at h5;have h6:i<H2.length:=by have:=Gf h4.1;rw[this]at h5;exact(GI.1 h5).1
 exact⟨h6,λhd=>h4.2 (by rw[<-h5];exact hd)⟩
theorem hat_at{H2:Lv}{j:Nat}(hx:∀x,(JcM (j+1,R)).1.has x->hat H2 x=hat H x):H2[j]? = H[j]?:=by have h5:=hx (j+1) (by simp[JcM,Foot.has]);simpa [hat]using h5
theorem JaT (j:Nat){c:Cond}(mk:Nat->CV)(o:CObj)(hg:io.guard=none)(he:∀H2,exec io.op T H2=some (c,mk H2.length,H2++[o]))(hc:c.holds)(F8:∀ρ id i,Jl id ρ 0=some i->ren ρ (mk id)=mk i)(IE:refs (mk j)=[j])(ho:o.alive=true)(hj:H[j]? = some .dead)(kg:p<=j)(hn:n0<=p)(hr:JeK o=R)(hR:∀i∈R,okId H p i)(h:vdz P E n0 p N Q k l bs (put T io.dst (mk j)) (H.set j o)):vdz P E n0 p N Q k (io::l) ((j+1,R)::bs) T H:=by
 have A8:=(GI.1 hj).1;refine⟨mk j,H.set j o,⟨λx hx=>JhG λe=>hx (by simp[JcM,Foot.has,e]),λT2 H2 hN ha hx=>?_⟩,h⟩;have D8:H2[j]? = some .dead:=by rw[hat_at hx,hj]
 have E9:=(GI.1 D8).1;have Ph:=okId_foot hR hx;have Ai:∀i,okId H2 p i->i≠j:=λi hi e=>by subst e;have:=hi.2 D8;omega
 have Oh:∀i,i<H2.length->i≠j->Jl i ((Gb H2.length).set j H2.length) 0=some i:=λi hi Cv=>by
  have h1:((Gb H2.length).set j H2.length)[i]? = some i:=by rw[Gr (λe=>Cv e.symm),Gx hi]
  have key:∀(ρ:LB) (a b:Nat),ρ[b]? = some i->(∀m,m<b->ρ[m]?≠some i)->Jl i ρ a=some (a+b):=by
   intro ρ
   induction ρ with
   |nil=>intro a b h;simp at h
   |cons q ρ ih=>
    intro a b h hm
    cases b with
    |zero=>simp at h;simp[Jl,h]
    |succ b=>
     have hq:q≠i:=λe=>hm 0 om (by simp[e])
     rw[Jl,if_neg hq,ih (a+1) b (by simpa using h) λm Co hh=>hm (m+1) om (by simpa using hh)]
     congr 1;omega
  rw[key _ 0 i h1 λm hm hh=>?_,Gm];by_cases e:m=j
  ·subst e;rw[Gn (by simpa using E9),Gt]at hh;omega
  ·rw[Gr (λx=>e x.symm),Gx om,Gt]at hh;omega
 have ig:Jl H2.length ((Gb H2.length).set j H2.length) 0=some j:=by
  have key:∀(ρ:LB) (a b x:Nat),ρ[b]? = some x->(∀m,m<b->ρ[m]?≠some x)->Jl x ρ a=some (a+b):=by
   intro ρ
   induction ρ with
   |nil=>intro a b x h;simp at h
   |cons q ρ ih=>
    intro a b x h hm
    cases b with
    |zero=>simp at h;simp[Jl,h]
    |succ b=>
     have hq:q≠x:=λe=>hm 0 om (by simp[e])
     rw[Jl,if_neg hq,ih (a+1) b x (by simpa using h) λm Co hh=>hm (m+1) om (by simpa using hh)]
     congr 1;omega
  rw[key _ 0 j H2.length (Gn (by simpa using E9)) λm hm hh=>?_,Gm];rw[Gr om,Gx om,Gt]at hh;omega
 refine⟨H2.set j o,⟨λc hc i hi=>?_,λo' Z8 i hi=>?_⟩,λx Bg=>?_,λx Bg=>JhG λe=>Bg (by simp[JcM,Foot.has,e]),λN Q k l Ao=>?_⟩
 ·rcases mem_put hc with rfl|hc
  ·rw[IE,List.mem_singleton]at hi;subst hi;refine⟨by rw[Hd];exact E9,λhd=>?_⟩;rw[Gn E9,Gt]at hd;subst hd;cases ho
  ·exact JbI ho (hN.t c hc i hi)
 ·rcases G5 Z8 with h1|rfl
  ·exact JbI ho (hN.h o' h1 i hi)
  ·rw[hr]at hi;exact JbI ho (Ph i hi)
 ·have:x=j+1:=by simpa [JcM,Foot.has]using Bg
  subst this;simp only[hat];rw[Gn E9,Gn A8]
 ·refine JeY (c:=c) (v:=mk H2.length) (H':=H2++[o]) (.inl hg) (by rw[<-QG (Jj ha).2];exact he H2) hc ?_;refine Jga (ρ:=(Gb H2.length).set j H2.length) ⟨?_,λi hi=>?_,λi hi=>?_⟩ ?_
  ·refine GZ.2 λa b ha hb SK=>?_
   rw[Hd,G7]at ha hb;rw[H7,H7,HZ,HZ]
   split <;> split <;> omega
  ·rw[Lp];rcases G5 hi with h1|rfl
   ·have:=Hf.1 h1;omega
   ·simp
  ·rw[Gr om,Gx om]
  ·have e1:JG ((Gb H2.length).set j H2.length) (put T2 io.dst (mk H2.length))=put T2 io.dst (mk j):=by
    have h0:JG ((Gb H2.length).set j H2.length) T2=T2:=by
     have:∀l:Lu,(∀c∈l,ren ((Gb H2.length).set j H2.length) c=c)->JG ((Gb H2.length).set j H2.length) l=l:=by
      intro l
      induction l with
      |nil=>intro _;rfl
      |cons c l ih=>intro hl;rw[JG,hl c sM,ih λc hc=>hl c (by simp[hc])]
     exact this T2 λc hc=>Jcv c λi hi=>Oh i (hN.t c hc i hi).1 (Ai i (hN.t c hc i hi))
    cases hd:io.dst with
    |none=>exact h0
    |some d=>
     have:∀(l:Lu) (d:Nat),JG ((Gb H2.length).set j H2.length) (l.set d (mk H2.length))=(JG ((Gb H2.length).set j H2.length) l).set d (mk j):=by
      intro l
      induction l with
      |nil=>intro d;rfl
      |cons c l ih=>
       intro d
       cases d with
       |zero=>simp only[Gz,JG,F8 _ _ _ ig]
       |succ d=>simp only[GK,JG,ih]
     show JG _ (T2.set d (mk H2.length))=T2.set d (mk j);rw[this,h0]
   have e2:KE ((Gb H2.length).set j H2.length) (H2++[o])=H2.set j o:=by
    refine Ls λa=>?_
    simp only[KE,GG];by_cases Dp:a<H2.length
    ·by_cases e:a=j
     ·subst e;rw[Gn (by simpa using Dp),Gn Dp];simp only[Ho,Ga,GM (Gh _),V5,Lj,GD];rw[ren_refsO λi hi=>by rw[hr]at hi;exact Oh i (Ph i hi).1 (Ai i (Ph i hi))]
     ·rw[Gr (λx=>e x.symm),Gx Dp,Gr (λx=>e x.symm)];simp only[Ho,Ga,Hz Dp,Gf Dp,GD];rw[ren_refsO λi hi=>Oh i (hN.h _ (Gp Dp) i hi).1 (Ai i (hN.h _ (Gp Dp) i hi))]
    ·rw[Gw (by simp;omega),Gw (by simp;omega)];rfl
   rw[e1,e2];exact Ao
theorem vz_set (j:Nat){c:Cond}{v:CV}(o:CObj)(hg:io.guard=none)(he:∀H2:Lv,H2[j]? = H[j]?->exec io.op T H2=some (c,v,H2.set j o))(hc:c.holds)(hv:refs v=[])(ho:o.alive=true)(hr:JeK o=R)(hR:∀i∈R,okId H p i)(A8:j<H.length)(h:vdz P E n0 p N Q k l bs (put T io.dst v) (H.set j o)):vdz P E n0 p N Q k (io::l) ((j+1,R)::bs) T H:=by
 refine⟨v,H.set j o,⟨λx hx=>JhG λe=>hx (by simp[JcM,Foot.has,e]),λT2 H2 hN ha hx=>?_⟩,h⟩;have D8:=hat_at hx;have E9:j<H2.length:=by rw[Gf A8]at D8;exact(GI.1 D8).1
 have Ph:=okId_foot hR hx;refine⟨H2.set j o,⟨λc hc i hi=>?_,λo' Z8 i hi=>?_⟩,λx Bg=>?_,λx Bg=>JhG λe=>Bg (by simp[JcM,Foot.has,e]),λN Q k l Ao=>JeY (.inl hg) (by rw[<-QG (Jj ha).2];exact he H2 D8) hc Ao⟩
 ·rcases mem_put hc with rfl|hc
  ·rw[hv]at hi;cases hi
  ·exact JbI ho (hN.t c hc i hi)
 ·rcases G5 Z8 with h1|rfl
  ·exact JbI ho (hN.h o' h1 i hi)
  ·rw[hr]at hi;exact JbI ho (Ph i hi)
 ·have:x=j+1:=by simpa [JcM,Foot.has]using Bg
  subst this;simp only[hat];rw[Gn E9,Gn A8]
end
end Go.Cm
end
section
set_option maxRecDepth 100000
set_option maxHeartbeats 4000000
open Go.Proofs
namespace Go.Cm
variable {P:Program}{E:Env}{H H' X:Lv}{f i m n n0 z:Nat}{res v v0:CV}{gm l si sp sr:TL}{a:Option TyX}{k:Int}{ρ:LB}{e els:LQ}{S' Z:FS}{t:Tr}{got:List TL}{w:LA}{F:IFunc}{Q:Exit->Lu->Lv->Prop}{d:Option Nat}{ge:Option (Nat×Bool)}{ks o:Lx}{L:Nat->TL}{r:Option TL}
section
inductive Fnl (n0:Nat)(v0:CV)(H0:Lv):CV->Lv->Prop
 |done {v:CV}:wk v v0->Fnl n0 v0 H0 v H0
 |frz {v:CV} {H:Lv} (id z:Nat) (els:LQ):H[id]? = some (.arr z els)->Jq els=true->Fnl n0 v0 H0 (Go.Cm.frz id z els v) (KC id z els H)->Fnl n0 v0 H0 v H
 |ren {v:CV} {H:Lv} (ρ:LB):Jde ρ n0 H.length=true->Fnl n0 v0 H0 (Go.Cm.ren ρ v) (KE ρ H)->Fnl n0 v0 H0 v H
theorem CallsC.fnl{args:Lu}{H0:Lv}(h:CallsC P E f args H λv H'=>Fnl H.length v0 H0 v H'):CallsC P E f args H λv H'=>v=v0/\H'=H0:=by
 intro m w vs hs hv;refine(h m w vs hs hv).mono ?_;rintro e w' ⟨r,m',v,H',h1,h2,h3,h4,g⟩;subst h1
 induction g generalizing m' with
 |done hw=>exact⟨r,m',v0,_,rfl,h2,h3,hw _ _ _ h4,rfl,rfl⟩
 |frz id z els g1 g2 _ ih=>obtain⟨imm',AB,he,hf⟩:=Sim.freeze (n0:=H.length) h3 g1 g2;exact ih _ (h2.trans he) AB (hf _ _ h4)
 |ren ρ g1 _ ih=>have Ad:=h2.long (by rw[hs.len];exact Gh _);rw[h3.len]at Ad;obtain⟨own',AB,he,hf,_⟩:=Sim.ren (n0:=H.length) h3 (Q7 g1) Ad;exact ih _ (h2.trans he) AB (hf _ _ h4)
def txz (l:TL):LQ:=l.map λa=>[S (tyT a)]
def txV (l:TL):CV:=.rslc 1 (txz l) none
def gz (l:List TL):LQ:=l.map λx=>[txV x]
def bqz (l:LK):LQ:=l.map λb=>[.bool b]
def kz (l:List (Nat×Bool)):List (CV×CV):=l.map λp=>(.int .i64 (p.1:Int),.bool p.2)
theorem KL:(txz l).length=l.length:=by simp[txz]
theorem QB {l:List TL}:(gz l).length=l.length:=by simp[gz]
theorem Jci {l:LK}:(bqz l).length=l.length:=by simp[bqz]
theorem JI:∀(l:TL),Jq (txz l)=true
 |[]=>rfl
 |_::l=>JI l
theorem KP:∀(l:List TL),Jq (gz l)=true
 |[]=>rfl
 |_::l=>KP l
theorem Qu:∀(l:LK),Jq (bqz l)=true
 |[]=>rfl
 |_::l=>Qu l
theorem X3(h:i<l.length):(txz l).getD i []=[S (tyT (l.getD i .int))]:=by simp[txz,Ga,Gf h]
theorem KV {l:List TL}(h:i<l.length):(gz l).getD i []=[txV (Jr l i)]:=by simp[gz,Jr,Ga,Gf h]
theorem Jcj {l:LK}(h:i<l.length):(bqz l).getD i []=[.bool (l.getD i false)]:=by simp[bqz,Ga,Gf h]
theorem gz_set {l:List TL}{x:TL}:(gz l).set i [txV x]=gz (l.set i x):=by simp[gz,kW]
theorem Jh4 {l:LK}{b:Bool}:(bqz l).set i [.bool b]=bqz (l.set i b):=by simp[bqz,kW]
theorem keyN {x a:Nat}:JaX .int (.int .i64 (x:Int)) (.int .i64 (a:Int))=some (x == a):=by
 simp only[JaX,if_true]
 congr 1
 rw[GX,beq_iff_eq,beq_iff_eq];exact Int.ofNat_inj
theorem JaJ {k:Nat}:∀(l:List (Nat×Bool)) (i:Nat),(QZ .int (.int .i64 (k:Int)) (kz l) i=some none/\J6 l k=false/\∀b,kz l++[(.int .i64 (k:Int),.bool b)]=kz (Xz k b l))\/(∃j,QZ .int (.int .i64 (k:Int)) (kz l) i=some (some (i+j,.bool (J6 l k)))/\∀b,(kz l).set j (.int .i64 (k:Int),.bool b)=kz (Xz k b l))
 |[],i=>.inl ⟨rfl,rfl,λ_=>rfl⟩
 |(a,c)::l,i=>by
  by_cases h:a=k
  ·subst h;have e:JaX .int (.int .i64 (a:Int)) (.int .i64 (a:Int))=some true:=by rw[keyN,beq_self_eq_true]
   refine .inr ⟨0,?_,λb=>?_⟩
   ·simp only[kz,Gj,QZ,e,J6,if_pos,Nat.add_zero]
   ·simp only[kz,Gj,Gz,Xz,if_pos]
  ·have e:JaX .int (.int .i64 (k:Int)) (.int .i64 (a:Int))=some false:=by rw[keyN,beq_false_of_ne (λe=>h e.symm)]
   rcases JaJ l (i+1) with ⟨h1,h2,h3⟩|⟨j,h1,h3⟩
   ·refine .inl ⟨?_,by rw[J6,if_neg h];exact h2,λb=>?_⟩
    ·simp only[kz,Gj,QZ,e];exact h1
    ·rw[Xz,if_neg h];show (_::(kz l++_))=(_::kz (Xz k b l));rw[h3]
   ·refine .inr ⟨j+1,?_,λb=>?_⟩
    ·simp only[kz,Gj,QZ,e,J6,if_neg h];rw[show i+(j+1)=i+1+j by omega];exact h1
    ·rw[Xz,if_neg h];show (_::(kz l).set j _)=(_::kz (Xz k b l));rw[h3]
structure FT0 where
 t:Tr
 of:Lx
 up:Lx
 fi:Lx
variable (K:FT0)(S:FS)
def fRow (b:Option Nat):Lu:=[.rslc 5 (ndz K.t.nodes) none,.rslc 1 (iz K.t.items) none,.rslc 1 (iz K.of) none,.rslc 1 (iz K.up) none,.rslc 1 (iz K.fi) none,.slc 1 0 K.t.nodes.length (some K.t.nodes.length),.slc 2 0 K.t.nodes.length (some K.t.nodes.length),.map 3,.map 4,.int .i64 ((b.getD 0:Nat):Int),.bool b.isSome]
def hpF (X:Lv):Lv:=.arr 11 [fRow K S.bad] :: .arr 1 (gz S.got) :: .arr 1 (bqz S.dn) :: .map (kz S.fd) :: .map (kz S.fg)::X
variable {K S}
theorem ren_kz {l:List (Nat×Bool)}:(kz l).map (λp=>(ren ρ p.1,ren ρ p.2))=kz l:=by unfold kz;rw[GV];rfl
theorem ren_gz {l:List TL}:(gz l).map (JG ρ)=gz l:=Jc (KP l)
theorem ren_bqz {l:LK}:(bqz l).map (JG ρ)=bqz l:=Jc (Qu l)
theorem ren_hp:KE (0::1::2::3::4::ρ) (hpF K S X)=hpF K S (ρ.map λid=>Xn (0::1::2::3::4::ρ) ((hpF K S X).getD id .dead)):=by
 have h1:Xn (0::1::2::3::4::ρ) (.arr 1 (gz S.got))=.arr 1 (gz S.got):=by rw[Jo,ren_gz]
 have h2:Xn (0::1::2::3::4::ρ) (.arr 1 (bqz S.dn))=.arr 1 (bqz S.dn):=by rw[Jo,ren_bqz]
 have h3:Xn (0::1::2::3::4::ρ) (.map (kz S.fd))=.map (kz S.fd):=by rw[Jho,ren_kz]
 have h4:Xn (0::1::2::3::4::ρ) (.map (kz S.fg))=.map (kz S.fg):=by rw[Jho,ren_kz]
 have h0:Xn (0::1::2::3::4::ρ) (.arr 11 [fRow K S.bad])=.arr 11 [fRow K S.bad]:=rfl;show [Xn _ (.arr 11 [fRow K S.bad]),Xn _ (.arr 1 (gz S.got)),Xn _ (.arr 1 (bqz S.dn)),Xn _ (.map (kz S.fd)),Xn _ (.map (kz S.fg))]++_=_;rw[h0,h1,h2,h3,h4];rfl
theorem frz_fRow{id:Nat}{b:Option Nat}(h:5<=id):JK id z e (fRow K b)=fRow K b:=by
 have h1:¬1=id:=om;have h2:¬2=id:=om;simp only[fRow,JK,frz,if_neg h1,if_neg h2]
theorem frz_hp{id:Nat}:KC (id+5) z e (hpF K S X)=hpF K S ((X.map (Kn (id+5) z e)).set id .dead):=by
 have h3:∀l:List (Nat×Bool),(kz l).map (λp=>(frz (id+5) z e p.1,frz (id+5) z e p.2))=kz l:=λl=>by unfold kz;rw[GV];rfl
 have h0:=frz_fRow (K:=K) (id:=id+5) (z:=z) (e:=e) (b:=S.bad) om;simp only[hpF,KC,Gj,Gl,Kn,h0,h3,JJ (KP _),JJ (Qu _),GK]
theorem back_out {σ:LB}(hσ:σ=[0,1,2,3,4])(hH:H'.length=5):∀(X:Lv) (k:Nat),5<=k->YA σ n k H' X=X
 |[],k,_=>by subst hσ;rw[YA,Ll (by simp[hH])];rfl
 |o::X,k,hk=>by
  have h:Jl k σ 0=none:=by subst hσ;simp only[Jl];rw[iN7,iN7,iN7,iN7,iN7]
  rw[YA,h,back_out hσ hH X (k+1) om]
theorem back_hp:YA [0,1,2,3,4] n 0 (hpF K S' []) (hpF K S X)=hpF K S' X:=by
 have h1:=JbJ (τ:=tau [0,1,2,3,4] n) (z:=1) (KP S'.got);have h2:=JbJ (τ:=tau [0,1,2,3,4] n) (z:=1) (Qu S'.dn);have h3:∀l:List (Nat×Bool),moO (tau [0,1,2,3,4] n) (.map (kz l))=.map (kz l):=λl=>by show CObj.map ((kz l).map λp=>(mo _ p.1,mo _ p.2))=_;unfold kz;rw[GV];rfl
 have h0:moO (tau [0,1,2,3,4] n) (.arr 11 [fRow K S'.bad])=.arr 11 [fRow K S'.bad]:=rfl;show moO _ (.arr 11 [fRow K S'.bad])::moO _ (.arr 1 (gz S'.got))::moO _ (.arr 1 (bqz S'.dn))::moO _ (.map (kz S'.fd))::moO _ (.map (kz S'.fg))::YA [0,1,2,3,4] n 5 (hpF K S' []) X=_;rw[h0,h1,h2,h3,h3,back_out rfl rfl X 5 (Gh _)];rfl
def FMe (P:Program)(f:Nat)(args:Lu)(K:FT0)(S S':FS)(res:CV):Prop:=CallsC P Env.none f (.ptr 0 0 0::args) (hpF K S []) λv H'=>v=res/\H'=hpF K S' []
theorem FMe.on{args:Lu}(h:FMe P f args K S S' res)(ha:Jk args=true)(hr:res.closed=true):CallsC P E f (.ptr 0 0 0::args) (hpF K S X) λv H'=>v=res/\H'=hpF K S' X:=by
 refine(CallsC.loc [0,1,2,3,4] h ?_ ?_ ?_).mono ?_
 ·show ren _ (.ptr 0 0 0)::JG _ args=_;rw[Q8 args ha];rfl
 ·rw[ren_hp];rfl
 ·rfl
 ·rintro v H' ⟨v0,H0,⟨rfl,rfl⟩,rfl,rfl⟩;exact⟨JcA _ hr,back_hp⟩
theorem Fnl.out(hw:wk v v0)(hc:v.closed=true):Fnl 5 v0 (hpF K S []) v (hpF K S X):=by refine .ren [0,1,2,3,4] (by simp[Jde,hpF,H9]) ?_;rw[ren_hp,YD v hc];exact .done hw
theorem Fnl.one(id:Nat)(hX:X[id]? = some (.arr z els))(hc:Jq els=true)(Az:(Go.Cm.frz (id+5) z els v).closed=true)(hw:wk (Go.Cm.frz (id+5) z els v) v0):Fnl 5 v0 (hpF K S []) v (hpF K S X):=.frz (id+5) z els hX hc (by rw[frz_hp];exact Fnl.out hw Az)
theorem Fnl.more(id:Nat)(hX:X[id]? = some (.arr z els))(hc:Jq els=true)(h:Fnl 5 v0 (hpF K S []) (Go.Cm.frz (id+5) z els v) (hpF K S ((X.map (Kn (id+5) z els)).set id .dead))):Fnl 5 v0 (hpF K S []) v (hpF K S X):=.frz (id+5) z els hX hc (by rw[frz_hp];exact h)
theorem Kk{args:Lu}(h:CallsC P Env.none f (.ptr 0 0 0::args) (hpF K S []) λv H'=>Fnl 5 res (hpF K S' []) v H'):FMe P f args K S S' res:=CallsC.fnl h
end
variable {K:FT0}
def opT:Option TyX->LA
 |none=>[]
 |some a=>tyT a
def Kz:TL->Option TyX
 |[a]=>some a
 |_=>none
theorem XM{a:TyX}:Kz l=some a↔l=[a]:=by
 unfold Kz
 split
 ·simp
 ·rename_i h
  constructor
  ·intro h;cases h
  ·intro e;exact absurd e (h a)
theorem oneO_none(h:l.length≠1):Kz l=none:=by
 rcases l with _|⟨a,_|⟨b,l⟩⟩
 ·rfl
 ·exact absurd rfl h
 ·rfl
def prt:Option TyX->Option TyX
 |some (.arr b)=>some b
 |some (.str b)=>some b
 |_=>none
def isStr:Option TyX->Bool
 |some (.str _)=>true
 |_=>false
def Jca:Option TyX->Bool
 |some (.arr _)=>true
 |_=>false
theorem Je4:isStr a=true↔∃b,a=some (.str b):=by rcases a with _|a|a|a|a <;> simp[isStr]
theorem isArr_iff:Jca a=true↔∃b,a=some (.arr b):=by rcases a with _|a|a|a|a <;> simp[Jca]
theorem opT_inj{b:Option TyX}(h:opT a=opT b):a=b:=by
 rcases a with _|a <;> rcases b with _|b
 ·rfl
 ·exact absurd h.symm (Jes (a:=b))
 ·exact absurd h (Jes (a:=a))
 ·rw[Jet h]
theorem Jg3:∀a:TyX,(tyT a).length<=7*tyP a
 |.int=>by simp[tyT,tyP]
 |.bool=>by simp[tyT,tyP]
 |.arr a=>by have:=Jg3 a;simp[tyT,tyP];omega
 |.str a=>by have:=Jg3 a;simp[tyT,tyP,Xg];omega
theorem tyF_len:∀f i,tyP (tyF t f i)<=f+1
 |0,_=>by simp[tyF,tyP]
 |f+1,i=>by
  have h:=tyF_len f (Ju t i 0);rw[tyF]
  split
  ·simp[tyP]
  ·split
   ·simp[tyP]
   ·split <;> simp[tyP] <;> omega
theorem X0(h:i<1400):(tyT (tyN t i)).length<=10000:=by have h1:=Jg3 (tyN t i);have h2:=tyF_len (t:=t) (i+1) i;unfold tyN at h1|-;omega
theorem Yx(h:Qg l=true){a:TyX}(ha:a∈l):(tyT a).length<=140:=by unfold Qg at h;have:=GQ.1 h a ha;rw[decide_eq_true_eq]at this;have:=Jg3 a;omega
theorem Jbe(h:Qg l=true):(opT (Kz l)).length<=140:=by
 cases ho:Kz l with
 |none=>simp[opT]
 |some a=>have:=XM.1 ho;subst this;exact Yx h sM
theorem prt_len:(opT (prt a)).length<=(opT a).length:=by rcases a with _|a|a|a|a <;> simp[prt,opT,tyT] <;> omega
def areB (got:List TL)(w:LA)(ks:Lx):Bool:=ks.all λk=>match Kz (Jr got k.toNat) with
 |none=>false
 |some a=>tyT a == w
theorem JaR{a:TyX}:areB got (tyT a) [k]=(Jr got k.toNat == [a]):=by
 simp only[areB,Hg,Lc,Hu]
 cases ho:Kz (Jr got k.toNat) with
 |none=>
  symm
  rw[beq_eq_false_iff_ne];intro e;rw[e]at ho;cases ho
 |some b=>rw[XM.1 ho,GX,beq_iff_eq,beq_iff_eq];exact⟨λh=>by rw[Jet h],λh=>by cases h;rfl⟩
theorem are_cons{l:Lx}:areB got w (k::l)=(areB got w [k] && areB got w l):=by simp[areB]
theorem are_none:areB got [] [k]=false:=by
 simp only[areB,Hg,Lc,Hu]
 cases ho:Kz (Jr got k.toNat) with
 |none=>rfl
 |some b=>rw[beq_eq_false_iff_ne];exact Jes
theorem Jg5(h:i<l.length):l.take (i+1)=l.take i++[l.getD i .int]:=by rw[Hw h,Ga,Gf h];rfl
theorem equalTx (a b:TL)(ha:a.length<=100000):Fn Gc 142 [txV a,txV b] (.bool (a == b)):=by
 have Am:(txz a).length=a.length:=KL;have Bo:(txz b).length=b.length:=KL;refine Jb c142_ok rfl rfl λN=>?_
 by_cases hl:a.length=b.length
 ·have e1:((a.length:Int) != (b.length:Int))=false:=by simp[hl]
  simp only[c142,go_sem,txV,Am,Bo,e1];refine JL (I:=λi:Nat=>i<=a.length/\a.take i=b.take i) (inv:=λi=>gp [(0,.rslc 1 (txz a) none),(0,.rslc 1 (txz b) none),(10,.int .i64 (a.length:Int)),(0,.int .i64 (i:Int))] 12) (hp:=λ_=>[]) (μ:=λi=>a.length-i) 0 ⟨om,sM⟩ ?_ rfl ?_
  ·simp[forget,gp]
  ·rintro i ⟨hi,Aa⟩;by_cases Ab:i<a.length
   ·have d1:=dtT i a.length;have De:=X3 Ab;have Md:=X3 (l:=b) (i:=i) om;have U4:=Jg5 Ab;have U3:=Jg5 (l:=b) (i:=i) om;simp only[go_sem,d1];refine JQ Jm vk ?_;simp only[go_sem,Am,Bo,De,Md,JdB];refine⟨om,om,?_⟩;by_cases he:a.getD i .int=b.getD i .int
    ·have e2:(a.getD i .int == b.getD i .int)=true:=by rw[he];simp
     simp only[go_sem,e2];refine⟨Jg,i+1,⟨om,by rw[U4,U3,Aa,he]⟩,om,?_⟩;simp[forget]
    ·have e2:(a.getD i .int == b.getD i .int)=false:=by simpa using he
     have Ai:(a == b)=false:=by rw[beq_eq_false_iff_ne];rintro rfl;exact he rfl
     simp only[go_sem,e2,Ai]
   ·have d1:=dfF i a.length;have he:(a == b)=true:=by rw[beq_iff_eq];rw[GJ om,GJ om]at Aa;exact Aa
    simp only[go_sem,d1,he]
 ·have e1:((a.length:Int) != (b.length:Int))=true:=by simp;omega
  have he:(a == b)=false:=by rw[beq_eq_false_iff_ne];rintro rfl;exact hl rfl
  simp only[c142,go_sem,txV,Am,Bo,e1,he]
theorem cloneTx(hl:l.length<=100000):Fn Gc 32 [txV l] (txV l):=by
 cases l with
 |nil=>
  refine Jbk ?_ rfl rfl;refine Ki c32_ok λN=>?_
  simp only[c32,go_sem,txV,txz,Gl];refine ok_eqnil rfl λb=>?_
  cases b with
  |true=>simp only[go_sem];exact .inl wk.nils
  |false=>simp only[go_sem];exact .inr ⟨0,1,[],rfl,rfl,by simp[frz];exact wk.refl _⟩
 |cons x xs=>refine(Jef (Ki c32_ok λN=>?_) rfl (JI (x::xs))).fn rfl (JI _);have Ad:(txz xs).length=xs.length:=KL;simp only[Gg]at hl;simp only[c32,go_sem,txV,txz,Gj,JA];refine⟨by simp;omega,1,by rw[YL],rfl⟩
theorem indexTx(l:TL)(q:TyX->Bool)(hF:Jd Gc f=some F)(hq:∀p∈l,Fn Gc f [S (tyT p)] (.bool (q p)))(Ad:l.length<=100000):Fn Gc 148 [txV l,.fn f [] []] (.int .i64 (XG q l 0)):=by
 have Ae:(txz l).length=l.length:=KL;refine Jb c148_ok rfl rfl λN=>?_
 simp only[c148,go_sem,txV,Ae];refine JL (I:=λi:Nat=>i<=l.length/\XG q l 0=XG q (l.drop i) i) (inv:=λi=>gp [(0,.rslc 1 (txz l) none),(0,.fn f [] []),(5,.int .i64 l.length),(0,.int .i64 i)] 10) (hp:=λ_=>[]) (μ:=λi=>l.length-i) 0 ⟨om,rfl⟩ ?_ rfl ?_
 ·simp[forget,gp]
 ·rintro i ⟨hi,Aa⟩;by_cases Ab:i<l.length
  ·have d1:=dtT i l.length;have Ar:=X3 Ab;have BL:l[i]? = some (l.getD i .int):=by rw[Ga,Gf Ab];rfl
   have hm:l.getD i .int∈l:=List.mem_of_getElem? BL;rw[Xd BL]at Aa;simp only[go_sem,Ae,d1,Ar];refine anO ?_;refine vr_fv (.inl rfl) rfl hF nm (hq _ hm) ?_
   cases hb:q (l.getD i .int) with
   |true=>rw[hb,if_pos rfl]at Aa;simp only[go_sem,Aa]
   |false=>rw[hb]at Aa;simp only[go_sem];refine⟨Jg,i+1,⟨om,by simpa using Aa⟩,om,?_⟩;simp[forget]
  ·have d1:=dfF i l.length;rw[Ll om]at Aa;simp only[go_sem,d1,Aa,XG]
theorem containsTx(l:TL)(q:TyX->Bool)(hF:Jd Gc f=some F)(hq:∀p∈l,Fn Gc f [S (tyT p)] (.bool (q p)))(Ad:l.length<=100000):Fn Gc 91 [txV l,.fn f [] []] (.bool (l.any q)):=by
 refine Jb c91_ok rfl rfl λN=>?_
 simp only[c91,go_sem];refine JU (indexTx l q hF hq Ad) ?_;simp only[go_sem,Jaa]
theorem cutPrefix0 (l p:LA):Fn Gc 127 [S l,S p] (if l.take p.length=p then .tup [S (l.drop p.length),.bool true] else .tup [S l,.bool false]):=by
 refine Jb c127_ok rfl (by split <;> rfl) λN=>?_
 simp +contextual only[c127,go_sem];refine JU (Jgq _ _) ?_;simp +contextual only[go_sem];refine⟨λh=>?_,λh=>?_⟩
 ·simp at h;rw[if_neg h]
 ·simp at h;have hl:=congrArg Gs h;simp at hl;rw[if_pos h,Lt];exact⟨om,rfl⟩
theorem cutPrefix (l p:LA):Fn Gc 80 [S l,S p] (if l.take p.length=p then .tup [S (l.drop p.length),.bool true] else .tup [S l,.bool false]):=by
 refine Jb c80_ok rfl (by split <;> rfl) λN=>?_
 simp +contextual only[c80,go_sem];refine JU (cutPrefix0 _ _) ?_;by_cases h:l.take p.length=p
 ·simp +contextual only[go_sem,if_pos h]
 ·simp +contextual only[go_sem,if_neg h]
def wStr:LA:=[115,116,114,101,97,109]
def wArr:LA:=[91,93]
def innX:Option TyX->CV
 |some (.arr b)=>.tup [S wArr,S (tyT b),.bool true]
 |some (.str b)=>.tup [S wStr,S (tyT b),.bool true]
 |_=>.tup [S [],S [],.bool false]
theorem innX_closed:∀a,(innX a).closed=true
 |none=>rfl
 |some .int=>rfl
 |some .bool=>rfl
 |some (.arr _)=>rfl
 |some (.str _)=>rfl
theorem opT_str:(opT a).take 7=Xg↔∃b,a=some (.str b):=by
 constructor
 ·intro h;rcases a with _|a|a|a|a
  ·simp[opT,Xg]at h
  ·simp[opT,tyT,Xg]at h
  ·simp[opT,tyT,Xg]at h
  ·simp[opT,tyT,Xg]at h
  ·exact⟨a,rfl⟩
 ·rintro⟨b,rfl⟩;simp[opT,tyT,Xg]
theorem arr_facts {b:TyX}:∃l,tyT (.arr b)=l/\l.length=(tyT b).length+2/\l.getD 0 0=91/\l.getD (l.length-1) 0=93/\(l.take (l.length-1)).drop 1=tyT b:=by
 refine⟨_,rfl,by simp[tyT],rfl,?_,?_⟩
 ·simp[tyT]
 ·simp[tyT]
theorem tyP_len:∀a:TyX,tyP a<=(tyT a).length+1
 |.int=>by simp[tyT,tyP]
 |.bool=>by simp[tyT,tyP]
 |.arr a=>by have:=tyP_len a;simp[tyT,tyP];omega
 |.str a=>by have:=tyP_len a;simp[tyT,tyP,Xg];omega
theorem JdY (a:Option TyX)(hl:(opT a).length<=100000):Fn Gc 50 [S (opT a)] (innX a):=by
 refine Jb c50_ok rfl (innX_closed a) λN=>?_
 simp only[c50,go_sem];refine JU (cutPrefix (opT a) Xg) ?_;by_cases h:∃b,a=some (.str b)
 ·obtain⟨b,rfl⟩:=h;have h7:(opT (some (.str b))).take Xg.length=Xg:=opT_str.2 ⟨b,rfl⟩;have hd:(opT (some (.str b))).drop Xg.length=tyT b:=by simp[opT,tyT,Xg]
  rw[if_pos h7,hd];simp only[go_sem,innX];rfl
 ·have h7:¬(opT a).take Xg.length=Xg:=λe=>h (opT_str.1 e)
  rw[if_neg h7];rcases a with _|a|a|b|b
  ·simp only[go_sem,opT,innX,Gi]
  ·simp only[go_sem,opT,tyT,innX,Gg,Gi,show ((1:Int)<((0+1+1+1:Nat):Int))=True from J4,Gy,show ((((105:UInt8).toNat:Nat):Int) == 91)=false from rfl];decide
  ·simp only[go_sem,opT,tyT,innX,Gg,Gi,show ((1:Int)<((0+1+1+1+1:Nat):Int))=True from J4,Gy,show ((((98:UInt8).toNat:Nat):Int) == 91)=false from rfl];decide
  ·obtain⟨l,e,h1,h2,h3,h4⟩:=arr_facts (b:=b);simp only[opT,e]at hl|-;have d1:((1:Int)<(l.length:Int))=True:=J4;simp only[go_sem,d1,h2,h3,innX,show ((((91:UInt8).toNat:Nat):Int) == 91)=true from rfl,show ((((93:UInt8).toNat:Nat):Int) == 93)=true from rfl];refine⟨om,Jg,⟨om,om⟩,?_⟩;refine JQ Jm vk ?_;simp only[go_sem,h4];exact⟨Jg,om,rfl⟩
  ·exact absurd ⟨b,rfl⟩ h
theorem Jg1 (a:TyX)(hl:(tyT a).length<=100000):Fn Gc 49 [S (tyT a)] (.int .i64 (tyP a:Int)):=by
 have hp:tyP a<=100001:=by have:=tyP_len a;omega
 refine Jb c49_ok rfl rfl λN=>?_
 simp only[c49,go_sem];refine JL (I:=λs:Nat×TyX=>s.1+tyP s.2=tyP a+1/\(tyT s.2).length<=100000) (inv:=λs=>gp [(0,S (tyT s.2)),(2,.int .i64 (s.1:Int))] 21) (hp:=λ_=>[]) (μ:=λs=>tyP s.2) (1,a) ⟨by simp only;omega,hl⟩ ?_ rfl ?_
 ·simp[forget,gp]
 ·rintro⟨m,r⟩ ⟨h1,h2⟩
  dsimp only at h1 h2
  simp only[go_sem];refine JU (JdY (some r) h2) ?_;rcases r with _|_|b|b
  ·simp only[tyP]at h1;obtain rfl:m=tyP a:=om;simp only[go_sem,innX,tyT]
  ·simp only[tyP]at h1;obtain rfl:m=tyP a:=om;simp only[go_sem,innX,tyT,show (([98,111,111,108]:LA) == [105,110,116])=false from vk,beq_self_eq_true]
  all_goals
   simp only[tyP]at h1;have h3:(tyT b).length<=100000:=by simp only[tyT,Xg,Gg,Lp,Gi]at h2;omega
   simp only[go_sem,innX];refine⟨Jg,(m+1,b),⟨by simp only;omega,h3⟩,by simp only[tyP];omega,?_⟩;simp[forget]
theorem typGreat1 (a:TyX)(hl:(tyT a).length<=100000):Fn Gc 92 [S (tyT a)] (.bool (decide (20<tyP a))):=by
 refine Jb c92_ok rfl rfl λN=>?_
 simp only[c92,go_sem];refine JU (Jg1 a hl) ?_;simp only[go_sem]
 congr 1
 exact decide_eq_decide.2 om
theorem typGreat (l:TL)(hn:l.length<=100000)(hl:∀a∈l,(tyT a).length<=100000):Fn Gc 54 [txV l] (.bool (!Qg l)):=by
 have he:l.any (λa=>decide (20<tyP a)) = !Qg l:=by
  unfold Qg;rw[GX,List.any_eq_true,Bool.not_eq_true',<-Bool.not_eq_true,GQ];simp only[decide_eq_true_eq]
  constructor
  ·rintro⟨x,h1,h2⟩ h;have:=h x h1;omega
  ·intro h;refine Hq λhn=>h λx hx=>?_
   refine Hq λh2=>hn ⟨x,hx,om⟩
 refine Jb c54_ok rfl rfl λN=>?_
 simp only[c54,go_sem,txV];refine JU (containsTx l _ c92_ok (λp hp=>typGreat1 p (hl p hp)) hn) ?_;simp only[go_sem,he]
theorem Jcm (l:LA)(hl:l.length<=100000):Fn Gc 43 [S l] (S (Xg++l)):=by
 refine Jb c43_ok rfl rfl λN=>?_
 simp only[c43,go_sem];exact⟨om,rfl⟩
theorem typArray (l:LA)(hl:l.length<=100000):Fn Gc 115 [S l] (S (91::(l++[93]))):=by
 refine Jb c115_ok rfl rfl λN=>?_
 simp only[c115,go_sem];exact⟨om,om⟩
section
variable{N:Fr}{T:Lu}{k:LM}{Z':FS}
theorem KG{ags:LP}{l:LD}{args:Lu}(hM:FMe P f args K Z Z' res)(hg:GOk T ge)(ha:ags.map (Kg T)=.ptr 0 0 0::args)(hH:H=hpF K Z X)(hc:Jk args=true)(hr:res.closed=true)(h:KD P E n0 N Q (.ops l::k) (put T d res) (hpF K Z' X)):Ok P E n0 N Q (.ops (⟨d,.call f ags,ge⟩::l)::k) T H:=by subst hH;refine Kt hg (by rw[ha];exact hM.on hc hr) ?_;rintro v H' ⟨rfl,rfl⟩;exact h
theorem KGn{ags:LP}{l:LD}{args:Lu}(hM:FMe P f args K Z Z' res)(h:KD P E n0 N Q (.ops l::k) (put T d res) (hpF K Z' X))(ha:ags.map (Kg T)=.ptr 0 0 0::args:=by exact rfl)(hH:H=hpF K Z X:=by exact rfl)(hc:Jk args=true:=by exact rfl)(hr:res.closed=true:=by exact rfl):Ok P E n0 N Q (.ops (⟨d,.call f ags,none⟩::l)::k) T H:=KG hM (.inl rfl) ha hH hc hr h
theorem Jc3(id:Nat)(hH:H=hpF K Z X)(hX:X[id]? = some (.arr z els))(hc:Jq els=true)(h:KD P E n0 N Q k (JK (id+5) z els T) (hpF K Z ((X.map (Kn (id+5) z els)).set id .dead))):Ok P E n0 N Q k T H:=by subst hH;refine Je (id:=id+5) (z:=z) (els:=els) hX hc ?_;rw[frz_hp];exact h
end
theorem Fnl.same:Fnl 5 v (hpF K Z []) v (hpF K Z []):=.done (wk.refl _)
theorem fmOne(hi:i<K.t.nodes.length)(hl:Z.got.length=K.t.nodes.length):FMe Gc 147 [.int .i64 (i:Int)] K Z Z (.tup [S (opT (Kz (Jr Z.got i))),.bool (Kz (Jr Z.got i)).isSome]):=by
 have hg:=KV (l:=Z.got) (i:=i) om;have AO:(gz Z.got).length=K.t.nodes.length:=by rw[QB,hl]
 refine Kk (Ki c147_ok λN=>?_);generalize Jr Z.got i=l at *;rcases l with _|⟨a,_|⟨b,l⟩⟩
 ·simp only[c147,go_sem,hpF,fRow,hg,AO,txV,txz,Gl,Gi];exact⟨⟨om,om⟩,om,.done (wk.refl _)⟩
 ·have d1:(((1:Nat):Int) != 1)=false:=rfl;simp only[c147,go_sem,hpF,fRow,hg,AO,txV,txz,Gl,Gj,Gg,Gi,d1];exact⟨⟨om,om⟩,om,om,.done (wk.refl _)⟩
 ·have d1:(((l.length+1+1:Nat):Int) != 1)=true:=by simp;omega
  simp only[c147,go_sem,hpF,fRow,hg,AO,txV,txz,Gj,Gg,Gi,kZ,d1];exact⟨⟨om,om⟩,om,.done (wk.refl _)⟩
theorem fmBare(hi:i<K.t.nodes.length):FMe Gc 146 [.int .i64 (i:Int)] K Z Z (.bool (nd K.t i).kids.isEmpty):=by have hg:=JX hi;have Ap:(iz (nd K.t i).kids).length=(nd K.t i).kids.length:=Jf;refine Kk (Ki c146_ok λN=>?_);simp only[c146,go_sem,hpF,fRow,Ja,hg,Nd.cv,Ap];refine anO ?_;rw[show ((((nd K.t i).kids.length:Nat):Int) == 0)=(nd K.t i).kids.isEmpty by cases (nd K.t i).kids <;> simp;omega];exact .done (wk.refl _)
section
variable(g:GoodT K.t o)(ht:K.t.Fit)
include g ht
theorem fmExpr {s:Nat}(hs:s<K.t.nodes.length)(hk:(nd K.t s).k=41):FMe Gc 184 [.int .i64 (s:Int)] K Z Z (.int .i64 (Ji K.t s:Int)):=by
 have hg:=JX hs;obtain⟨b1,_,_,b4⟩:=KA g hs hk;have hn:=(JbM ht hs).n;obtain⟨a,hN,Ad,_,_⟩:=Yu g hs hk;change (nd K.t s).n=a at hN;change (nd K.t s).kids.length=a+1 at Ad;have Ap:(iz (nd K.t s).kids).length=a+1:=by rw[Jf];exact Ad
 have AO:=lastz g hs om;rw[show (nd K.t s).kids.length-1=a by omega]at AO;refine Kk (Ki c184_ok λN=>?_);simp only[c184,go_sem,hpF,fRow];refine JH [0,0,0,0,1,0,0,0,0,0,0,0,0,1,0,0,0,0,0,0,0] Jm vM ?_;simp only[go_sem,Ja,hg,Nd.cv,Ap,hN,AO]
 repeat refine anO ?_
 exact .done (wk.refl _)
omit ht in
theorem XP:∀i,i<K.t.nodes.length->60<=(nd K.t i).k->(nd K.t i).k<=63->FMe Gc 66 [.int .i64 (i:Int)] K Z Z (S (tyT (tyN K.t i))):=by
 intro i
 induction i using Le with
 |_ i ih=>
  intro hi h1 h2;have Ag:=g.many;have hg:=JX hi;rw[tyN_eq g hi h1 h2];refine Kk (Ki c66_ok λN=>?_);by_cases Ui:(nd K.t i).k=60
  ·rw[if_pos Ui];simp only[c66,go_sem,hpF,fRow,Ja,hg,Nd.cv,Ui,Gq,beq_self_eq_true]
   repeat refine anO ?_
   exact .out (wk.refl _) rfl
  ·by_cases UL:(nd K.t i).k=61
   ·rw[if_neg Ui,if_pos UL];simp only[c66,go_sem,hpF,fRow,Ja,hg,Nd.cv,UL,Gq,beq_self_eq_true,show ((61:Int) == 60)=false from rfl]
    repeat refine anO ?_
    exact .out (wk.refl _) rfl
   ·obtain⟨q1,q2,q3,q4⟩:=Yp g hi (.inr (.inl om));have hl:=Xu g hi (.inr (.inr (.inr om)));obtain⟨a,ha⟩:∃a,(nd K.t i).kids=[a]:=by
     match h:(nd K.t i).kids,hl with
     |[a],_=>exact⟨_,rfl⟩
    have hr:=g.kid hi (k:=a) (by change a∈(nd K.t i).kids;rw[ha];simp);obtain⟨a,rfl⟩:∃a':Nat,a=a':=⟨a.toNat,om⟩;have Dl:Ju K.t i 0=a:=by unfold Ju;rw[ha];rfl
    rw[Dl]at q2 q3 q4|-;have hW:=ih a q2 om q3 q4;have CE:=X0 (t:=K.t) (i:=a) om;have Uz:iz (nd K.t i).kids=[[.int .i64 (a:Int)]]:=by rw[ha];rfl
    rcases (show (nd K.t i).k=62\/(nd K.t i).k=63 by omega) with hk|hk
    ·rw[if_neg Ui,if_neg UL,if_pos hk];simp only[c66,go_sem,hpF,fRow,Ja,hg,Nd.cv,hk,Uz,Gq,beq_self_eq_true,show ((62:Int) == 60)=false from rfl,show ((62:Int) == 61)=false from rfl,Gg,Gi]
     repeat refine anO ?_
     refine KGn hW ?_;simp only[go_sem];refine JU (typArray _ om) ?_;simp only[go_sem];exact .out (wk.refl _) rfl
    ·rw[if_neg Ui,if_neg UL,iN7];simp only[c66,go_sem,hpF,fRow,Ja,hg,Nd.cv,hk,Uz,Gq,show ((63:Int) == 60)=false from rfl,show ((63:Int) == 61)=false from rfl,show ((63:Int) == 62)=false from rfl,Gg,Gi]
     repeat refine anO ?_
     refine KGn hW ?_;simp only[go_sem];refine JU (Jcm _ om) ?_;simp only[go_sem];exact .out (wk.refl _) rfl
end
def areQ (got:List TL)(w:LA)(k:Int):Bool:=match Kz (Jr got k.toNat) with
 |none=>false
 |some a=>tyT a == w
theorem areB_eq:areB got w ks = !ks.any λk=>!areQ got w k:=by rw[List.not_any_eq_all_not];simp only[Bool.not_not];rfl
theorem fmAre1(hi:i<K.t.nodes.length)(hl:Z.got.length=K.t.nodes.length):Pure Gc E 181 [.int .i64 (i:Int),.ptr 5 0 0,.ptr 6 0 0] (hpF K Z (.arr 1 [[.ptr 0 0 0]] :: .arr 1 [[S w]]::X)) (.bool (!areQ Z.got w (i:Int))):=by
 have hO:=fmOne hi hl;refine Ki c181_ok λN=>?_
 unfold areQ;rw[Gd];simp only[c181,go_sem,hpF];refine KGn hO ?_
 cases Kz (Jr Z.got i) with
 |none=>simp only[go_sem,opT,Hm,hpF]
 |some a=>simp only[go_sem,opT,Hl,hpF]
theorem fmAre(hl:Z.got.length=K.t.nodes.length)(hk:∀k∈ks,0<=k/\k<K.t.nodes.length)(hn:ks.length<=1000):FMe Gc 139 [S w,.rslc 1 (iz ks) none] K Z Z (.bool (areB Z.got w ks)):=by
 have hC:∀X,Pure Gc Env.none 44 [.rslc 1 (iz ks) none,.fn 181 [] [.ptr 5 0 0,.ptr 6 0 0]] (hpF K Z (.arr 1 [[.ptr 0 0 0]] :: .arr 1 [[S w]]::X)) (.bool (ks.any λk=>!areQ Z.got w k)):=λX=>
  containsFP ks _ c181_ok (λp hp=>by obtain⟨i,rfl⟩:∃i:Nat,p=i:=⟨p.toNat,by have:=(hk p hp).1;omega⟩;exact fmAre1 (by have:=(hk _ hp).2;omega) hl) om
 refine Kk (Ki c139_ok λN=>?_);rw[areB_eq];simp only[c139,go_sem,hpF];refine vr_pc (.inl rfl) (hC []) ?_;simp only[go_sem];exact .out (wk.refl _) rfl
theorem Jgw(hi:i<K.t.nodes.length)(hl:Z.got.length=K.t.nodes.length)(hf:Qg (Jr Z.got i)=true):FMe Gc 138 [.int .i64 (i:Int)] K Z Z (.tup [S (opT (prt (Kz (Jr Z.got i)))),.bool (isStr (Kz (Jr Z.got i)))]):=by
 have hO:=fmOne hi hl;have hI:=JdY (Kz (Jr Z.got i)) (by have:=Jbe hf;omega);refine Kk (Ki c138_ok λN=>?_);simp only[c138,go_sem,hpF];refine KGn hO ?_;simp only[go_sem];refine JU hI ?_;rcases Kz (Jr Z.got i) with _|_|_|b|b
 all_goals
  simp only[go_sem,innX,prt,opT,isStr,Hm,Hl,wStr,wArr,beq_self_eq_true,show (([]:LA) == [115,116,114,101,97,109])=false from rfl,show (([91,93]:LA) == [115,116,114,101,97,109])=false from rfl];exact .out (wk.refl _) rfl
theorem fmArrayed(hi:i<K.t.nodes.length)(hl:Z.got.length=K.t.nodes.length)(hf:Qg (Jr Z.got i)=true):FMe Gc 140 [.int .i64 (i:Int)] K Z Z (.tup [S (opT (prt (Kz (Jr Z.got i)))),.bool (Jca (Kz (Jr Z.got i)))]):=by
 have hO:=fmOne hi hl;have hI:=JdY (Kz (Jr Z.got i)) (by have:=Jbe hf;omega);refine Kk (Ki c140_ok λN=>?_);simp only[c140,go_sem,hpF];refine KGn hO ?_;simp only[go_sem];refine JU hI ?_;rcases Kz (Jr Z.got i) with _|_|_|b|b
 all_goals
  simp only[go_sem,innX,prt,opT,Jca,Hm,Hl,wStr,wArr,beq_self_eq_true,show (([]:LA) == [91,93])=false from rfl,show (([115,116,114,101,97,109]:LA) == [91,93])=false from rfl];exact .out (wk.refl _) rfl
section
variable {k:Nat}{K:Nat->TL}{ty:TyX}
theorem rk_num:J9 1 ks n K L ty sp sr si gm=some [.int]:=rfl
theorem rk_bool:J9 2 ks n K L ty sp sr si gm=some [.bool]:=rfl
theorem Jhk:J9 4 ks n K L ty sp sr si gm=if (isStr (Kz (K 1)) && K 0 == [(prt (Kz (K 1))).getD .int])=true then some [.str ((prt (Kz (K 1))).getD .int)] else none:=by
 rcases h:K 1 with _|⟨a,_|⟨b,l⟩⟩
 ·simp[J9,h,Kz,isStr]
 ·cases a <;> simp[J9,h,Kz,isStr,prt]
 ·simp[J9,h,Kz,isStr]
theorem rk_or (hk:k=5\/k=6):J9 k ks n K L ty sp sr si gm=if (K 0 == [.bool] && K 1 == [.bool])=true then some [.bool] else none:=by rcases hk with rfl|rfl <;> simp[J9]
theorem rk_eq (hk:k=7\/k=8):J9 k ks n K L ty sp sr si gm=if (K 0 == [.int] && K 1 == [.int] || K 0 == [.bool] && K 1 == [.bool])=true then some [.bool] else none:=by rcases hk with rfl|rfl <;> simp[J9]
theorem rk_lt (hk:9<=k/\k<=12):J9 k ks n K L ty sp sr si gm=if (K 0 == [.int] && K 1 == [.int])=true then some [.bool] else none:=by rcases (show k=9\/k=10\/k=11\/k=12 by omega) with rfl|rfl|rfl|rfl <;> simp[J9]
theorem rk_add (hk:13<=k/\k<=17):J9 k ks n K L ty sp sr si gm=if (K 0 == [.int] && K 1 == [.int])=true then some [.int] else none:=by rcases (show k=13\/k=14\/k=15\/k=16\/k=17 by omega) with rfl|rfl|rfl|rfl|rfl <;> simp[J9]
theorem Jhh:J9 18 ks n K L ty sp sr si gm=if (Jca (Kz (K 0)) && K 1 == [.int])=true then some [(prt (Kz (K 0))).getD .int] else none:=by
 rcases h:K 0 with _|⟨a,_|⟨b,l⟩⟩
 ·simp[J9,h,Kz,Jca]
 ·cases a <;> simp[J9,h,Kz,Jca,prt]
 ·simp[J9,h,Kz,Jca]
theorem rk_not:J9 19 ks n K L ty sp sr si gm=if (K 0 == [.bool])=true then some [.bool] else none:=by simp[J9]
theorem rk_neg:J9 20 ks n K L ty sp sr si gm=if (K 0 == [.int])=true then some [.int] else none:=by simp[J9]
theorem Jhj:J9 21 ks n K L ty sp sr si gm=if isStr (Kz (K 0))=true then some [(prt (Kz (K 0))).getD .int] else none:=by
 rcases h:K 0 with _|⟨a,_|⟨b,l⟩⟩
 ·simp[J9,h,Kz,isStr]
 ·cases a <;> simp[J9,h,Kz,isStr,prt]
 ·simp[J9,h,Kz,isStr]
theorem Jhf:J9 22 ks n K L ty sp sr si gm=if isStr (Kz (K 0))=true then some (K 0) else none:=by
 rcases h:K 0 with _|⟨a,_|⟨b,l⟩⟩
 ·simp[J9,h,Kz,isStr]
 ·cases a <;> simp[J9,h,Kz,isStr]
 ·simp[J9,h,Kz,isStr]
theorem Jd3:J9 23 ks n K L ty sp sr si gm=if isStr (Kz (K 0))=true then some [.bool] else none:=by
 rcases h:K 0 with _|⟨a,_|⟨b,l⟩⟩
 ·simp[J9,h,Kz,isStr]
 ·cases a <;> simp[J9,h,Kz,isStr]
 ·simp[J9,h,Kz,isStr]
theorem Jhg:J9 24 ks n K L ty sp sr si gm=if Jca (Kz (K 0))=true then some [.int] else none:=by
 rcases h:K 0 with _|⟨a,_|⟨b,l⟩⟩
 ·simp[J9,h,Kz,Jca]
 ·cases a <;> simp[J9,h,Kz,Jca]
 ·simp[J9,h,Kz,Jca]
theorem rk_nil:J9 25 ks n K L ty sp sr si gm=some [.str ty]:=rfl
theorem Jhl:J9 26 ks n K L ty sp sr si gm=if ks.length=sp.length/\∀j,j<ks.length->K j=[sp.getD j .int] then some sr else none:=rfl
theorem rk_if:J9 27 ks n K L ty sp sr si gm=if (K 0 == [.bool] && K 1 == K 2)=true then some (K 1) else none:=by simp[J9]
theorem Jhi:J9 28 ks n K L ty sp sr si gm=if (K n == [.bool])=true then some (K (ks.length-1)) else none:=by simp[J9]
theorem Jd4:J9 29 ks n K L ty sp sr si gm=if (Kz (L 1)).isSome=true/\((Gb (ks.length-1)).all λj=>L (j+1) == [(Kz (L 1)).getD .int])=true/\K 0=[.int] then some [.arr ((Kz (L 1)).getD .int)] else none:=by
 rcases h:L 1 with _|⟨a,_|⟨b,l⟩⟩
 ·simp[J9,h,Kz]
 ·simp[J9,h,Kz]
 ·simp[J9,h,Kz]
theorem rk_block:J9 40 ks n K L ty sp sr si gm=YS ((Gb (ks.length-n)).map λj=>K (n+j)):=rfl
theorem rk_give:J9 45 ks n K L ty sp sr si gm=YS ((Gb ks.length).map K):=rfl
theorem Jdd:J9 42 ks n K L ty sp sr si gm=if ks=[] then some [] else some [ty]:=rfl
theorem rk_param:J9 64 ks n K L ty sp sr si gm=some [ty]:=rfl
theorem rk_init:J9 43 ks n K L ty sp sr si gm=if (Kz (K 0)).isSome=true then some [(Kz (K 0)).getD .int] else none:=by rcases h:K 0 with _|⟨a,_|⟨b,l⟩⟩ <;> simp[J9,h,Kz]
theorem rk_next:J9 44 ks n K L ty sp sr si gm=if ((Kz gm).isSome && K 0 == [(Kz gm).getD .int])=true then some [] else none:=by rcases gm with _|⟨a,_|⟨b,l⟩⟩ <;> simp[J9,Kz]
theorem rk_span:J9 47 ks n K L ty sp sr si gm=some [.int]:=rfl
theorem rk_def:J9 65 ks n K L ty sp sr si gm=if (K (ks.length-1) == si)=true then some [] else none:=by simp[J9]
theorem rk_else (hk:29<k)(h:k≠40/\k≠45/\k≠42/\k≠64/\k≠43/\k≠44/\k≠47/\k≠65):J9 k ks n K L ty sp sr si gm=some []:=by
 obtain⟨h1,h2,h3,h4,h5,h6,h7,h8⟩:=h;unfold J9
 repeat rw[iN7]
end
def upZ (t:Tr)(i:Nat):Lx:=(upTo t i).map λx=>if x<0 then 0 else x
def fiZ (t:Tr)(o:Lx)(i:Nat):Lx:=(Gb t.nodes.length).map λ(j:Nat)=>if j<i then fs o (j:Int) else 0
def fiS (o:Lx)(i:Nat)(ks:Lx)(s:Nat):Int:=if s=0 then i else fs o (ks.reverse.getD (s-1) 0)
theorem Jc6:(upZ t i).length=t.nodes.length:=by simp[upZ,Y5]
theorem Jbl:(fiZ t o i).length=t.nodes.length:=by simp[fiZ]
theorem fiZ_get{j:Nat}(h:j<i)(hj:j<t.nodes.length):(fiZ t o i).getD j 0=fs o (j:Int):=by simp[fiZ,Ga,hj,h]
theorem fiZ_zero:fiZ t o 0=GR t.nodes.length 0:=by
 refine Ha (by simp[fiZ]) λj h1 h2=>?_
 simp[fiZ]
section
variable(g:GoodT t o)
include g
theorem upZ_zero:upZ t 0=GR t.nodes.length 0:=by unfold upZ;rw[upTo_zero g,List.map_replicate];rfl
theorem upZ_succ(hi:i<t.nodes.length):upZ t (i+1)=XB i (upZ t i) (nd t i).kids.reverse:=by
 refine Ls λj=>?_
 have hk:∀k∈(nd t i).kids,0<=k:=λk hk=>(g.kid hi hk).1
 rw[JbB _ _ _ λk h=>hk k (by simpa using h),Jc6];unfold upZ;rw[upTo_succ g hi,GG,JbB _ _ _ hk,Y5,GG];simp only[List.mem_reverse]
 split
 ·simp;omega
 ·rfl
theorem up_kid(hi:i<t.nodes.length){k:Nat}(hk:(k:Int)∈(nd t i).kids):(upZ t t.nodes.length).getD k 0=i:=by have h1:=J3 g hi hk;unfold upZ;rw[upTo_all g,upT,GV,Ga,GG,Gx om];simp only[Ho,GD,Function.comp,h1.1];rw[iN7]
theorem fs_kid(hi:i<t.nodes.length):fs o (i:Int)=fiS o i (nd t i).kids (nd t i).kids.length:=by
 have hc:=g.ord.kids (Kq hi);change chain o o.length (fs o i) (nd t i).kids i at hc;unfold fiS;generalize (nd t i).kids=ks at hc
 cases ks with
 |nil=>exact hc
 |cons k l=>obtain⟨⟨_,_,h⟩,_⟩:=hc;rw[if_neg sM,Gg,Nat.add_sub_cancel,List.reverse_cons,Ga,GM sM];simp only[List.length_reverse,V5,Lj,GD];exact h.symm
theorem fiZ_succ(hi:i<t.nodes.length):(fiZ t o i).set i (fiS o i (nd t i).kids (nd t i).kids.length)=fiZ t o (i+1):=by
 rw[<-fs_kid g hi];refine Ha (by simp[fiZ]) λj h1 h2=>?_
 rw[H7];simp only[fiZ,List.getElem_map,HZ];by_cases h:i=j
 ·subst h;rw[if_pos rfl,iP7]
 ·rw[if_neg h];by_cases h3:j<i
  ·rw[if_pos h3,iP7]
  ·rw[if_neg h3,iN7]
end
theorem Qe{a:TyX}:txz (l++[a])=txz l++[[S (tyT a)]]:=by simp[txz]
theorem txz_nil:txz []=[]:=rfl
def ndA (x:Nd)(n:Int):Lu:=[.int .u8 (x.k:Int),S x.text,.int .i64 n,.rslc 1 (iz x.kids) none,.int .i64 x.pl]
theorem Jc8 {l:Lx}{a:Nat}:(iz l).take a=iz (l.take a):=by simp[iz]
theorem Jh0 {l:Lx}{a:Nat}:(iz l).drop a=iz (l.drop a):=by simp[iz]
theorem JC(g:GoodT t o){j:Nat}(hi:i<t.nodes.length)(hj:j<(nd t i).kids.length):(nd t i).kids.getD j 0=(Ju t i j:Int):=by
 have hx:(nd t i).kids.getD j 0∈(nd t i).kids:=by
  have:(nd t i).kids.getD j 0=(nd t i).kids[j]:=by rw[Ga,Gf hj];rfl
  rw[this];exact Gp hj
 have:=g.kid hi hx;have e:Ju t i j=((nd t i).kids.getD j 0).toNat:=rfl;omega
theorem Jdr(g:GoodT t o)(hi:i<t.nodes.length)(hl:(nd t i).kids.length=1):(nd t i).kids=[(Ju t i 0:Int)]:=by
 rw[<-JC g hi om]
 match h:(nd t i).kids,hl with
 |[e],_=>rfl
section
theorem Qo{Y:Lv}(h:(ρ.map λid=>Xn (0::1::2::3::4::ρ) ((hpF K Z X).getD id .dead))=Y):KE (0::1::2::3::4::ρ) (hpF K Z X)=hpF K Z Y:=by rw[ren_hp,h]
theorem Jco:List.take l.length (l.map λa=>[S (tyT a)])=l.map λa=>[S (tyT a)]:=GJ sM
theorem fnl_two{m:TL}{o:CObj}:Fnl 5 (.tup [txV l,txV m]) (hpF K Z []) (.tup [Qr 6 (txz l),Qr 7 (txz m)]) (hpF K Z [o,Xm 1 (txz l),Xm 1 (txz m)]):=by
 rcases l with _|⟨x,l⟩ <;> rcases m with _|⟨y,m⟩
 ·exact .out (Jal ⟨wk.nils,wk.nils,trivial⟩) rfl
 ·refine .one 2 rfl (JI (y::m)) ?_ ?_
  ·simp[frz,JK,Qr,txz,CV.closed,Jk]
  ·simp[frz,JK,Qr,txz,txV,Jco];exact Jal ⟨wk.nils,wks.refl _⟩
 ·refine .one 1 rfl (JI (x::l)) ?_ ?_
  ·simp[frz,JK,Qr,txz,CV.closed,Jk]
  ·simp[frz,JK,Qr,txz,txV,Jco];exact Jal ⟨wk.refl _,wk.nils,trivial⟩
 ·refine .more 1 rfl (JI (x::l)) ?_;have e:((txz (y::m)).map (JK (1+5) 1 (txz (x::l))))=txz (y::m):=JJ (JI _);refine .one 2 (by simp only[Gj,Gl,GK,Gz];exact congrArg (λq=>some (CObj.arr 1 q)) e) (JI (y::m)) ?_ ?_
  ·simp[frz,JK,Qr,txz,CV.closed,Jk]
  ·simp[frz,JK,Qr,txz,txV,Jco];exact wk.refl _
variable(g:GoodT K.t o)(ht:K.t.Fit)
include g ht
theorem fmSign {d:Nat}(hd:d<K.t.nodes.length)(hk:(nd K.t d).k=65):FMe Gc 45 [.int .i64 (d:Int)] K Z Z (.tup [txV (Q3 K.t d),txV (XH K.t d)]):=by
 have Ag:=g.many;have hg:=JX hd;have Bj:=(JbM ht hd).kidn;obtain⟨a,a1,a2,a3,a4,a5⟩:=Yc g hd hk;change (nd K.t d).n=a at a1;change a<(nd K.t d).kids.length at a2;have Ap:(iz (nd K.t d).kids).length=(nd K.t d).kids.length:=Jf;have UH:(Q3 K.t d).length=a:=by unfold Q3;simp[a1]
 have SQ:(XH K.t d).length=(nd K.t d).kids.length-1-a:=by unfold XH;simp[a1]
 refine Kk (Ki c45_ok λN=>?_);simp only[c45,go_sem,hpF,fRow,Ja,hg,Nd.cv,a1]
 repeat refine And.intro (by first|omega|exact⟨om,om⟩|(simp;done)) ?_
 refine Jc3 (K:=K) (Z:=Z) (X:=[.arr 5 [ndA (nd K.t d) a]]) 0 rfl rfl rfl ?_;simp only[go_sem,JK,frz,Gj,Gl,Kn,Gz,ndA,Gm,if_true,Gy,GU,List.drop_succ_cons];refine YJ ?_;simp only[go_sem,hpF,H8,La,Nat.sub_zero,Jc8];have bC:∀j,j<a->∃c:Nat,(nd K.t d).kids.getD j 0=c/\c<K.t.nodes.length/\(nd K.t c).k=64/\∃e:Nat,(nd K.t c).kids=[(e:Int)]/\e<K.t.nodes.length/\60<=(nd K.t e).k/\(nd K.t e).k<=63/\(Q3 K.t d).getD j .int=tyN K.t e:=λj hj=>by
  have h1:=Jz g hd (i:=j) om;have Cr:(nd K.t (Ju K.t d j)).k=64:=by rw[h1.2.2];exact a3 j hj
  obtain⟨q1,q2,q3,q4⟩:=Yp g (i:=Ju K.t d j) om (.inr (.inl ⟨om,om⟩));have hl:=Xu g (i:=Ju K.t d j) om (.inr (.inr (.inr ⟨om,om⟩)));have hs:(Q3 K.t d).getD j .int=tyN K.t (Ju K.t (Ju K.t d j) 0):=by unfold Q3;rw[a1,Gd,Ga,GG,Gx hj];rfl
  have hc:=JC g hd (j:=j) om;exact⟨Ju K.t d j,hc,om,Cr,Ju K.t (Ju K.t d j) 0,Jdr g om hl,om,q3,q4,hs⟩
 have bB:∀j,j<(nd K.t d).kids.length-1-a->∃c:Nat,(nd K.t d).kids.getD (a+j) 0=c/\c<K.t.nodes.length/\60<=(nd K.t c).k/\(nd K.t c).k<=63/\(XH K.t d).getD j .int=tyN K.t c:=λj hj=>by
  have h1:=Jz g hd (i:=a+j) om;have h6:=a4 (a+j) om (by change a+j+1<(nd K.t d).kids.length;omega);have e:(nd K.t (Ju K.t d (a+j))).k=Jw K.t.nodes ((K.t.nodes.getD d default).kids.getD (a+j) 0):=h1.2.2;have hs:(XH K.t d).getD j .int=tyN K.t (Ju K.t d (a+j)):=by unfold XH;rw[a1,Gd,Ga,GG,Gx hj];rfl
  have hc:=JC g hd (j:=a+j) om;exact⟨_,hc,om,om,om,hs⟩
 refine Js (I:=λj:Nat=>j<=a) (inv:=λj=>gp [(0,.ptr 0 0 0),(3,Qr 6 (txz ((Q3 K.t d).take j))),(0,.nils),(0,.rptr (ndA (nd K.t d) a)),(16,.rslc 1 (iz ((nd K.t d).kids.take a)) none),(0,.int .i64 (a:Int)),(0,.int .i64 (j:Int))] 43) (hp:=λj=>hpF K Z [.dead,Xm 1 (txz ((Q3 K.t d).take j))]) (μ:=λj=>a-j) 0 [0,1,2,3,4,5,6] om rfl ?_ ?_ ?_
 ·have Ae:(iz ((nd K.t d).kids.take a)).length=a:=by rw[Jf,GH];omega
  simp[forget,JG,ren,Jl,gp,ndA,txz,Qr,Ae]
 ·exact Qo (K:=K) (Z:=Z) (X:=[.dead,.dead]) rfl
 ·intro j hj;by_cases Ab:j<a
  ·have d1:=dtT j a;obtain⟨c,c1,c2,c3,e,c4,c5,c6,c7,c8⟩:=bC j Ab;have Bp:(iz ((nd K.t d).kids.take a)).getD j []=[.int .i64 (c:Int)]:=by rw[JF (by rw[GH];omega),Ga,Li Ab,<-Ga,c1]
   have Ae:(iz ((nd K.t d).kids.take a)).length=a:=by rw[Jf,GH];omega
   have D9:=JX c2;have Uz:iz (nd K.t c).kids=[[.int .i64 (e:Int)]]:=by rw[c4];rfl
   simp only[go_sem,hpF,fRow,d1,Bp,Ae,Ja,D9,Nd.cv,Uz,Gg,Gi]
   repeat refine And.intro (by first|omega|exact⟨om,om⟩|(simp;done)) ?_
   refine KGn (XP g e c5 c6 c7) ?_;simp only[go_sem,hpF];rw[<-c8];have AJ:(Q3 K.t d).take (j+1)=(Q3 K.t d).take j++[(Q3 K.t d).getD j .int]:=Jg5 om;have CG:(txz ((Q3 K.t d).take j)).length=j:=by rw[KL,GH];omega
   refine⟨by rw[CG];unfold JA;simp[Cond.holds];omega,Jg,j+1,[0,1,2,3,4,5,8],om,om,rfl,?_,?_⟩
   ·rw[AJ,Qe,KN];exact Qo (K:=K) (Z:=Z) (X:=[.dead,.dead,.arr 1 [[S (tyT ((Q3 K.t d).getD j .int))]],.arr 1 (txz ((Q3 K.t d).take j)++[[S (tyT ((Q3 K.t d).getD j .int))]])]) (by have:(txz ((Q3 K.t d).take j)++[[S (tyT ((Q3 K.t d).getD j .int))]]).map (JG [0,1,2,3,4,5,8])=_:=Jc (by rw[<-Qe];exact JI _);simp only[Gj,Gl,hpF,G6,Gy,Jn,Jo,this])
   ·rw[AJ,Qe,KM];simp[forget,JG,ren,Jl,ndA]
  ·have d1:=dfF j a;obtain rfl:j=a:=om;rw[GJ (Lg UH)];simp only[go_sem,hpF,fRow,d1,ndA,Ap];refine⟨Jg,⟨om,om,om⟩,?_⟩;refine YJ ?_;simp only[go_sem,H8,La,Jc8,Jh0];generalize hm:(nd K.t d).kids.length-1-j=m at *;have Ae:(iz (((nd K.t d).kids.drop j).take m)).length=m:=by rw[Jf,GH,G9];omega
   refine Js (I:=λi:Nat=>i<=m) (inv:=λi=>gp [(0,.ptr 0 0 0),(3,Qr 6 (txz (Q3 K.t d))),(0,Qr 7 (txz ((XH K.t d).take i))),(48,.rslc 1 (iz (((nd K.t d).kids.drop j).take m)) none),(0,.int .i64 (m:Int)),(0,.int .i64 (i:Int))] 12) (hp:=λi=>hpF K Z [.dead,Xm 1 (txz (Q3 K.t d)),Xm 1 (txz ((XH K.t d).take i))]) (μ:=λi=>m-i) 0 [0,1,2,3,4,5,6,7] om rfl ?_ ?_ ?_
   ·have r6:ren [0,1,2,3,4,5,6,7] (Qr 6 (txz (Q3 K.t d)))=Qr 6 (txz (Q3 K.t d)):=QK rfl;simp only[He,txz_nil,Ya];simp[forget,JG,ren,Jl,gp,Ae,r6]
   ·have r6:Xn [0,1,2,3,4,5,6,7] (Xm 1 (txz (Q3 K.t d)))=Xm 1 (txz (Q3 K.t d)):=Qw (Jc (JI _));exact Qo (K:=K) (Z:=Z) (X:=[.dead,Xm 1 (txz (Q3 K.t d)),.dead]) (by simp only[Gj,Gl,hpF,G6,Gy,Jn,r6];rfl)
   ·intro i hi;by_cases Ab:i<m
    ·have d2:=dtT i m;obtain⟨c,c1,c2,c3,c4,c5⟩:=bB i Ab;have Ar:(iz (((nd K.t d).kids.drop j).take m)).getD i []=[.int .i64 (c:Int)]:=by rw[JF (by rw[GH,G9];omega),Ga,Li Ab,Lr,<-Ga,c1]
     simp only[go_sem,hpF,fRow,d2,Ar,Ae]
     repeat refine And.intro (by first|omega|exact⟨om,om⟩|(simp;done)) ?_
     refine KGn (XP g c c2 c3 c4) ?_;simp only[go_sem,hpF];rw[<-c5];have AJ:(XH K.t d).take (i+1)=(XH K.t d).take i++[(XH K.t d).getD i .int]:=Jg5 om;have CG:(txz ((XH K.t d).take i)).length=i:=by rw[KL,GH];omega
     have r6:Xn [0,1,2,3,4,5,6,9] (Xm 1 (txz (Q3 K.t d)))=Xm 1 (txz (Q3 K.t d)):=Qw (Jc (JI _));have r7:ren [0,1,2,3,4,5,6,9] (Qr 6 (txz (Q3 K.t d)))=Qr 6 (txz (Q3 K.t d)):=QK rfl;refine⟨by rw[CG];unfold JA;simp[Cond.holds];omega,Jg,i+1,[0,1,2,3,4,5,6,9],om,om,rfl,?_,?_⟩
     ·rw[AJ,Qe,KN];exact Qo (K:=K) (Z:=Z) (X:=[.dead,Xm 1 (txz (Q3 K.t d)),.dead,.arr 1 [[S (tyT ((XH K.t d).getD i .int))]],.arr 1 (txz ((XH K.t d).take i)++[[S (tyT ((XH K.t d).getD i .int))]])]) (by have:(txz ((XH K.t d).take i)++[[S (tyT ((XH K.t d).getD i .int))]]).map (JG [0,1,2,3,4,5,6,9])=_:=Jc (by rw[<-Qe];exact JI _);simp only[Gj,Gl,hpF,G6,Gy,Jn,Jo,this,r6])
     ·rw[AJ,Qe,KM];simp[forget,JG,ren,Jl,r7]
    ·have d2:=dfF i m;obtain rfl:i=m:=om;rw[GJ (Lg SQ)];simp only[go_sem,hpF,fRow,d2];exact fnl_two
end
def gvn (got:List TL)(ks:Lx):Option TL:=YS (ks.map λk=>Jr got k.toNat)
def hdT (got:List TL)(ks:Lx):TL:=ks.map λk=>(Jr got k.toNat).headD .int
theorem gvn_one:gvn got [k]=some (Jr got k.toNat):=rfl
theorem gvn_many(h:ks.length≠1):gvn got ks=if ks.all (λk=>(Jr got k.toNat).length == 1)=true then some (hdT got ks) else none:=by
 unfold gvn YS
 split
 ·rename_i l e;have:=congrArg Gs e;simp at this;exact absurd this h
 ·simp only[List.all_map,GV];rfl
theorem hdT_snoc{j:Nat}(h:j<ks.length):hdT got (ks.take (j+1))=hdT got (ks.take j)++[(Jr got (ks.getD j 0).toNat).headD .int]:=by unfold hdT;rw[Hw h,kY,Ga,Gf h];rfl
theorem fmGiven(hl:Z.got.length=K.t.nodes.length)(hk:∀k∈ks,0<=k/\k<K.t.nodes.length)(hn:ks.length<=1000):∃x:CV,x.closed=true/\(∀l,gvn Z.got ks=some l->x=txV l)/\FMe Gc 144 [.rslc 1 (iz ks) none] K Z Z (.tup [x,.bool (gvn Z.got ks).isSome]):=by
 have Ae:(iz ks).length=ks.length:=Jf;have AO:(gz Z.got).length=K.t.nodes.length:=by rw[QB,hl]
 by_cases h1:ks.length=1
 ·obtain⟨k,rfl⟩:∃k,ks=[k]:=by
   match ks,h1 with
   |[k],_=>exact⟨_,rfl⟩
  obtain⟨i,rfl⟩:∃i:Nat,k=i:=⟨k.toNat,by have:=(hk k sM).1;omega⟩;have hi:i<K.t.nodes.length:=by have:=(hk (i:Int) sM).2;omega
  have hg:=KV (l:=Z.got) (i:=i) om;refine⟨txV (Jr Z.got i),rfl,λl h=>by rw[gvn_one]at h;cases h;rfl,?_⟩;refine Kk (Ki c144_ok λN=>?_);have d1:(((0+1:Nat):Int) == 1)=true:=rfl;simp only[c144,go_sem,hpF,fRow,Kv,Xp,Gg,Gi,d1];refine JH [0,0,0,1,0,0,0,1,1,0,0] Jm vM ?_;simp only[go_sem,hg,AO,Gg,Gi]
  repeat refine anO ?_
  exact .done (wk.refl _)
 ·have hm:=gvn_many (got:=Z.got) h1;have d1:((ks.length:Int) == 1)=false:=by simpa using (by omega:¬(ks.length:Int)=1)
  have Av:∀j,j<ks.length->∃i:Nat,ks.getD j 0=i/\i<K.t.nodes.length:=λj hj=>by have hm:=hk (ks.getD j 0) (by rw[Ga,Gf hj];exact Gp hj);exact⟨(ks.getD j 0).toNat,om,om⟩
  obtain⟨x,b,Bh,Bg,hb,BB⟩:∃(x:CV) (b:Bool),x.closed=true/\(∀l,gvn Z.got ks=some l->x=txV l)/\b=(gvn Z.got ks).isSome/\((ks.all (λk=>(Jr Z.got k.toNat).length == 1)=true/\x=txV (hdT Z.got ks)/\b=true)\/(ks.all (λk=>(Jr Z.got k.toNat).length == 1)=false/\x=.nils/\b=false)):=by
   cases Aj:ks.all (λk=>(Jr Z.got k.toNat).length == 1) with
   |true=>
    rw[Aj,if_pos rfl]at hm;rw[hm];exact⟨txV (hdT Z.got ks),true,rfl,λl h=>(by cases h;rfl),rfl,.inl ⟨rfl,rfl,rfl⟩⟩
   |false=>rw[Aj,if_neg vk]at hm;rw[hm];exact⟨.nils,false,rfl,λl h=>(by cases h),rfl,.inr ⟨rfl,rfl,rfl⟩⟩
  refine⟨x,Bh,Bg,?_⟩;rw[<-hb];clear hb Bg hm;refine Kk (Ki c144_ok λN=>?_);simp only[c144,go_sem,hpF,fRow,Ae,d1];refine YJ ?_;simp only[go_sem,H8,La];refine Js (I:=λj:Nat=>j<=ks.length/\(ks.take j).all (λk=>(Jr Z.got k.toNat).length == 1)=true) (inv:=λj=>gp [(0,.ptr 0 0 0),(3,Qr 5 (txz (hdT Z.got (ks.take j)))),(17,.rslc 1 (iz ks) none),(0,.int .i64 (ks.length:Int)),(0,.int .i64 (j:Int))] 17) (hp:=λj=>hpF K Z [Xm 1 (txz (hdT Z.got (ks.take j)))]) (μ:=λj=>ks.length-j) 0 [0,1,2,3,4,5] ⟨om,rfl⟩ rfl ?_ ?_ ?_
  ·simp[forget,JG,ren,Jl,gp,hdT,txz,Qr]
  ·exact Qo (K:=K) (Z:=Z) (X:=[.dead]) rfl
  ·rintro j ⟨hj,Bi⟩;by_cases Ab:j<ks.length
   ·have d2:=dtT j ks.length;obtain⟨i,e1,e2⟩:=Av j Ab;have Bp:=JF Ab;by_cases Bl:(Jr Z.got i).length=1
    case neg=>
     have hO:=fmOne (Z:=Z) e2 hl;rw[oneO_none Bl]at hO;rw[e1]at Bp;rcases BB with ⟨Aj,_⟩|⟨_,rfl,rfl⟩
     ·have:=GQ.1 Aj (ks.getD j 0) (by rw[Ga,Gf Ab];exact Gp Ab);rw[e1,Gd]at this;exact absurd (by simpa using this) Bl
     simp only[go_sem,hpF,fRow,d2,Bp,Ae]
     repeat refine anO ?_
     refine KGn hO ?_;simp only[go_sem,hpF,opT,Hm];exact .out (wk.refl _) rfl
    obtain⟨a,ha⟩:∃a,Jr Z.got i=[a]:=by
     match h:Jr Z.got i,Bl with
     |[a],_=>exact⟨_,rfl⟩
    have Rz:(ks.take (j+1)).all (λk=>(Jr Z.got k.toNat).length == 1)=true:=by
     rw[Hw Ab,V8,Bi,GY];have e3:ks[j]=(i:Int):=by rw[<-e1,Ga,Gf Ab];rfl
     simp[e3,Bl]
    have hO:=fmOne (Z:=Z) e2 hl;rw[ha]at hO;have AJ:=hdT_snoc (got:=Z.got) Ab;rw[e1,Gd,ha]at AJ;rw[e1]at Bp;have CG:(txz (hdT Z.got (ks.take j))).length=j:=by rw[KL];simp[hdT];omega
    simp only[go_sem,hpF,fRow,d2,Bp,Ae]
    repeat refine anO ?_
    refine KGn hO ?_;simp only[go_sem,hpF,Kz,opT,Hl];refine⟨by rw[CG];unfold JA;simp[Cond.holds];omega,Jg,j+1,[0,1,2,3,4,7],⟨om,Rz⟩,om,rfl,?_,?_⟩
    ·rw[AJ];simp only[V9];rw[Qe,KN];exact Qo (K:=K) (Z:=Z) (X:=[.dead,.arr 1 [[S (tyT a)]],.arr 1 (txz (hdT Z.got (ks.take j))++[[S (tyT a)]])]) (by have:(txz (hdT Z.got (ks.take j))++[[S (tyT a)]]).map (JG [0,1,2,3,4,7])=_:=Jc (by rw[<-Qe];exact JI _);simp only[Gj,Gl,hpF,G6,Gy,Jo,this])
    ·rw[AJ];simp only[V9];rw[Qe,KM];simp[forget,JG,ren,Jl]
   ·have d2:=dfF j ks.length;obtain rfl:j=ks.length:=om;rw[Lt]at Bi|-;obtain⟨rfl,rfl⟩:x=txV (hdT Z.got ks)/\b=true:=by
     rcases BB with ⟨_,h1,h2⟩|⟨h1,_⟩
     ·exact⟨h1,h2⟩
     ·rw[Bi]at h1;cases h1
    simp only[go_sem,hpF,fRow,d2];generalize hdT Z.got ks=l;rcases l with _|⟨x,l⟩
    ·exact .out (Jal ⟨wk.nils,wk.refl _,trivial⟩) rfl
    ·refine .one 0 rfl (JI (x::l)) ?_ ?_
     ·simp[frz,JK,Qr,txz,CV.closed,Jk]
     ·simp[frz,JK,Qr,txz,txV,Jco];exact wk.refl _
def Ans (K:FT0)(Z:FS)(f:Nat)(args:Lu)(r:Option TL):Prop:=∃x:CV,x.closed=true/\(∀l,r=some l->x=txV l)/\FMe Gc f args K Z Z (.tup [x,.bool r.isSome])
theorem XZ(g:GoodT t o){j:Nat}(hi:i<t.nodes.length)(hj:j<(nd t i).kids.length){c:Int}(hc:(nd t i).kids.getD j 0=c):KK t got i j=Jr got c.toNat:=by unfold KK;rw[if_pos hj,<-hc,JC g hi hj,Gd]
section
variable(g:GoodT K.t o)(ht:K.t.Fit)
include g ht
theorem fmCall(hi:i<K.t.nodes.length)(hk:(nd K.t i).k=26)(Bd:K.of.length=K.t.nodes.length)(CW:K.of.getD i 0=(m:Int))(hm:m<K.t.nodes.length)(BX:(nd K.t m).k=65)(hl:Z.got.length=K.t.nodes.length):Ans K Z 141 [.int .i64 (i:Int)] (Qd K.t m Z.got i):=by
 have Ag:=g.many;have hg:=JX hi;have Bj:=(JbM ht hi).kidn;have Ae:(iz (nd K.t i).kids).length=(nd K.t i).kids.length:=Jf;have hS:=fmSign g ht (Z:=Z) hm BX;have OO:(iz K.of).getD i []=[.int .i64 (m:Int)]:=by rw[JF om,CW]
 have Bn:(iz K.of).length=K.t.nodes.length:=by rw[Jf,Bd]
 rw[JW,hk,Jhl];generalize Eg:Q3 K.t m=sp at *;generalize Iy:XH K.t m=sr at *;have Rh:(txz sp).length=sp.length:=KL;have fZ:sp.length<=30:=by rw[<-Eg];unfold Q3;simp;obtain⟨a,a1,a2,_⟩:=Yc g hm BX;change (nd K.t m).n=a at a1;change a<(nd K.t m).kids.length at a2;have:=(JbM ht hm).kidn;omega
 have Er:∀j,j<(nd K.t i).kids.length->∃c:Nat,(nd K.t i).kids.getD j 0=c/\c<K.t.nodes.length/\KK K.t Z.got i j=Jr Z.got c:=λj hj=>by have h1:=Jz g hi (i:=j) hj;exact⟨_,JC g hi hj,om,by rw[XZ g hi hj (JC g hi hj),Gd]⟩
 obtain⟨x,b,Bh,Bg,hb,BB⟩:∃(x:CV) (b:Bool),x.closed=true/\(∀l,(if (nd K.t i).kids.length=sp.length/\∀j,j<(nd K.t i).kids.length->KK K.t Z.got i j=[sp.getD j .int] then some sr else none)=some l->x=txV l)/\b=(if (nd K.t i).kids.length=sp.length/\∀j,j<(nd K.t i).kids.length->KK K.t Z.got i j=[sp.getD j .int] then some sr else none:Option TL).isSome/\(((nd K.t i).kids.length=sp.length/\(∀j,j<(nd K.t i).kids.length->KK K.t Z.got i j=[sp.getD j .int])/\x=txV sr/\b=true)\/(¬((nd K.t i).kids.length=sp.length/\∀j,j<(nd K.t i).kids.length->KK K.t Z.got i j=[sp.getD j .int])/\x=.nils/\b=false)):=by
  by_cases hc:(nd K.t i).kids.length=sp.length/\∀j,j<(nd K.t i).kids.length->KK K.t Z.got i j=[sp.getD j .int]
  ·rw[if_pos hc];exact⟨txV sr,true,rfl,λl h=>(by cases h;rfl),rfl,.inl ⟨hc.1,hc.2,rfl,rfl⟩⟩
  ·rw[if_neg hc];exact⟨.nils,false,rfl,λl h=>(by cases h),rfl,.inr ⟨hc,rfl,rfl⟩⟩
 refine⟨x,Bh,Bg,?_⟩;rw[<-hb];clear hb Bg;refine Kk (Ki c141_ok λN=>?_);simp only[c141,go_sem,hpF,fRow,OO,Bn]
 repeat refine anO ?_
 refine KGn hS ?_;simp only[go_sem,hpF,fRow,txV,Ja,hg,Nd.cv,Ae,Rh]
 repeat refine anO ?_
 by_cases Ad:(nd K.t i).kids.length=sp.length
 case neg=>
  have d1:(((nd K.t i).kids.length:Int) != (sp.length:Int))=true:=by simp;omega
  rcases BB with ⟨h,_⟩|⟨_,rfl,rfl⟩
  ·exact absurd h Ad
  simp only[go_sem,d1];exact .out (wk.refl _) rfl
 have d1:(((nd K.t i).kids.length:Int) != (sp.length:Int))=false:=by simp[Ad]
 simp only[go_sem,d1];refine Js (I:=λj:Nat=>j<=sp.length/\∀q,q<j->KK K.t Z.got i q=[sp.getD q .int]) (inv:=λj=>gp [(0,.ptr 0 0 0),(6,txV sr),(0,.rslc 1 (iz (nd K.t i).kids) none),(28,txV sp),(0,.int .i64 (sp.length:Int)),(0,.int .i64 (j:Int))] 15) (hp:=λj=>hpF K Z []) (μ:=λj=>sp.length-j) 0 [0,1,2,3,4] ⟨om,λq h=>absurd h om⟩ rfl ?_ ?_ ?_
 ·simp[forget,JG,ren,Jl,gp,txV]
 ·exact Qo (K:=K) (Z:=Z) (X:=[]) rfl
 ·rintro j ⟨hj,Bi⟩;by_cases Ab:j<sp.length
  ·have d2:=dtT j sp.length;obtain⟨c,c1,c2,c3⟩:=Er j om;have Bp:=JF (l:=(nd K.t i).kids) (i:=j) om;rw[c1]at Bp;have Dm:=X3 Ab;have hA:=fmAre (w:=tyT (sp.getD j .int)) (ks:=[(c:Int)]) hl (by simp;omega) sM;rw[JaR,Gd,<-c3]at hA;simp only[go_sem,hpF,fRow,d2,Dm,Bp,Ae,Rh,txV]
   repeat refine anO ?_
   refine Jc3 (K:=K) (Z:=Z) (X:=[.arr 1 [[.int .i64 (c:Int)]]]) 0 rfl rfl rfl ?_;simp only[go_sem,JK,frz,Gj,Gl,Kn,Gz,Gm,if_true,hpF,Gg,Gi,Gh,GU,HV,He];refine KGn hA ?_;by_cases he:KK K.t Z.got i j=[sp.getD j .int]
   ·have e1:(KK K.t Z.got i j == [sp.getD j .int])=true:=by simpa using he
    simp only[go_sem,hpF,e1];refine⟨Jg,j+1,[0,1,2,3,4],⟨om,λq hq=>?_⟩,om,rfl,?_,?_⟩
    ·by_cases BN:q=j
     ·subst BN;exact he
     ·exact Bi q om
    ·exact Qo (K:=K) (Z:=Z) (X:=[.dead]) rfl
    ·simp[forget,JG,ren,Jl]
   ·have e1:(KK K.t Z.got i j == [sp.getD j .int])=false:=by simpa using he
    rcases BB with ⟨_,h,_⟩|⟨_,rfl,rfl⟩
    ·exact absurd (h j om) he
    simp only[go_sem,hpF,e1];exact .out (wk.refl _) rfl
  ·have d2:=dfF j sp.length;obtain rfl:j=sp.length:=om;rcases BB with ⟨_,_,rfl,rfl⟩|⟨h,_⟩
   ·simp only[go_sem,hpF,fRow,d2];exact .done (wk.refl _)
   ·exact absurd ⟨Ad,λq hq=>Bi q om⟩ h
end
section
variable{N:Fr}{T:Lu}{k:LM}{l:LD}{es:List LB}{bs:LB}
theorem vy_pv{x:IArg}{l1 l2:Lu}{xs:LP}(hg:GOk T ge) (hx:Kg T x=.fn f l1 l2) (hF:Jd P f=some F) (EY:(P.funcs[f]?.map (·.name))≠some "runtime.NumGoroutine") (Ah:Pure P E f (l1++xs.map (Kg T)++l2) H v) (h:vdy P E n0 N Q k l bs (put T d v) H):vdyR P E n0 N Q none d (.callv x xs) ge 1 k l bs T H:=by
 refine⟨v,H,⟨λ_ _=>rfl,λT2 H2 ag Bg=>?_⟩,h⟩;have hH:H2=H:=Jai λy=>Bg y trivial
 subst hH;have Bq:∃fn,P.funcs[f]? = some fn/\fn.body.isSome=true:=by
  unfold Jd at hF
  split at hF
  ·rename_i fn Bq
   split at hF
   ·rename_i c hb;exact⟨fn,Bq,by rw[hb];rfl⟩
   ·cases hF
  ·cases hF
 obtain⟨fn,Bq,DI⟩:=Bq;have ha:=(Jj ag).2;have e1:Kg T x=Kg T2 x:=Jy (Jj ha).1;have e2:xs.map (Kg T)=xs.map (Kg T2):=Xi (Jj ha).2;exact⟨H2,λy hy=>(by cases hy),λ_ _=>rfl,λn0 N Q k l Ao=>Jhx (R:=λv' H'=>v'=v/\H'=H2) (Yh ag hg) (by rw[<-e1];exact hx) Bq DI (λe=>EY (by rw[Bq,<-e];rfl)) (by rw[<-e2];exact Ah) λv' H' ⟨h1,h2⟩=>by rw[h1,h2];exact Ao⟩
end
def Jh6 (t:Tr)(got:List TL)(i:Nat)(s:TyX)(j:Nat):Bool:=(Gb j).all λq=>Jbi t got i (q+1) == [s]
theorem JcZ{j:Nat}{s:TyX}:Jh6 t got i s (j+1)=(Jh6 t got i s j && (Jbi t got i (j+1) == [s])):=by unfold Jh6;rw[H9,V8,Hg,Lc,Hu]
section
variable(g:GoodT K.t o)(ht:K.t.Fit)
include g ht
theorem fmLast{u:Nat}(hu:u<K.t.nodes.length)(Ad:0<(nd K.t u).kids.length):Pure Gc E 182 [.int .i64 (u:Int),.ptr 5 0 0] (hpF K Z (.arr 1 [[.ptr 0 0 0]]::X)) (.int .i64 (Ji K.t u:Int)):=by
 have hg:=JX hu;have Ap:(iz (nd K.t u).kids).length=(nd K.t u).kids.length:=Jf;have AO:=lastz g hu Ad;have Bj:=(JbM ht hu).kidn;refine Ki c182_ok λN=>?_
 simp only[c182,go_sem,hpF,fRow,Ja,hg,Nd.cv,Ap,AO]
 repeat refine aN ?_
 omega
omit ht in
theorem arr_two(hi:i<K.t.nodes.length)(hk:(nd K.t i).k=29):2<=(nd K.t i).kids.length:=by have hn:=g.nds (nd K.t i) (by unfold nd;rw[Ga,Gf hi];exact Gp hi);rw[ndI_R]at hn;simp only[Gv]at hn;have h:=hn.2;unfold Qq at h;rw[hk]at h;simp[inI,KH]at h;omega
theorem fmCells(hi:i<K.t.nodes.length)(hk:(nd K.t i).k=29)(hl:Z.got.length=K.t.nodes.length)(hf:∀j,Qg (Jr Z.got j)=true):Ans K Z 143 [.agg (nd K.t i).cv] (Qd K.t m Z.got i):=by
 have Ag:=g.many;have Bj:=(JbM ht hi).kidn;have h2:=arr_two g hi hk;have Ae:(iz (nd K.t i).kids).length=(nd K.t i).kids.length:=Jf;have Er:∀j,1<=j->j<(nd K.t i).kids.length->∃c e:Nat,(nd K.t i).kids.getD j 0=c/\c<K.t.nodes.length/\0<(nd K.t c).kids.length/\Ji K.t c=e/\e<K.t.nodes.length/\Jbi K.t Z.got i j=Jr Z.got e:=λj h1 hj=>by have hm:=Jz g hi (i:=j) hj;have hp:=JeU g hi hk h1 hj;obtain⟨q1,q2,q3⟩:=JeT g (u:=Ju K.t i j) om hp;exact⟨_,_,JC g hi hj,om,q1,rfl,om,by unfold Jbi;rw[if_pos hj]⟩
 have D7:KK K.t Z.got i 0=Jr Z.got (Ju K.t i 0):=by rw[XZ g hi om (JC g hi om),Gd]
 have bV:Ju K.t i 0<K.t.nodes.length:=by have:=Jz g hi (i:=0) om;omega
 obtain⟨c1,e1,p1,p2,p3,p4,p5,p6⟩:=Er 1 om om;have hA:∀(w:LA) (c:Nat),c<K.t.nodes.length->FMe Gc 139 [S w,.rslc 1 (iz [(c:Int)]) none] K Z Z (.bool (areB Z.got w [(c:Int)])):=λw c hc=>fmAre (w:=w) (ks:=[(c:Int)]) hl (by simp;omega) sM
 have hO:=fmOne (Z:=Z) p5 hl;have eu:=Jbe (hf e1);have hr:Qd K.t m Z.got i=if (Kz (Jr Z.got e1)).isSome=true/\Jh6 K.t Z.got i ((Kz (Jr Z.got e1)).getD .int) ((nd K.t i).kids.length-1)=true/\Jr Z.got (Ju K.t i 0)=[.int] then some [.arr ((Kz (Jr Z.got e1)).getD .int)] else none:=by rw[JW,hk,Jd4,p6,D7];rfl
 rw[hr];clear hr;generalize hs:Kz (Jr Z.got e1)=s at *;refine⟨.rslc 1 [[S (91::(opT s++[93]))]] none,rfl,λl h=>?_,?_⟩
 ·split at h
  ·rename_i hc
   cases h
   cases s with
   |none=>exact absurd hc.1 sM
   |some a=>rfl
  ·cases h
 generalize hb:(if s.isSome=true/\Jh6 K.t Z.got i (s.getD .int) ((nd K.t i).kids.length-1)=true/\Jr Z.got (Ju K.t i 0)=[.int] then some [TyX.arr (s.getD .int)] else none).isSome=b;have Ca:b=(s.isSome && Jh6 K.t Z.got i (s.getD .int) ((nd K.t i).kids.length-1) && (Jr Z.got (Ju K.t i 0) == [TyX.int])):=by
  rw[<-hb]
  cases s.isSome <;> cases Jh6 K.t Z.got i (s.getD .int) ((nd K.t i).kids.length-1) <;> by_cases h:Jr Z.got (Ju K.t i 0)=[TyX.int] <;> simp[h]
 clear hb;refine Kk (Ki c143_ok λN=>?_);simp only[c143,go_sem,hpF,fRow,Nd.cv];refine Jc3 (K:=K) (Z:=Z) (X:=[.arr 1 [[.ptr 0 0 0]],.arr 5 [(nd K.t i).cv]]) 1 rfl rfl rfl ?_;simp only[go_sem,JK,frz,Gj,Gl,Kn,Gz,GK,hpF,show ¬(0:Nat)=1+5 by decide,show ¬(5:Nat)=1+5 by decide,if_false,if_true,Nd.cv,Gy,GU];have ed:=fmLast g ht (Z:=Z) (E:=Env.none) (X:=[.dead]) p2 p3;rw[p4]at ed;have AU:(iz ((nd K.t i).kids.drop 1)).length=(nd K.t i).kids.length-1:=by rw[Jf,G9]
 have Cg:(iz ((nd K.t i).kids.drop 1)).take ((nd K.t i).kids.length-1)=iz ((nd K.t i).kids.drop 1):=GJ (Lg AU);have Ib:=JF (l:=(nd K.t i).kids) (i:=1) om;rw[p1]at Ib;refine JH [1,0,0,0,0,0,1,1,0,0,0,0,0] Jm vM ?_;simp only[go_sem,Ae,Ib];refine anO ?_;refine vy_pv (.inl rfl) rfl c182_ok nm ed ?_;simp only[go_sem];refine vy_p (.inl rfl) (hO.on (X:=[.arr 1 [[.ptr 0 0 0]],.dead]) rfl rfl) ?_;simp only[go_sem,Ae,Jh0,Cg,AU];refine anO ?_;refine JL (I:=λj:Nat=>j<=(nd K.t i).kids.length-1) (inv:=λj=>gp [(2,.ptr 5 0 0),(0,.rptr (nd K.t i).cv),(2,.fn 182 [] [.ptr 5 0 0]),(0,S (opT s)),(0,.bool (s.isSome && Jh6 K.t Z.got i (s.getD .int) j)),(16,.rslc 1 (iz ((nd K.t i).kids.drop 1)) none),(0,.int .i64 (((nd K.t i).kids.length-1:Nat):Int)),(0,.int .i64 (j:Int))] 27) (hp:=λj=>hpF K Z [.arr 1 [[.ptr 0 0 0]],.dead]) (μ:=λj=>(nd K.t i).kids.length-1-j) 0 om ?_ rfl ?_
 ·simp[forget,gp,Nd.cv,Jh6,-List.drop_one]
 ·intro j hj;by_cases Ab:j<(nd K.t i).kids.length-1
  ·have d1:((j:Int)<(((nd K.t i).kids.length-1:Nat):Int))=True:=J4;obtain⟨c,e,q1,q2,q3,q4,q5,q6⟩:=Er (j+1) om om;have Bp:(iz ((nd K.t i).kids.drop 1)).getD j []=[.int .i64 (c:Int)]:=by rw[JF (by rw[G9];omega),Ga,Lr,<-Ga,Nat.add_comm 1 j,q1]
   have d9:=fmLast g ht (Z:=Z) (E:=Env.none) (X:=[.dead]) q2 q3;rw[q4]at d9;have BH:Jh6 K.t Z.got i (s.getD .int) (j+1)=(Jh6 K.t Z.got i (s.getD .int) j && (Jr Z.got e == [s.getD .int])):=by rw[JcZ,q6]
   generalize Jh6 K.t Z.got i (s.getD .int) j=u at BH|-;simp only[go_sem,hpF,fRow,d1,Bp,AU];refine anO ?_;refine JH [0,0,1,0,0,0,1,0,1,0,0] Jm vM ?_
   cases Ao:(s.isSome && u) with
   |false=>simp only[go_sem];refine⟨Jg,j+1,om,om,?_⟩;rw[BH,<-Bool.and_assoc,Ao];simp[forget,Nd.cv]
   |true=>
    obtain⟨a,rfl⟩:∃a,s=some a:=by
     cases s with
     |none=>cases Ao
     |some a=>exact⟨a,rfl⟩
    have hu:u=true:=by simpa using Ao
    subst hu;have Uh:=hA (tyT a) e q5;rw[JaR,Gd]at Uh;simp only[go_sem];refine vy_pv (gok rfl) rfl c182_ok nm d9 ?_;simp only[go_sem];refine YI (iz [(e:Int)]) (gok rfl) rfl rfl rfl rfl ?_;simp only[go_sem];refine vy_p (gok rfl) (Uh.on (X:=[.arr 1 [[.ptr 0 0 0]],.dead]) rfl rfl) ?_;simp only[go_sem];refine⟨Jg,j+1,om,om,?_⟩;simp only[GD]at BH|-;rw[BH];simp[forget,Nd.cv]
  ·have d1:((j:Int)<(((nd K.t i).kids.length-1:Nat):Int))=False:=JS;obtain rfl:j=(nd K.t i).kids.length-1:=om;have Uh:=hA (tyT .int) _ bV;rw[JaR,Gd]at Uh;have FK:=JF (l:=(nd K.t i).kids) (i:=0) om;rw[JC g hi om]at FK;generalize (s.isSome && Jh6 K.t Z.got i (s.getD .int) ((nd K.t i).kids.length-1))=u at *;simp only[go_sem,hpF,fRow,d1];refine JH [0,0,0,0,0,1,0,0,0,0,0,1,0,0,0] Jm vM ?_;simp only[go_sem];refine Jdx (.inl rfl) (typArray (opT s) om) ?_;simp only[go_sem];refine YI [[S (91::(opT s++[93]))]] (.inl rfl) rfl rfl rfl rfl ?_
   cases u with
   |false=>rw[Ht]at Ca;subst Ca;simp only[go_sem];exact .out (wk.refl _) rfl
   |true=>rw[GY]at Ca;simp only[go_sem,Nd.cv,Ae,FK];refine anO ?_;refine YI (iz [(Ju K.t i 0:Int)]) (gok rfl) rfl rfl rfl rfl ?_;simp only[go_sem];refine vy_p (gok rfl) (Uh.on (X:=[.arr 1 [[.ptr 0 0 0]],.dead]) rfl rfl) ?_;simp only[go_sem];rw[<-Ca];exact .out (wk.refl _) rfl
end
theorem Ans.of{args:Lu}{b:Bool}(x:CV)(hr:r=if b=true then some l else none)(hx:x.closed=true)(he:b=true->x=txV l)(h:FMe Gc f args K Z Z (.tup [x,.bool b])):Ans K Z f args r:=by
 subst hr;refine⟨x,hx,λl' h'=>?_,?_⟩
 ·split at h'
  ·rename_i hb;cases h';exact he hb
  ·cases h'
 ·rw[show (if b=true then some l else none:Option TL).isSome=b by cases b <;> rfl];exact h
theorem kid_pair(g:GoodT t o)(hi:i<t.nodes.length)(hl:(nd t i).kids.length=2):(nd t i).kids=[(Ju t i 0:Int),(Ju t i 1:Int)]:=by
 rw[<-JC g hi om,<-JC g hi om]
 match h:(nd t i).kids,hl with
 |[a,b],_=>rfl
section
variable(g:GoodT K.t o)(ht:K.t.Fit)
include g ht
omit ht in
theorem small1(hi:i<K.t.nodes.length)(hk:(nd K.t i).k=1\/(nd K.t i).k=2):Ans K Z 88 [.int .i64 (i:Int)] (Qd K.t m Z.got i):=by
 have Ag:=g.many;have hg:=JX hi;rcases hk with hk|hk
 case' inl=>refine Ans.of (b:=true) (l:=[.int]) (txV [.int]) (by rw[JW,hk];rfl) rfl (λ_=>rfl) ?_
 case' inr=>refine Ans.of (b:=true) (l:=[.bool]) (txV [.bool]) (by rw[JW,hk];rfl) rfl (λ_=>rfl) ?_
 all_goals
  refine Kk (vfS c88_ok λN=>?_);simp only[c88,go_sem,hpF,fRow,Ja,hg,Nd.cv,hk,Gq]
  repeat refine anO ?_
  exact .one 1 rfl rfl rfl (wk.refl _)
omit ht in
theorem small2(hi:i<K.t.nodes.length)(hk:4<=(nd K.t i).k/\(nd K.t i).k<=18)(hl:Z.got.length=K.t.nodes.length)(hf:∀j,Qg (Jr Z.got j)=true):Ans K Z 88 [.int .i64 (i:Int)] (Qd K.t m Z.got i):=by
 have Ag:=g.many;have hg:=JX hi;have Ap:=kids_two g hi hk;have hp:=kid_pair g hi Ap;have h0:=Jz g hi (i:=0) om;have h1:=Jz g hi (i:=1) om;have k0:=XZ g (got:=Z.got) hi (j:=0) om (JC g hi om);have k1:=XZ g (got:=Z.got) hi (j:=1) om (JC g hi om);rw[Gd]at k0 k1;generalize Ju K.t i 0=a at *;generalize Ju K.t i 1=b at *;have Am:a<K.t.nodes.length:=om;have Bo:b<K.t.nodes.length:=om;have hA:=λw=>fmAre (K:=K) (Z:=Z) (w:=tyT w) (ks:=[(a:Int),(b:Int)]) hl (by simp;omega) sM
 simp only[are_cons (l:=[(b:Int)]),JaR,Gd]at hA;have bQ:=hA .int;have fw:=hA .bool;have hB:=λ(w:LA) (c:Nat) (hc:c<K.t.nodes.length)=>fmAre (K:=K) (Z:=Z) (w:=w) (ks:=[(c:Int)]) hl (by simp;omega) sM
 have SL:=Jgw (K:=K) Bo hl (hf b);have Ug:=fmArrayed (K:=K) Am hl (hf a);have Ck:=prt_len (a:=Kz (Jr Z.got b));have Rk:=Jbe (hf b);have gy:=prt_len (a:=Kz (Jr Z.got a));have gq:=Jbe (hf a);clear hA;rcases (show (nd K.t i).k=4\/(nd K.t i).k=18\/((nd K.t i).k=5\/(nd K.t i).k=6)\/((nd K.t i).k=7\/(nd K.t i).k=8)\/((nd K.t i).k=9\/(nd K.t i).k=10\/(nd K.t i).k=11\/(nd K.t i).k=12)\/((nd K.t i).k=13\/(nd K.t i).k=14\/(nd K.t i).k=15\/(nd K.t i).k=16\/(nd K.t i).k=17) by omega) with hk|hk|hk|hk|hk|hk
 ·refine Ans.of (.rslc 1 [[S (Xg++opT (prt (Kz (Jr Z.got b))))]] none) (by rw[JW,hk,Jhk,k0,k1]) rfl (λh=>?_) ?_
  ·simp only[Gv]at h;obtain⟨e,he⟩:=Je4.1 h.1;rw[he];rfl
  refine Kk (vfS c88_ok λN=>?_);simp only[c88,go_sem,hpF,fRow,Ja,hg,Nd.cv,hk,hp,Gq,Kv,Xp,Gg,Gi]
  repeat refine anO ?_
  refine KGn SL ?_;simp only[go_sem];refine JU (Jcm _ om) ?_;simp only[go_sem,hpF]
  cases hs:isStr (Kz (Jr Z.got b)) with
  |false=>simp only[go_sem,Ht];exact .one 1 rfl rfl rfl (wk.refl _)
  |true=>obtain⟨e,he⟩:=Je4.1 hs;have Pn:=hB (tyT e) a Am;rw[JaR,Gd]at Pn;simp only[go_sem,he,prt,opT,GD,GY];refine anO ?_;refine Jc3 (K:=K) (Z:=Z) 2 rfl rfl rfl ?_;simp only[go_sem,JK,frz,Gj,Gl,Kn,Gz,GK,hpF,V6,V7,Gm,Gh,GU,HV,He,Gg,Gi];refine KG Pn (gok rfl) rfl rfl rfl rfl ?_;simp only[go_sem,hpF];exact .one 1 rfl rfl rfl (wk.refl _)
 ·refine Ans.of (.rslc 1 [[S (opT (prt (Kz (Jr Z.got a))))]] none) (by rw[JW,hk,Jhh,k0,k1]) rfl (λh=>?_) ?_
  ·simp only[Gv]at h;obtain⟨e,he⟩:=isArr_iff.1 h.1;rw[he];rfl
  refine Kk (vfS c88_ok λN=>?_);simp only[c88,go_sem,hpF,fRow,Ja,hg,Nd.cv,hk,hp,Gq,Kv,Xp,Gg,Gi]
  repeat refine anO ?_
  refine KGn Ug ?_;simp only[go_sem,hpF]
  cases hs:Jca (Kz (Jr Z.got a)) with
  |false=>simp only[go_sem,Ht];exact .one 1 rfl rfl rfl (wk.refl _)
  |true=>have Pn:=hB (tyT .int) b Bo;rw[JaR,Gd]at Pn;simp only[go_sem,GY];refine anO ?_;refine Jc3 (K:=K) (Z:=Z) 2 rfl rfl rfl ?_;simp only[go_sem,JK,frz,Gj,Gl,Kn,Gz,GK,hpF,V6,V7,Gm,Gh,GU,HV,He,Gg,Gi];refine KG Pn (gok rfl) rfl rfl rfl rfl ?_;simp only[go_sem,hpF];exact .one 1 rfl rfl rfl (wk.refl _)
 ·refine Ans.of (txV [.bool]) (by rw[JW,rk_or hk,k0,k1]) rfl (λ_=>rfl) ?_;rcases hk with hk|hk
  all_goals
   refine Kk (vfS c88_ok λN=>?_);simp only[c88,go_sem,hpF,fRow,Ja,hg,Nd.cv,hk,hp,Gq]
   repeat refine anO ?_
   refine KGn fw ?_;simp only[go_sem];exact .one 1 rfl rfl rfl (wk.refl _)
 ·refine Ans.of (txV [.bool]) (by rw[JW,rk_eq hk,k0,k1]) rfl (λ_=>rfl) ?_;rcases hk with hk|hk
  all_goals
   refine Kk (vfS c88_ok λN=>?_);simp only[c88,go_sem,hpF,fRow,Ja,hg,Nd.cv,hk,hp,Gq]
   repeat refine anO ?_
   refine KGn bQ ?_
   cases hx:(Jr Z.got a == [TyX.int] && Jr Z.got b == [TyX.int]) with
   |true=>simp only[go_sem,hpF,Bool.true_or];exact .one 1 rfl rfl rfl (wk.refl _)
   |false=>simp only[go_sem,hpF,Bool.false_or];refine KG fw (gok rfl) rfl rfl rfl rfl ?_;simp only[go_sem];exact .one 1 rfl rfl rfl (wk.refl _)
 ·refine Ans.of (txV [.bool]) (by rw[JW,rk_lt om,k0,k1]) rfl (λ_=>rfl) ?_;rcases hk with hk|hk|hk|hk
  all_goals
   refine Kk (vfS c88_ok λN=>?_);simp only[c88,go_sem,hpF,fRow,Ja,hg,Nd.cv,hk,hp,Gq]
   repeat refine anO ?_
   refine KGn bQ ?_;simp only[go_sem];exact .one 1 rfl rfl rfl (wk.refl _)
 ·refine Ans.of (txV [.int]) (by rw[JW,rk_add om,k0,k1]) rfl (λ_=>rfl) ?_;rcases hk with hk|hk|hk|hk|hk
  all_goals
   refine Kk (vfS c88_ok λN=>?_);simp only[c88,go_sem,hpF,fRow,Ja,hg,Nd.cv,hk,hp,Gq]
   repeat refine anO ?_
   refine KGn bQ ?_;simp only[go_sem];exact .one 1 rfl rfl rfl (wk.refl _)
end
def Ln (got:List TL):Prop:=∀j,(Jr got j).length<=30
theorem ln_set(h:Ln got)(hl:l.length<=30):Ln (got.set i l):=λj=>by
 by_cases hi:i<got.length
 ·rw[JaL hi]
  split
  ·exact hl
  ·exact h j
 ·rw[List.set_eq_of_length_le om];exact h j
theorem given_len {ls:List TL}(h:YS ls=some l)(h1:ls.length<=30)(h2:∀x∈ls,x.length<=30):l.length<=30:=by
 unfold YS at h
 split at h
 ·cases h;exact h2 _ sM
 ·split at h
  ·cases h;simpa using h1
  ·cases h
theorem rule_len{k:Nat}{K:Nat->TL}{ty:TyX}(h:J9 k ks n K L ty sp sr si gm=some l)(hK:∀j,(K j).length<=30)(Bw:ks.length<=30)(Iy:sr.length<=30):l.length<=30:=by
 have hg:∀(m:Nat) (f:Nat->Nat),m<=30->YS ((Gb m).map λj=>K (f j))=some l->l.length<=30:=λm f hm h=>given_len h (by simpa using hm) λx hx=>by obtain⟨j,_,rfl⟩:=Lb.1 hx;exact hK _
 have BK:∀{c:Prop} [Decidable c] {x:TL},(if c then some x else none)=some l->x.length<=30->l.length<=30:=λh hx=>by
  split at h
  ·cases h;exact hx
  ·cases h
 have one:∀a:TyX,([a]:TL).length<=30:=λa=>sM
 by_cases e1:k=1
 ·subst e1;cases h;exact one _
 by_cases e2:k=2
 ·subst e2;cases h;exact one _
 by_cases e4:k=4
 ·subst e4;rw[Jhk]at h;exact BK h (one _)
 by_cases e5:k=5\/k=6
 ·rw[rk_or e5]at h;exact BK h (one _)
 by_cases e7:k=7\/k=8
 ·rw[rk_eq e7]at h;exact BK h (one _)
 by_cases e9:9<=k/\k<=12
 ·rw[rk_lt e9]at h;exact BK h (one _)
 by_cases e13:13<=k/\k<=17
 ·rw[rk_add e13]at h;exact BK h (one _)
 by_cases e18:k=18
 ·subst e18;rw[Jhh]at h;exact BK h (one _)
 by_cases e19:k=19
 ·subst e19;rw[rk_not]at h;exact BK h (one _)
 by_cases e20:k=20
 ·subst e20;rw[rk_neg]at h;exact BK h (one _)
 by_cases e21:k=21
 ·subst e21;rw[Jhj]at h;exact BK h (one _)
 by_cases e22:k=22
 ·subst e22;rw[Jhf]at h;exact BK h (hK _)
 by_cases e23:k=23
 ·subst e23;rw[Jd3]at h;exact BK h (one _)
 by_cases e24:k=24
 ·subst e24;rw[Jhg]at h;exact BK h (one _)
 by_cases e25:k=25
 ·subst e25;cases h;exact one _
 by_cases e26:k=26
 ·subst e26;rw[Jhl]at h;exact BK h Iy
 by_cases e27:k=27
 ·subst e27;rw[rk_if]at h;exact BK h (hK _)
 by_cases e28:k=28
 ·subst e28;rw[Jhi]at h;exact BK h (hK _)
 by_cases e29:k=29
 ·subst e29;rw[Jd4]at h;exact BK h (one _)
 by_cases e40:k=40
 ·subst e40;exact hg _ _ om h
 by_cases e45:k=45
 ·subst e45;exact hg _ id om h
 by_cases e42:k=42
 ·subst e42;rw[Jdd]at h
  split at h <;> cases h <;> simp
 by_cases e64:k=64
 ·subst e64;cases h;exact one _
 by_cases e43:k=43
 ·subst e43;rw[rk_init]at h;exact BK h (one _)
 by_cases e44:k=44
 ·subst e44;rw[rk_next]at h;exact BK h sM
 by_cases e47:k=47
 ·subst e47;cases h;exact one _
 by_cases e65:k=65
 ·subst e65;rw[rk_def]at h;exact BK h sM
 have:J9 k ks n K L ty sp sr si gm=some []:=by unfold J9;simp only[e1,e2,e4,e5,e7,e9,e13,e18,e19,e20,e21,e22,e23,e24,e25,e26,e27,e28,e29,e40,e45,e42,e64,e43,e44,e47,e65,if_false]
 rw[this]at h;cases h;simp
theorem sig_len (ht:t.Fit)(d:Nat):(XH t d).length<=30:=by
 unfold XH;simp only[kZ,G7];by_cases hd:d<t.nodes.length
 ·have:=(JbM ht hd).kidn;omega
 ·have:(nd t d).kids=[]:=by unfold nd;rw[Ga,Gw om];rfl
  rw[this];simp
theorem kids_len (ht:t.Fit)(d:Nat):(nd t d).kids.length<=30:=by
 by_cases hd:d<t.nodes.length
 ·exact(JbM ht hd).kidn
 ·have:(nd t d).kids=[]:=by unfold nd;rw[Ga,Gw om];rfl
  rw[this];simp
theorem putB_ln {s:Nat}(h:Ln got):∀m,Ln (Yb t s l got m)
 |0=>h
 |m+1=>by
  rw[Yb]
  split
  ·exact ln_set (putB_ln h m) sM
  ·exact putB_ln h m
theorem Jcs {s:Nat}{S:FS}(h:Ln S.got):Ln (JR t s S).got:=by
 unfold JR;simp only
 split
 ·exact putB_ln h _
 ·unfold FS.fail;split <;> exact h
theorem fin_ln {S:FS}(h:Ln S.got)(hr:∀l,r=some l->l.length<=30):Ln (S.fin i r).got:=by
 have hF:Ln (S.fail i).got:=by unfold FS.fail;split <;> exact h
 unfold FS.fin
 cases r with
 |none=>exact hF
 |some l=>
  simp only
  split
  ·exact h
  ·split
   ·simp only
    split
    ·exact h
    ·exact ln_set h (hr l rfl)
   ·exact hF
theorem doF_ln (ht:t.Fit){mean:Nat->Nat}:∀(f:Nat) (S:FS) (i:Nat),Ln S.got->Ln (doF t o mean f S i).got
 |0,S,i,h=>h
 |f+1,S,i,h=>by
  have ih:=doF_ln ht (mean:=mean) f;rw[doF]
  split
  ·exact h
  split
  ·have hd:∀S' r,Y3 t o (doF t o mean f) (mean i) i S=(S',r)->Ln S'.got/\∀l,r=some l->l.length<=30:=by
    intro S' r e;have Oo:∀(l:LB) (S:FS),Ln S.got->Ln (l.foldl (doF t o mean f) S).got:=by
     intro l
     induction l with
     |nil=>intro S h;exact h
     |cons x l ih2=>intro S h;exact ih2 _ (ih S x h)
    unfold Y3 at e
    split at e
    ·cases e;exact⟨h,λl hl=>by cases hl;simp⟩
    ·split at e
     ·cases e;exact⟨h,λl hl=>by cases hl;simp⟩
     ·split at e
      ·cases e
       have hF:Ln (Qn t o (doF t o mean f) (Ky t (mean i)).toNat i S).got:=by
        unfold Qn
        split
        ·unfold FS.fail;split <;> exact h
        ·simp only
         split
         ·exact Oo _ _ h
         ·exact Jcs (Oo _ _ h)
       exact⟨hF,λl hl=>by cases hl;exact hF _⟩
      ·cases e;exact⟨h,λl hl=>by cases hl;exact h _⟩
   obtain⟨h1,h2⟩:=hd _ _ rfl;exact fin_ln h1 h2
  ·split
   ·refine fin_ln ?_ λl hl=>?_
    ·unfold YC;split
     ·exact h
     ·exact Jcs h
    ·split at hl
     ·cases hl;simp
     ·cases hl
   ·refine fin_ln h λl hl=>?_
    rw[JW]at hl;exact rule_len hl (λj=>by unfold KK;split;exact h _;simp) (kids_len ht i) (sig_len ht _)
end Go.Cm
end
end
