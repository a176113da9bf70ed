/-
  A part of the proof. Conditions: none.
-/
import Derived.Test.YtejfnfphmkjffaaGreatDoorUP50
set_option linter.unusedSimpArgs false
set_option linter.unusedVariables false
open List renaming getD_eq_getElem?_getD->Ga,getElem?_eq_getElem->Gd,range->Gb,getElem?_replicate->Gj,getElem_mem->Gg,filter_cons->Gh,length->Gf,eq_nil_of_length_eq_zero->Gn,pairwise_iff_getElem->Gp,length_cons->Gm,getElem?_set->Gq,length_filter_le->Gt,length_range->Gu,foldl_append->Gv,replicate->Gw,mem_range->Gx
open Bool renaming and_eq_true->Gr,or_eq_false_iff->Gy
open Nat renaming le_refl->Gi,zero_add->Gl,lt_of_not_le->Gs
open Int renaming toNat_natCast->Gc
noncomputable section
section
set_option maxRecDepth 100000
open Go.Proofs
namespace Go.Cm
inductive TyX where
 |int
 |bool
 |arr (a:TyX)
 |str (a:TyX)
 deriving DecidableEq,Inhabited
def XJ:List UInt8:=[115,116,114,101,97,109,32]
def tyT:TyX->List UInt8
 |.int=>[105,110,116]
 |.bool=>[98,111,111,108]
 |.arr a=>91::(tyT a++[93])
 |.str a=>XJ++tyT a
def tyP:TyX->Nat
 |.int=>1
 |.bool=>1
 |.arr a=>tyP a+1
 |.str a=>tyP a+1
theorem Jge:∀{a b:TyX},tyT a=tyT b->a=b
 |.int,.int,_=>rfl
 |.bool,.bool,_=>rfl
 |.arr a,.arr b,h=>by
  simp only[tyT,List.cons.injEq,true_and]at h;rw[Jge (List.append_cancel_right h)]
 |.str a,.str b,h=>by
  simp only[tyT]at h;rw[Jge (List.append_cancel_left h)]
 |.int,.bool,h=>by simp[tyT]at h
 |.int,.arr _,h=>by simp[tyT]at h
 |.int,.str _,h=>by simp[tyT,XJ]at h
 |.bool,.int,h=>by simp[tyT]at h
 |.bool,.arr _,h=>by simp[tyT]at h
 |.bool,.str _,h=>by simp[tyT,XJ]at h
 |.arr _,.int,h=>by simp[tyT]at h
 |.arr _,.bool,h=>by simp[tyT]at h
 |.arr _,.str _,h=>by simp[tyT,XJ]at h
 |.str _,.int,h=>by simp[tyT,XJ]at h
 |.str _,.bool,h=>by simp[tyT,XJ]at h
 |.str _,.arr _,h=>by simp[tyT,XJ]at h
theorem tyT_eq {a b:TyX}:(tyT a == tyT b)=(a == b):=by
 rw[Bool.eq_iff_iff,beq_iff_eq,beq_iff_eq];exact⟨Jge,λh=>by rw[h]⟩
theorem tyT_ne {a:TyX}:tyT a≠[]:=by cases a <;> simp[tyT,XJ]
abbrev TL:=List TyX
def tyF (t:Tr):Nat->Nat->TyX
 |0,_=>.int
 |f+1,i=>if (nd t i).k=60 then .int else if (nd t i).k=61 then .bool else if (nd t i).k=62 then .arr (tyF t f (JL t i 0)) else .str (tyF t f (JL t i 0))
def tyN (t:Tr)(i:Nat):TyX:=tyF t (i+1) i
def Jar (t:Tr)(d:Nat):TL:=(Gb (nd t d).n.toNat).map λk=>tyN t (JL t (JL t d k) 0)
def Y1 (t:Tr)(d:Nat):TL:=(Gb ((nd t d).kids.length-1-(nd t d).n.toNat)).map λk=>tyN t (JL t d ((nd t d).n.toNat+k))
def JG (got:List TL)(i:Nat):TL:=got.getD i []
def Yn (ls:List TL):Option TL:=match ls with
 |[l]=>some l
 |_=>if ls.all (λl=>l.length == 1) then some (ls.map λl=>l.headD .int) else none
def Jce (t:Tr)(got:List TL)(i j:Nat):TL:=if j<(nd t i).kids.length then JG got (Jl t (JL t i j)) else []
def Xp (t:Tr)(m:Nat)(got:List TL)(i:Nat):Option TL:=
 let k:=(nd t i).k
 let K:=λj=>if j<(nd t i).kids.length then JG got (JL t i j) else []
 if k=1 then some [.int]
 else if k=2 then some [.bool]
 else if k=4 then match K 1 with
  |[.str a]=>if K 0=[a] then some [.str a] else none
  |_=>none
 else if k=5\/k=6 then if K 0=[.bool]/\K 1=[.bool] then some [.bool] else none
 else if k=7\/k=8 then if K 0=[.int]/\K 1=[.int]\/K 0=[.bool]/\K 1=[.bool] then some [.bool] else none
 else if 9<=k/\k<=12 then if K 0=[.int]/\K 1=[.int] then some [.bool] else none
 else if 13<=k/\k<=17 then if K 0=[.int]/\K 1=[.int] then some [.int] else none
 else if k=18 then match K 0 with
  |[.arr a]=>if K 1=[.int] then some [a] else none
  |_=>none
 else if k=19 then if K 0=[.bool] then some [.bool] else none
 else if k=20 then if K 0=[.int] then some [.int] else none
 else if k=21 then match K 0 with
  |[.str a]=>some [a]
  |_=>none
 else if k=22 then match K 0 with
  |[.str a]=>some [.str a]
  |_=>none
 else if k=23 then match K 0 with
  |[.str _]=>some [.bool]
  |_=>none
 else if k=24 then match K 0 with
  |[.arr _]=>some [.int]
  |_=>none
 else if k=25 then some [.str (tyN t (JL t i 0))]
 else if k=26 then if (nd t i).kids.length=(Jar t m).length/\∀j,j<(nd t i).kids.length->K j=[(Jar t m).getD j .int] then some (Y1 t m) else none
 else if k=27 then if K 0=[.bool]/\K 1=K 2 then some (K 1) else none
 else if k=28 then if K (nd t i).n.toNat=[.bool] then some (K ((nd t i).kids.length-1)) else none
 else if k=29 then match Jce t got i 1 with
  |[a]=>if ((Gb ((nd t i).kids.length-1)).all λj=>Jce t got i (j+1) == [a])=true/\K 0=[.int] then some [.arr a] else none
  |_=>none
 else if k=40 then Yn ((Gb ((nd t i).kids.length-(nd t i).n.toNat)).map λj=>K ((nd t i).n.toNat+j))
 else if k=45 then Yn ((Gb (nd t i).kids.length).map K)
 else if k=42 then if (nd t i).kids=[] then some [] else some [tyN t (JL t i 0)]
 else if k=64 then some [tyN t (JL t i 0)]
 else if k=43 then if (K 0).length=1 then some (K 0) else none
 else if k=44 then if (JG got m).length=1/\K 0=JG got m then some [] else none
 else if k=47 then some [.int]
 else if k=65 then if K ((nd t i).kids.length-1)=Y1 t i then some [] else none
 else some []
def Jat (k:Nat)(b:Bool):List (Nat×Bool)->List (Nat×Bool)
 |[]=>[(k,b)]
 |(j,c)::l=>if j=k then(k,b)::l else(j,c)::Jat k b l
def KC (l:List (Nat×Bool))(k:Nat):Bool:=match l with
 |[]=>false
 |(j,c)::l=>if j=k then c else KC l k
theorem XU {k j:Nat}{b:Bool}:∀{l:List (Nat×Bool)},KC (Jat k b l) j=if j=k then b else KC l j
 |[]=>by
  show (if k=j then b else KC [] j)=if j=k then b else KC [] j
  by_cases h:j=k
  ·rw[if_pos h,if_pos h.symm]
  ·rw[if_neg h,if_neg (λe:k=j=>h e.symm)]
 |(a,c)::l=>by
  rw[Jat];by_cases h:a=k
  ·subst h;rw[if_pos rfl,KC,KC];by_cases e:j=a
   ·subst e;simp
   ·rw[if_neg (λx=>e x.symm),if_neg e,if_neg (λx=>e x.symm)]
  ·rw[if_neg h,KC,KC,XU];by_cases e:a=j
   ·subst e;rw[if_pos rfl,if_pos rfl,if_neg h]
   ·rw[if_neg e,if_neg e]
structure FS where
 got:List TL
 dn:List Bool
 fd:List (Nat×Bool)
 fg:List (Nat×Bool)
 bad:Option Nat
def FS.fail (S:FS)(i:Nat):FS:=if S.bad.isSome then S else { S with bad:=some i }
def Yd (l:TL):Bool:=l.all λa=>decide (tyP a<=20)
def FS.fin (S:FS)(i:Nat)(r:Option TL):FS:=match r with
 |none=>S.fail i
 |some l=>if S.bad.isSome then S else if Yd l=true then { S with got:=if l=[] then S.got else S.got.set i l,dn:=S.dn.set i true } else S.fail i
def Jbp (t:Tr)(s:Nat)(l:TL)(got:List TL):Nat->List TL
 |0=>got
 |k+1=>if (nd t (JL t s k)).kids=[] then(Jbp t s l got k).set (JL t s k) [l.getD k .int] else Jbp t s l got k
def Kc (t:Tr)(s:Nat)(S:FS):FS:=
 let l:=JG S.got (Jl t s)
 if l.length=(nd t s).n.toNat then { S with got:=Jbp t s l S.got (nd t s).n.toNat,fd:=Jat s true S.fd } else S.fail s
def K8 (a n:Nat):List Nat:=(Gb n).map λj=>a+j
def XB (t:Tr)(o:List Int)(go:FS->Nat->FS)(s i:Nat)(S:FS):FS:=
 if KC S.fg s=true then S.fail i
 else
  let e:=Jl t s
  let S1:=(K8 (fs o e).toNat (e+1-(fs o e).toNat)).foldl go { S with fg:=Jat s true S.fg }
  let S2:=if S1.bad.isSome then S1 else Kc t s S1
  { S2 with fg:=Jat s false S2.fg }
def JbP (t:Tr)(o:List Int)(go:FS->Nat->FS)(m i:Nat)(S:FS):FS×Option TL:=
 if (nd t m).k=47 then(S,some [.int])
 else if (nd t m).k=64\/(nd t m).k=42/\(nd t m).kids≠[] then(S,some [tyN t (JL t m 0)])
 else if (nd t m).k=42/\KC S.fd (Kh t m).toNat=false then
  let S':=XB t o go (Kh t m).toNat i S
  (S',some (JG S'.got m))
 else(S,some (JG S.got m))
def Jaq (t:Tr)(s:Nat)(l:TL):Bool:=(Gb (nd t s).n.toNat).all λk=>(nd t (JL t s k)).kids.isEmpty || tyN t (JL t (JL t s k) 0) == l.getD k .int
def Jau (t:Tr)(s:Nat)(S:FS):FS:=if KC S.fd s=true then S else Kc t s S
def doF (t:Tr)(o:List Int)(mean:Nat->Nat):Nat->FS->Nat->FS
 |0,S,_=>S
 |f+1,S,i=>
  if S.bad.isSome || S.dn.getD i false then S
  else if (nd t i).k=3 then
   let r:=JbP t o (doF t o mean f) (mean i) i S
   r.1.fin i r.2
  else if (nd t i).k=41 then
   let S':=Jau t i S
   S'.fin i (if Jaq t i (JG S'.got (Jl t i))=true then some [] else none)
  else S.fin i (Xp t (mean i) S.got i)
def FS.start (t:Tr):FS:=⟨Gw t.nodes.length [],Gw t.nodes.length false,[],[],none⟩
def Km (t:Tr)(o:List Int):FS:=(Gb t.nodes.length).foldl (doF t o (λi=>(JU t o i).toNat) (t.nodes.length+1)) (FS.start t)
section
theorem getD_setB {l:List Bool}{i j:Nat}{b:Bool}(h:i<l.length):(l.set i b).getD j false=if j=i then b else l.getD j false:=by
 simp only[Ga,Gq];by_cases e:j=i
 ·subst e;simp[h]
 ·rw[if_neg (λx=>e x.symm),if_neg e]
theorem Jac {got:List TL}{i j:Nat}{x:TL}(h:i<got.length):JG (got.set i x) j=if j=i then x else JG got j:=by
 unfold JG;simp only[Ga,Gq];by_cases e:j=i
 ·subst e;simp[h]
 ·rw[if_neg (λx=>e x.symm),if_neg e]
def Jbu (t:Tr)(i:Nat):Prop:=(nd t i).k=42/\(nd t i).kids=[]
def nB (t:Tr)(s:Nat):Nat:=(nd t s).n.toNat
theorem Y7 {t:Tr}{s:Nat}{l:TL}{got:List TL}:∀m,(Jbp t s l got m).length=got.length
 |0=>rfl
 |m+1=>by
  rw[Jbp]
  split
  ·rw[List.length_set,Y7 m]
  ·exact Y7 m
theorem Jgv {t:Tr}{s:Nat}{l:TL}{got:List TL}{j:Nat}:∀m,(∀k,k<m->(nd t (JL t s k)).kids=[]->JL t s k≠j)->JG (Jbp t s l got m) j=JG got j
 |0,_=>rfl
 |m+1,h=>by
  have ih:=Jgv (t:=t) (s:=s) (l:=l) (got:=got) m λk hk=>h k (by omega)
  rw[Jbp]
  split
  ·rename_i hb;have Ah:=h m (by omega) hb;unfold JG at ih|-;rw[Ga,List.getElem?_set_ne Ah,<-Ga];exact ih
  ·exact ih
theorem putB_in {t:Tr}{s:Nat}{l:TL}{got:List TL}(AU:∀k,(nd t (JL t s k)).kids=[]->k<nB t s->JL t s k<got.length)(FN:∀k j,k<nB t s->j<nB t s->JL t s k=JL t s j->k=j):∀m,m<=nB t s->∀k,k<m->(nd t (JL t s k)).kids=[]->JG (Jbp t s l got m) (JL t s k)=[l.getD k .int]
 |0,_,k,hk,_=>by omega
 |m+1,hm,k,hk,hb=>by
  rw[Jbp];by_cases he:k=m
  ·subst he;rw[if_pos hb,Jac (by rw[Y7];exact AU k hb (by omega)),if_pos rfl]
  ·have ih:=putB_in (l:=l) (got:=got) AU FN m (by omega) k (by omega) hb
   split
   ·rename_i Cg;rw[Jac (by rw[Y7];exact AU m Cg (by omega)),if_neg (λe=>he (FN _ _ (by omega) (by omega) e))];exact ih
   ·exact ih
structure FI (t:Tr)(S:FS):Prop where
 gl:S.got.length=t.nodes.length
 dl:S.dn.length=t.nodes.length
 emp:∀i,S.dn.getD i false=false->¬Jbu t i->JG S.got i=[]
 unf:∀s,s<t.nodes.length->(nd t s).k=41->KC S.fd s=false->∀k,k<nB t s->(nd t (JL t s k)).kids=[]->JG S.got (JL t s k)=[]
 fnd:∀s,KC S.fd s=true->s<t.nodes.length/\(nd t s).k=41/\(JG S.got (Jl t s)).length=nB t s/\∀k,k<nB t s->(nd t (JL t s k)).kids=[]->JG S.got (JL t s k)=[(JG S.got (Jl t s)).getD k .int]
 fine:∀i,Yd (JG S.got i)=true
 ini:∀i,i<t.nodes.length->S.dn.getD i false=true->(nd t i).k=43->(JG S.got i).length=1
 typ:∀i,i<t.nodes.length->S.dn.getD i false=true->(nd t i).k=42->(nd t i).kids≠[]->JG S.got i=[tyN t (JL t i 0)]
structure FG (t:Tr)(S S':FS):Prop where
 keep:∀i,JG S.got i≠[]->JG S'.got i=JG S.got i
 dn:∀i,S.dn.getD i false=true->S'.dn.getD i false=true
 dk:∀i,S.dn.getD i false=true->¬Jbu t i->JG S'.got i=JG S.got i
 fd:∀s,KC S.fd s=true->KC S'.fd s=true
 fg:∀s,KC S'.fg s=KC S.fg s
 bad:S.bad.isSome=true->S'.bad=S.bad
theorem FG.refl {t:Tr}{S:FS}:FG t S S:=⟨λ_ _=>rfl,λ_ h=>h,λ_ _ _=>rfl,λ_ h=>h,λ_=>rfl,λ_=>rfl⟩
theorem FG.trans {t:Tr}{A B C:FS}(h:FG t A B)(k:FG t B C):FG t A C where
 keep i hi:=by
  have h1:=h.keep i hi;rw[k.keep i (by rw[h1];exact hi),h1]
 dn i hi:=k.dn i (h.dn i hi)
 dk i hi hb:=(k.dk i (h.dn i hi) hb).trans (h.dk i hi hb)
 fd s hs:=k.fd s (h.fd s hs)
 fg s:=(k.fg s).trans (h.fg s)
 bad hb:=(k.bad (by rw[h.bad hb];exact hb)).trans (h.bad hb)
theorem FI.fail {t:Tr}{S:FS}(h:FI t S)(i:Nat):FI t (S.fail i)/\FG t S (S.fail i)/\(S.fail i).bad.isSome=true:=by
 unfold FS.fail
 split
 ·rename_i hb;exact⟨h,.refl,hb⟩
 ·rename_i hb;exact⟨⟨h.gl,h.dl,h.emp,h.unf,h.fnd,h.fine,h.ini,h.typ⟩,⟨λ_ _=>rfl,λ_ h=>h,λ_ _ _=>rfl,λ_ h=>h,λ_=>rfl,λCg=>absurd Cg hb⟩,rfl⟩
section
variable {t:Tr}{o:List Int}(g:GoodT t o)
include g
theorem KV {s:Nat}(hs:s<t.nodes.length)(hk:(nd t s).k=41):(nd t s).kids.length=nB t s+1/\(∀k,k<nB t s->(nd t (JL t s k)).k=42/\JL t s k<s)/\(1<=(nd t (Jl t s)).k/\(nd t (Jl t s)).k<=29)/\Jl t s<s:=by
 obtain⟨a,h1,h2,h3,h4⟩:=Y4 g hs hk;change (nd t s).n=a at h1;change (nd t s).kids.length=a+1 at h2;have hn:nB t s=a:=by unfold nB;omega
 have hm:=JF g hs (i:=(nd t s).kids.length-1) (by omega);refine⟨by omega,λk Aw=>?_,?_,hm.2.1⟩
 ·have h5:=JF g hs (i:=k) (by omega);exact⟨by rw[h5.2.2];exact h3 k (by omega),h5.2.1⟩
 ·change (1<=(nd t (JL t s ((nd t s).kids.length-1))).k)/\_;show _/\(nd t (JL t s ((nd t s).kids.length-1))).k<=29;rw[hm.2.2,h2,show a+1-1=a by omega];exact h4
theorem set_ge1 {s:Nat}(hs:s<t.nodes.length)(hk:(nd t s).k=41):1<=nB t s:=by
 have hn:=g.nds (nd t s) (by unfold nd;rw[Ga,Gd hs];exact Gg hs);rw[ndI_R]at hn;simp only[Gr]at hn;have h:=hn.2;unfold Qc at h;rw[hk]at h;simp[inI]at h;unfold nB;omega
theorem kid_inj {s i j:Nat}(hs:s<t.nodes.length)(hi:i<(nd t s).kids.length)(hj:j<(nd t s).kids.length)(he:JL t s i=JL t s j):i=j:=by
 have ha:=JgF g hs;have h1:=g.kid hs (Gg hi);have h2:=g.kid hs (Gg hj);unfold JL at he;rw[Ga,Ga,Gd hi,Gd hj]at he;simp only[Option.getD_some]at he;rcases Nat.lt_trichotomy i j with h|h|h
 ·have:=Gp.1 ha i j hi hj h;omega
 ·exact h
 ·have:=Gp.1 ha j i hj hi h;omega
theorem kid_one2 {s u i j:Nat}(hs:s<t.nodes.length)(hu:u<t.nodes.length)(hi:i<(nd t s).kids.length)(hj:j<(nd t u).kids.length)(he:JL t s i=JL t u j):s=u:=by
 have h1:=(JQ g hs (JF g hs hi).1).1;have h2:=(JQ g hu (JF g hu hj).1).1;rw[he]at h1;omega
theorem settle_ok {S:FS}{s:Nat}(h:FI t S)(hs:s<t.nodes.length)(hk:(nd t s).k=41)(hf:KC S.fd s=false):FI t (Kc t s S)/\FG t S (Kc t s S)/\((Kc t s S).bad=none->KC (Kc t s S).fd s=true):=by
 obtain⟨b1,b2,b3,b4⟩:=KV g hs hk;unfold Kc;simp only
 split
 case isFalse=>
  obtain⟨f1,f2,f3⟩:=h.fail s;exact⟨f1,f2,λhb=>by rw[hb]at f3;cases f3⟩
 case isTrue hl=>
  have hl:(JG S.got (Jl t s)).length=nB t s:=hl;have AU:∀k,(nd t (JL t s k)).kids=[]->k<nB t s->JL t s k<S.got.length:=λk _ Aw=>by have:=(b2 k Aw).2;rw[h.gl];omega
  have FN:∀k j,k<nB t s->j<nB t s->JL t s k=JL t s j->k=j:=λk j h1 h2 he=>kid_inj g hs (by omega) (by omega) he
  have pin:=putB_in (l:=JG S.got (Jl t s)) (got:=S.got) AU FN (nB t s) (Gi _);have pout:∀j,(∀k,k<nB t s->(nd t (JL t s k)).kids=[]->JL t s k≠j)->JG (Jbp t s (JG S.got (Jl t s)) S.got (nB t s)) j=JG S.got j:=λj hj=>Jgv _ hj
  have pnb:∀j,¬Jbu t j->JG (Jbp t s (JG S.got (Jl t s)) S.got (nB t s)) j=JG S.got j:=λj hj=>pout j λk Aw hb he=>hj ⟨by rw[<-he];exact(b2 k Aw).1,by rw[<-he];exact hb⟩
  have E9:JG (Jbp t s (JG S.got (Jl t s)) S.got (nB t s)) (Jl t s)=JG S.got (Jl t s):=pnb _ λhb=>by have:=hb.1;omega
  change FI t { S with got:=Jbp t s (JG S.got (Jl t s)) S.got (nB t s),fd:=Jat s true S.fd }/\FG t S { S with got:=Jbp t s (JG S.got (Jl t s)) S.got (nB t s),fd:=Jat s true S.fd }/\(_->KC (Jat s true S.fd) s=true);have AQ:∀u,u<t.nodes.length->(nd t u).k=41->u≠s->∀k,k<nB t u->JG (Jbp t s (JG S.got (Jl t s)) S.got (nB t s)) (JL t u k)=JG S.got (JL t u k):=λu hu I1 Ah k Aw=>by
   obtain⟨c1,_⟩:=KV g hu I1;exact pout _ λk' AA _ he=>Ah (kid_one2 g hs hu (by omega) (by omega) he).symm
  refine⟨⟨by rw[Y7];exact h.gl,h.dl,λi hi hb=>?_,λu hu I1 M4 k Aw hb=>?_,λu M4=>?_,λi=>?_,λi hi hd Cx=>?_,λi hi hd Cn Ah=>?_⟩,⟨λi hi=>?_,λ_ h=>h,λi _ hb=>pnb i hb,λu hu=>?_,λ_=>rfl,λ_=>rfl⟩,λ_=>by rw[XU,if_pos rfl]⟩
  ·rw[pnb i hb];exact h.emp i hi hb
  ·rw[XU]at M4
   split at M4
   ·cases M4
   ·rename_i Ah;rw[AQ u hu I1 Ah k Aw];exact h.unf u hu I1 M4 k Aw hb
  ·rw[XU]at M4;by_cases he:u=s
   ·subst he;exact⟨hs,hk,by rw[E9];exact hl,λk Aw hb=>by rw[E9];exact pin k Aw hb⟩
   ·rw[if_neg he]at M4;obtain⟨q1,q2,q3,q4⟩:=h.fnd u M4;obtain⟨c1,c2,c3,c4⟩:=KV g q1 q2;have bA:JG (Jbp t s (JG S.got (Jl t s)) S.got (nB t s)) (Jl t u)=JG S.got (Jl t u):=pnb _ λhb=>by have:=hb.1;omega
    refine⟨q1,q2,by rw[bA];exact q3,λk Aw hb=>?_⟩;rw[bA,AQ u q1 q2 he k Aw];exact q4 k Aw hb
  ·by_cases hx:∃k,k<nB t s/\(nd t (JL t s k)).kids=[]/\JL t s k=i
   ·obtain⟨k,Aw,hb,rfl⟩:=hx;rw[pin k Aw hb];have Fj:=h.fine (Jl t s);unfold Yd at Fj|-;rw[List.all_eq_true]at Fj;have:=Fj ((JG S.got (Jl t s)).getD k .int) (by rw[Ga,Gd (by omega)];exact Gg _);rw[List.all_cons,this];rfl
   ·rw[pout i λk Aw hb he=>hx ⟨k,Aw,hb,he⟩];exact h.fine i
  ·rw[pnb i λhb=>by have:=hb.1;omega];exact h.ini i hi hd Cx
  ·rw[pnb i λhb=>Ah hb.2];exact h.typ i hi hd Cn Ah
  ·by_cases hx:∃k,k<nB t s/\(nd t (JL t s k)).kids=[]/\JL t s k=i
   ·obtain⟨k,Aw,hb,rfl⟩:=hx;exact absurd (h.unf s hs hk hf k Aw hb) hi
   ·exact pout i λk Aw hb he=>hx ⟨k,Aw,hb,he⟩
  ·rw[XU];split
   ·rfl
   ·exact hu
theorem JfS {S:FS}{i:Nat}{r:Option TL}(h:FI t S)(hi:i<t.nodes.length)(hd:S.dn.getD i false=false)(hr:∀l,r=some l->(Jbu t i->l=[])/\((nd t i).k=43->l.length=1)/\((nd t i).k=42->(nd t i).kids≠[]->l=[tyN t (JL t i 0)])):FI t (S.fin i r)/\FG t S (S.fin i r)/\((S.fin i r).bad=none->(S.fin i r).dn.getD i false=true):=by
 unfold FS.fin
 cases r with
 |none=>
  obtain⟨f1,f2,f3⟩:=h.fail i;exact⟨f1,f2,λhb=>by simp only at hb;rw[hb]at f3;cases f3⟩
 |some l=>
  obtain⟨r1,r2,r3⟩:=hr l rfl;simp only
  split
  ·rename_i hb;exact⟨h,.refl,λh2=>by rw[h2]at hb;cases hb⟩
  split
  case isFalse=>
   obtain⟨f1,f2,f3⟩:=h.fail i;exact⟨f1,f2,λhb=>by rw[hb]at f3;cases f3⟩
  case isTrue IY RL=>
   have OQ:∀j,(S.dn.set i true).getD j false=if j=i then true else S.dn.getD j false:=λj=>getD_setB (by rw[h.dl];exact hi)
   have Pg:∀j,JG (if l=[] then S.got else S.got.set i l) j=if j=i/\l≠[] then l else JG S.got j:=λj=>by
    by_cases hl:l=[]
    ·rw[if_pos hl,if_neg (λh=>h.2 hl)]
    ·rw[if_neg hl,Jac (by rw[h.gl];exact hi)];by_cases e:j=i
     ·rw[if_pos e,if_pos ⟨e,hl⟩]
     ·rw[if_neg e,if_neg (λh=>e h.1)]
   have A9:(if l=[] then S.got else S.got.set i l).length=t.nodes.length:=by split <;> simp[h.gl]
   generalize hG:(if l=[] then S.got else S.got.set i l)=G at Pg A9;have AP:∀j,j≠i->JG G j=JG S.got j:=λj hj=>by rw[Pg,if_neg (λh=>hj h.1)]
   have M0:¬Jbu t i->JG S.got i=[]:=h.emp i hd;have ai:Jbu t i->JG G i=JG S.got i:=λhb=>by rw[Pg,if_neg (λh=>h.2 (r1 hb))]
   have CP:∀j,JG S.got j≠[]->JG G j=JG S.got j:=λj hj=>by
    by_cases e:j=i
    ·subst e;by_cases hb:Jbu t j
     ·exact ai hb
     ·exact absurd (M0 hb) hj
    ·exact AP j e
   have M7:∀j,Jbu t j->JG G j=JG S.got j:=λj hb=>by
    by_cases e:j=i
    ·subst e;exact ai hb
    ·exact AP j e
   have aD:¬Jbu t i->JG G i=l:=λhb=>by
    rw[Pg];by_cases hl:l=[]
    ·rw[if_neg (λh=>h.2 hl),M0 hb,hl]
    ·rw[if_pos ⟨rfl,hl⟩]
   refine⟨⟨A9,by simp[h.dl],λj hj hb=>?_,λs hs hk hf k Aw hb=>?_,λs hf=>?_,λj=>?_,λj hj Bw Cx=>?_,λj hj Bw Cn Ah=>?_⟩,⟨CP,λj hj=>by rw[OQ];split <;> first|rfl|exact hj,λj hj hb=>?_,λ_ h=>h,λ_=>rfl,λhb=>absurd hb IY⟩,λ_=>by rw[OQ,if_pos rfl]⟩
   ·rw[OQ]at hj
    split at hj
    ·cases hj
    ·rename_i e;rw[AP j e];exact h.emp j hj hb
   ·obtain⟨b1,b2,_⟩:=KV g hs hk;rw[M7 _ ⟨(b2 k Aw).1,hb⟩];exact h.unf s hs hk hf k Aw hb
   ·obtain⟨q1,q2,q3,q4⟩:=h.fnd s hf;obtain⟨b1,b2,b3,b4⟩:=KV g q1 q2;have Ah:JG S.got (Jl t s)=JG G (Jl t s)\/nB t s=0:=by
     by_cases hz:JG S.got (Jl t s)=[]
     ·exact .inr (by rw[hz]at q3;simpa using q3.symm)
     ·exact .inl (CP _ hz).symm
    rcases Ah with Ah|Ah
    ·exact⟨q1,q2,by rw[<-Ah];exact q3,λk Aw hb=>by rw[<-Ah,M7 _ ⟨(b2 k Aw).1,hb⟩];exact q4 k Aw hb⟩
    ·have:=set_ge1 g q1 q2;omega
   ·by_cases e:j=i
    ·subst e;by_cases hb:Jbu t j
     ·rw[ai hb];exact h.fine j
     ·rw[aD hb];exact RL
    ·rw[AP j e];exact h.fine j
   ·by_cases e:j=i
    ·subst e;rw[aD λhb=>by have:=hb.1;omega];exact r2 Cx
    ·rw[OQ,if_neg e]at Bw;rw[AP j e];exact h.ini j hj Bw Cx
   ·by_cases e:j=i
    ·subst e;rw[aD λhb=>Ah hb.2];exact r3 Cn Ah
    ·rw[OQ,if_neg e]at Bw;rw[AP j e];exact h.typ j hj Bw Cn Ah
   ·by_cases e:j=i
    ·subst e;rw[hd]at hj;cases hj
    ·exact AP j e
end
end
section
theorem FI.ext {t:Tr}{S S':FS}(h:FI t S)(h1:S'.got.length=S.got.length)(h2:S'.dn.length=S.dn.length)(h3:∀j,JG S'.got j=JG S.got j)(h4:∀j,S'.dn.getD j false=S.dn.getD j false)(h5:∀s,KC S'.fd s=KC S.fd s):FI t S':=
 ⟨h1.trans h.gl,h2.trans h.dl,λi hi hb=>by rw[h3];rw[h4]at hi;exact h.emp i hi hb,λs hs hk hf k Aw hb=>by rw[h5]at hf;rw[h3];exact h.unf s hs hk hf k Aw hb,λs hf=>by
  rw[h5]at hf;obtain⟨q1,q2,q3,q4⟩:=h.fnd s hf;exact⟨q1,q2,by rw[h3];exact q3,λk hk hb=>by rw[h3,h3];exact q4 k hk hb⟩,λi=>by rw[h3];exact h.fine i,λi hi hd hk=>by rw[h4]at hd;rw[h3];exact h.ini i hi hd hk,λi hi hd hk hn=>by rw[h4]at hd;rw[h3];exact h.typ i hi hd hk hn⟩
theorem FG.ext {t:Tr}{S S':FS}(h3:∀j,JG S'.got j=JG S.got j)(h4:∀j,S'.dn.getD j false=S.dn.getD j false)(h5:∀s,KC S'.fd s=KC S.fd s)(h6:∀s,KC S'.fg s=KC S.fg s)(h7:S.bad.isSome=true->S'.bad=S.bad):FG t S S':=
 ⟨λi _=>h3 i,λi hi=>by rw[h4];exact hi,λi _ _=>h3 i,λs hs=>by rw[h5];exact hs,h6,h7⟩
def valN (t:Tr)(S:FS)(m:Nat):TL:=if (nd t m).k=47 then [.int] else if (nd t m).k=64\/(nd t m).k=42/\(nd t m).kids≠[] then [tyN t (JL t m 0)] else JG S.got m
def FM (t:Tr)(o:List Int)(S:FS):Prop:=∀i,i<t.nodes.length->(nd t i).k=3->S.dn.getD i false=true->∀m:Nat,JU t o i=m->JG S.got i=valN t S m/\valN t S m≠[]
theorem valN_keep {t:Tr}{S S':FS}{m:Nat}(h:FG t S S')(hv:valN t S m≠[]):valN t S' m=valN t S m:=by
 unfold valN at hv|-;by_cases h1:(nd t m).k=47
 ·rw[if_pos h1,if_pos h1]
 ·rw[if_neg h1]at hv|-;rw[if_neg h1];by_cases h2:(nd t m).k=64\/(nd t m).k=42/\(nd t m).kids≠[]
  ·rw[if_pos h2,if_pos h2]
  ·rw[if_neg h2]at hv|-;rw[if_neg h2];exact h.keep m hv
theorem FM.step {t:Tr}{o:List Int}{S S':FS}(h:FM t o S)(hg:FG t S S')(hn:∀i,i<t.nodes.length->(nd t i).k=3->S'.dn.getD i false=true->S.dn.getD i false=false->∀m:Nat,JU t o i=m->JG S'.got i=valN t S' m/\valN t S' m≠[]):FM t o S':=λi hi hk hd m hm=>by
 cases hs:S.dn.getD i false with
 |false=>exact hn i hi hk hd hs m hm
 |true=>
  obtain⟨h1,h2⟩:=h i hi hk hs m hm;have h3:=valN_keep hg h2;refine⟨?_,by rw[h3];exact h2⟩;rw[h3,<-h1];exact hg.dk i hs λhb=>by have:=hb.1;omega
def uf (t:Tr)(S:FS):Nat:=((Gb t.nodes.length).filter λs=>!KC S.fg s).length
theorem uf_eq {t:Tr}{S S':FS}(h:FG t S S'):uf t S'=uf t S:=by
 unfold uf;exact congrArg Gf (List.filter_congr λs _=>by rw[h.fg])
theorem JeF {p q:Nat->Bool}{s:Nat}:∀{l:List Nat},s∈l->(∀x,q x=true->p x=true)->p s=true->q s=false->(l.filter q).length<(l.filter p).length
 |a::l,hs,Io,hp,hq=>by
  have AZ:∀m:List Nat,(m.filter q).length<=(m.filter p).length:=λm=>by
   induction m with
   |nil=>exact Gi _
   |cons x m ih=>
    rw[Gh,Gh]
    cases hx:q x with
    |true=>rw[if_pos rfl,Io x hx,if_pos rfl];simpa using ih
    |false=>
     rw[if_neg (by simp)]
     split
     ·rw[Gm];omega
     ·exact ih
  rcases List.mem_cons.1 hs with rfl|h
  ·rw[Gh,Gh,hq,hp,if_neg (by simp),if_pos rfl,Gm];have:=AZ l;omega
  ·have ih:=JeF h Io hp hq;rw[Gh,Gh]
   cases hx:q a with
   |true=>rw[if_pos rfl,Io a hx,if_pos rfl];simpa using ih
   |false=>
    rw[if_neg (by simp)]
    split
    ·rw[Gm];omega
    ·exact ih
theorem uf_less {t:Tr}{S:FS}{s:Nat}(hs:s<t.nodes.length)(h:KC S.fg s=false):uf t { S with fg:=Jat s true S.fg } < uf t S:=by
 refine JeF (Gx.2 hs) (λx hx=>?_) (by rw[h];rfl) (by rw[XU,if_pos rfl];rfl);rw[XU]at hx
 split at hx
 ·cases hx
 ·exact hx
def PreQ (t:Tr)(o:List Int)(S:FS)(i:Nat):Prop:=S.bad=none->(∀c:Nat,(c:Int)∈(nd t i).kids->S.dn.getD c false=true)/\∀v,v<t.nodes.length->(nd t v).k=43->v<i->blw o i (Kh t v).toNat->S.dn.getD v false=true
def GoOk (t:Tr)(o:List Int)(f:Nat)(go:FS->Nat->FS):Prop:=∀S i,FI t S->FM t o S->i<t.nodes.length->PreQ t o S i->uf t S<f->FI t (go S i)/\FM t o (go S i)/\FG t S (go S i)/\((go S i).bad=none->(go S i).dn.getD i false=true)
theorem Jha {t:Tr}{S S':FS}(h:FG t S S')(hb:S'.bad=none):S.bad=none:=by
 cases hs:S.bad with
 |none=>rfl
 |some x=>rw[h.bad (by rw[hs];rfl),hs]at hb;cases hb
theorem JbZ {a k:Nat}:K8 a (k+1)=K8 a k++[a+k]:=by
 unfold K8;rw[List.range_succ,List.map_append];rfl
theorem JcG {t:Tr}{o:List Int}{f:Nat}{go:FS->Nat->FS}(CJ:GoOk t o f go){S:FS}(hI:FI t S)(hM:FM t o S)(hu:uf t S<f){a m:Nat}(Pn:a+m<=t.nodes.length)(hP:∀S' j,FG t S S'->j<m->(S'.bad=none->∀j',j' < j->S'.dn.getD (a+j') false=true)->PreQ t o S' (a+j)) :
  ∀k,k<=m->FI t ((K8 a k).foldl go S)/\FM t o ((K8 a k).foldl go S)/\FG t S ((K8 a k).foldl go S)/\(((K8 a k).foldl go S).bad=none->∀j,j<k->((K8 a k).foldl go S).dn.getD (a+j) false=true)
 |0,_=>⟨hI,hM,.refl,λ_ j hj=>by omega⟩
 |k+1,hk=>by
  obtain⟨h1,h2,h3,h4⟩:=JcG CJ hI hM hu Pn hP k (by omega);rw[JbZ,Gv];generalize (K8 a k).foldl go S=S1 at *;obtain⟨q1,q2,q3,q4⟩:=CJ S1 (a+k) h1 h2 (by omega) (hP S1 k h3 (by omega) h4) (by rw[uf_eq h3];exact hu);simp only[List.foldl_cons,List.foldl_nil];refine⟨q1,q2,h3.trans q3,λhb j hj=>?_⟩;by_cases e:j=k
  ·subst e;exact q4 hb
  ·exact q3.dn _ (h4 (Jha q3 hb) j (by omega))
section
variable {t:Tr}{o:List Int}(g:GoodT t o)
include g
theorem JcV {w v a x:Nat}(hw:w<t.nodes.length)(hv:(v:Int)∈(nd t w).kids)(ha:(a:Int)∈(nd t w).kids)(hx:blw o x a)(Ah:v≠a)(h:v<a):v<x:=by
 have h1:=λh1 h2=>kid_one g hw hv ha (j:=v) h1 h2
 have Fw:=(JQ g hw hv).2;have h2:¬blw o v a:=λhb=>Ah (h1 (Jcu g (by omega)) hb)
 have h3:=hx.2;have h4:¬fs o (a:Int)<=(v:Int):=λh5=>h2 ⟨by omega,h5⟩
 omega
theorem Jeu {w v a:Nat}(hw:w<t.nodes.length)(hk:(nd t w).k=28)(hv:(v:Int)∈(nd t w).kids)(Ce:(nd t v).k=43)(ha:(a:Int)∈(nd t w).kids)(Dv:(nd t a).k≠43):v<a:=by
 obtain⟨N,M,h1,h2,h3,h4,h5,h6,h7,h8⟩:=Yj g hw hk;obtain⟨i,hi,CB,U3⟩:=Jby hv;obtain⟨j,hj,Ch,D9⟩:=Jby ha;have Ms:∀x:Nat,Jv t.nodes (x:Int)=(nd t x).k:=λx=>by unfold Jv nd;rw[Gc]
 change ∀i,i<N->Jv t.nodes ((nd t w).kids.getD i 0)=43 at h4;change 1<=Jv t.nodes ((nd t w).kids.getD N 0)/\Jv t.nodes ((nd t w).kids.getD N 0)<=29 at h5;change ∀i,N+1<=i->i<M->Jv t.nodes ((nd t w).kids.getD i 0)=41 at h6;change ∀i,M<=i->i+1<(nd t w).kids.length->Jv t.nodes ((nd t w).kids.getD i 0)=44 at h7;change Jv t.nodes ((nd t w).kids.getD ((nd t w).kids.length-1) 0)=45 at h8;have je:N<=j:=by
  refine Nat.le_of_not_lt λAb=>Dv ?_
  have:=h4 j Ab;rw[D9,Ms]at this;exact this
 have Pf:i<N:=by
  refine Gs λCi=>?_
  have RA:Jv t.nodes ((nd t w).kids.getD i 0)=43:=by rw[U3,Ms];exact Ce
  rcases (show i=N\/(N+1<=i/\i<M)\/(M<=i/\i+1<(nd t w).kids.length)\/i=(nd t w).kids.length-1 by omega) with e|⟨e1,e2⟩|⟨e1,e2⟩|e
  ·rw[e]at RA;omega
  ·have:=h6 i e1 e2;omega
  ·have:=h7 i e1 e2;omega
  ·rw[e]at RA;omega
 have Df:=JgF g hw;have h9:=Gp.1 Df i j hi hj (by omega);rw[Ga,Gd hi]at U3;rw[Ga,Gd hj]at D9;simp only[Option.getD_some]at U3 D9;omega
theorem init_loop {w v:Nat}(hw:w<t.nodes.length)(hv:(v:Int)∈(nd t w).kids)(hk:(nd t v).k=43):(nd t w).k=28:=(Yo (JcN g hw hv)).2.1 (by rw[hk];rfl)
theorem Jd1 {i m s x v:Nat}(hs:s<t.nodes.length)(BQ:(nd t s).k=41)(hm:(m:Int)∈(nd t s).kids)(DI:(nd t m).k=42)(AU:inS t o (m:Int) i)(hi:i<t.nodes.length)(hx:blw o x (Jl t s))(hv:v<t.nodes.length)(Ce:(nd t v).k=43)(Od:v<x)(OT:blw o x (Kh t v).toNat)(AR:¬fs o ((Jl t s:Nat):Int)<=(v:Int)):v<i/\blw o i (Kh t v).toNat:=by
 obtain⟨b1,b2,b3,b4⟩:=KV g hs BQ;have AZ:=JF g hs (i:=(nd t s).kids.length-1) (by omega);change ((Jl t s:Nat):Int)∈(nd t s).kids/\_ at AZ;obtain⟨w,w1,w2,w3,w4⟩:=QU g hv (by omega);rw[w1,Gc]at OT|-;obtain⟨u,a,hu,ha,Ea,hd⟩:=AU;have R6:=JQ g hu ha;have Oj:(s:Int)∈(nd t u).kids/\((nd t u).k=40\/(nd t u).k=28/\(nd t a).k≠43):=by
  have same:∀s':Nat,(s':Int)∈(nd t u).kids->(m:Int)∈(nd t s').kids->(s:Int)∈(nd t u).kids:=λs' h1 h2=>by
   have h3:=(JQ g hu h1).2;have h4:=(JQ g (show s' < t.nodes.length by omega) h2).1;have h5:=(JQ g hs hm).1;obtain rfl:s'=s:=by omega
   exact h1
  rcases (Qv g hu).1 hd with ⟨h1,s',h2,h3,h4,h5⟩|⟨h1,h2,h3⟩|⟨h1,h2,h3⟩|⟨h1,h2,h3⟩
  ·exact⟨same s' h2 h4,.inl h1⟩
  ·omega
  ·subst h3;omega
  ·rcases h3 with ⟨h3,h4⟩|⟨_,s',h3,h4,h5,h6⟩
   ·omega
   ·exact⟨same s' h3 h5,.inr ⟨h1,h2⟩⟩
 obtain⟨Oj,I1⟩:=Oj;have dX:=(JQ g hu Oj).2;have dI:blw o (Jl t s) w:=by
  have h1:=hx.1;have h2:=hx.2;have h3:=OT.1;have h4:=OT.2
  rcases Nat.lt_or_ge (Jl t s) w with h5|h5
  ·refine anO ?_;have:=g.ord.nest w x (by rw[Qp];exact w2) (by omega) h4 (by omega);omega
  ·exfalso;have h6:=g.ord.nest (Jl t s) w (by rw[Qp];omega) (by omega) (by omega) (by omega);have h7:=(Qq g w2 w4).2;omega
 have Sz:=(Qq g w2 w4).2;have Mi:Jl t s≠w:=λhe=>AR (by rw[he];exact Sz)
 obtain⟨m1,p1,_,_,p4,_⟩:=XL g w2 dI Mi;have p5:=(JQ g hs AZ.1).1;obtain rfl:m1=s:=by omega
 have Mf:=init_loop g w2 w4 Ce;obtain⟨m2,q1,_,_,q4,_⟩:=XL g w2 p4 (λhe=>by rw[he]at BQ;omega);have q5:=(JQ g hu Oj).1;obtain rfl:m2=u:=by omega
 have U0:=Qk g hu Ea (Qq g hu ha);by_cases Uy:m2=w
 ·subst Uy;rcases I1 with h|⟨_,h⟩
  ·omega
  ·exact⟨JcV g hu w4 ha Ea (λhe=>by subst he;exact h Ce) (Jeu g hu Mf w4 Ce ha h),U0⟩
 ·rcases Jc0 g w2 q4 with h|⟨a',AV,Ug⟩
  ·exact absurd h Uy
  ·have iW:x<=a':=by
    have:=hx.1;have:=Ug.1;omega
   exact⟨JcV g w2 w4 AV (Qk g (show a' < t.nodes.length by have:=(JQ g w2 AV).2;omega) U0 Ug) (by omega) (by omega),Qk g w2 U0 q4⟩
theorem YQ {S:FS}{s:Nat}(h:FI t S)(hs:s<t.nodes.length)(hk:(nd t s).k=41):FI t (Kc t s S)/\FG t S (Kc t s S)/\((Kc t s S).bad=none->KC (Kc t s S).fd s=true)/\(Kc t s S).dn=S.dn:=by
 have OQ:(Kc t s S).dn=S.dn:=by
  unfold Kc;simp only
  split
  ·rfl
  ·unfold FS.fail;split <;> rfl
 cases hf:KC S.fd s with
 |false=>
  obtain⟨h1,h2,h3⟩:=settle_ok g h hs hk hf;exact⟨h1,h2,h3,OQ⟩
 |true=>
  obtain⟨b1,b2,b3,b4⟩:=KV g hs hk;obtain⟨_,_,q3,q4⟩:=h.fnd s hf;have e:Kc t s S = { S with got:=Jbp t s (JG S.got (Jl t s)) S.got (nB t s),fd:=Jat s true S.fd }:=by
   unfold Kc;simp only;rw[if_pos (show (JG S.got (Jl t s)).length=(nd t s).n.toNat from q3)];rfl
  have AU:∀k,(nd t (JL t s k)).kids=[]->k<nB t s->JL t s k<S.got.length:=λk _ Aw=>by have:=(b2 k Aw).2;rw[h.gl];omega
  have FN:∀k j,k<nB t s->j<nB t s->JL t s k=JL t s j->k=j:=λk j h1 h2 he=>kid_inj g hs (by omega) (by omega) he
  have AP:∀j,JG (Jbp t s (JG S.got (Jl t s)) S.got (nB t s)) j=JG S.got j:=λj=>by
   by_cases hx:∃k,k<nB t s/\(nd t (JL t s k)).kids=[]/\JL t s k=j
   ·obtain⟨k,Aw,hb,rfl⟩:=hx;rw[putB_in AU FN (nB t s) (Gi _) k Aw hb,q4 k Aw hb]
   ·exact Jgv _ λk Aw hb he=>hx ⟨k,Aw,hb,he⟩
  have ZA:∀u,KC (Jat s true S.fd) u=KC S.fd u:=λu=>by
   rw[XU]
   split
   ·rename_i he;rw[he,hf]
   ·rfl
  rw[e];exact⟨h.ext (Y7 _) rfl AP (λ_=>rfl) ZA,FG.ext AP (λ_=>rfl) ZA (λ_=>rfl) (λ_=>rfl),λ_=>by rw[ZA];exact hf,rfl⟩
omit g in
theorem FM.same {t:Tr}{o:List Int}{S S':FS}(h:FM t o S)(hg:FG t S S')(hd:S'.dn=S.dn):FM t o S':=h.step hg λi _ _ h1 h2=>by rw[hd,h2]at h1;cases h1
theorem JdK {f:Nat}{go:FS->Nat->FS}(CJ:GoOk t o f go){S:FS}{i m s:Nat}(hI:FI t S)(hM:FM t o S)(hi:i<t.nodes.length)(hP:PreQ t o S i)(hu:uf t S<f+1)(hs:s<t.nodes.length)(BQ:(nd t s).k=41)(hm:(m:Int)∈(nd t s).kids)(DI:(nd t m).k=42)(AU:inS t o (m:Int) i) :
  FI t (XB t o go s i S)/\FM t o (XB t o go s i S)/\FG t S (XB t o go s i S)/\((XB t o go s i S).bad=none->KC (XB t o go s i S).fd s=true):=by
 unfold XB
 cases Pi:KC S.fg s with
 |true=>
  rw[if_pos rfl];obtain⟨f1,f2,f3⟩:=hI.fail i;have hd:(S.fail i).dn=S.dn:=by unfold FS.fail;split <;> rfl
  exact⟨f1,hM.same f2 hd,f2,λhb=>by rw[hb]at f3;cases f3⟩
 |false=>
  rw[if_neg (by simp)];simp only;obtain⟨b1,b2,b3,b4⟩:=KV g hs BQ;have D5:Jl t s<t.nodes.length:=by omega
  have gq:=fs_le g (a:=Jl t s) D5;have Pp:FI t { S with fg:=Jat s true S.fg }:=⟨hI.gl,hI.dl,hI.emp,hI.unf,hI.fnd,hI.fine,hI.ini,hI.typ⟩;have PI:=uf_less hs Pi;obtain⟨a,ha⟩:∃a:Nat,fs o ((Jl t s:Nat):Int)=a:=⟨(fs o ((Jl t s:Nat):Int)).toNat,by omega⟩;rw[ha,Gc];have Fz:=JcG CJ Pp (S:={ S with fg:=Jat s true S.fg }) (show FM t o _ from hM) (by omega) (a:=a) (m:=Jl t s+1-a) (by omega) (λS' j I5 hj BZ hb=>?_) _ (Gi _)
  ·generalize (K8 a (Jl t s+1-a)).foldl go { S with fg:=Jat s true S.fg }=S1 at Fz|-;obtain⟨q1,q2,q3,q4⟩:=Fz;have Al:=YQ g (S:=S1) q1 hs BQ;have h2:FI t (if S1.bad.isSome=true then S1 else Kc t s S1)/\FM t o (if S1.bad.isSome=true then S1 else Kc t s S1)/\FG t S1 (if S1.bad.isSome=true then S1 else Kc t s S1)/\((if S1.bad.isSome=true then S1 else Kc t s S1).bad=none->KC (if S1.bad.isSome=true then S1 else Kc t s S1).fd s=true):=by
    split
    ·rename_i hb;exact⟨q1,q2,.refl,λh=>by rw[h]at hb;cases hb⟩
    ·exact⟨Al.1,q2.same Al.2.1 Al.2.2.2,Al.2.1,Al.2.2.1⟩
   generalize (if S1.bad.isSome=true then S1 else Kc t s S1)=S2 at h2|-;obtain⟨r1,r2,r3,r4⟩:=h2;have Aj:=q3.trans r3;refine⟨⟨r1.gl,r1.dl,r1.emp,r1.unf,r1.fnd,r1.fine,r1.ini,r1.typ⟩,r2,⟨Aj.keep,Aj.dn,Aj.dk,Aj.fd,λx=>?_,Aj.bad⟩,r4⟩;rw[XU]
   split
   ·rename_i he;rw[he,Pi]
   ·rename_i he;rw[Aj.fg x,XU,if_neg he]
  ·have Bw:=BZ hb;have Px:blw o (a+j) (Jl t s):=⟨by omega,by omega⟩;have Ab:a+j<t.nodes.length:=by omega
   refine⟨λc hc=>?_,λv hv Ce Od OT=>?_⟩
   ·have Fs:=Qk g D5 (Qq g Ab hc) Px;have Aq:=(JQ g Ab hc).2;have Ca:=Fs.2;have:=Bw (c-a) (by omega);rw[show a+(c-a)=c by omega]at this;exact this
   ·by_cases OJ:fs o ((Jl t s:Nat):Int)<=(v:Int)
    ·have:=Bw (v-a) (by omega);rw[show a+(v-a)=v by omega]at this;exact this
    ·obtain⟨h1,h2⟩:=Jd1 g hs BQ hm DI AU hi Px hv Ce Od OT OJ;have ax:S.bad=none:=show ({ S with fg:=Jat s true S.fg }:FS).bad=none from Jha I5 hb
     exact I5.dn v ((hP ax).2 v hv Ce h1 h2)
omit g in
theorem rule_ok {m i:Nat}{got:List TL}{l:TL}(h:Xp t m got i=some l):(Jbu t i->l=[])/\((nd t i).k=43->l.length=1)/\((nd t i).k=42->(nd t i).kids≠[]->l=[tyN t (JL t i 0)]):=by
 refine⟨λhb=>?_,λhk=>?_,λhk hn=>?_⟩
 ·unfold Xp at h;simp only[hb.1,hb.2]at h;simpa using h.symm
 ·unfold Xp at h;simp only[hk]at h;simp at h;obtain⟨h1,h2⟩:=h;rw[<-h2];exact h1
 ·unfold Xp at h;simp only[hk]at h;simp[hn]at h;exact h.symm
omit g in
theorem JfT {S:FS}{i j:Nat}{r:Option TL}(hj:j≠i):(S.fin i r).dn.getD j false=S.dn.getD j false:=by
 unfold FS.fin FS.fail
 cases r with
 |none=>simp only;split <;> rfl
 |some l=>
  simp only
  split
  ·rfl
  ·split
   ·simp only[Ga,Gq];rw[if_neg (λh=>hj h.symm)]
   ·rfl
omit g in
theorem fin_new {S:FS}{i:Nat}{l:TL}(hd:S.dn.getD i false=false)(hn:(S.fin i (some l)).dn.getD i false=true):S.bad=none/\(i<S.got.length->l≠[]->JG (S.fin i (some l)).got i=l):=by
 unfold FS.fin FS.fail at hn|-;simp only at hn|-
 split at hn
 ·rw[hd]at hn;cases hn
 ·rename_i hb;have R3:S.bad=none:=by cases h:S.bad with|none=>rfl|some x=>rw[h]at hb;exact absurd rfl hb
  split at hn
  ·rename_i hf;refine⟨R3,λhl he=>?_⟩;rw[if_neg hb,if_pos hf];simp only;rw[if_neg he,Jac hl,if_pos rfl]
  ·simp only at hn;rw[hd]at hn;cases hn
omit g in
theorem fin_again {S:FS}{i:Nat}{l:TL}(hI:FI t S)(hM:FM t o S)(hi:i<t.nodes.length)(hd:S.dn.getD i false=true)(hl:JG S.got i=l):FI t (S.fin i (some l))/\FM t o (S.fin i (some l))/\FG t S (S.fin i (some l))/\(S.fin i (some l)).dn.getD i false=true/\∀j,(S.fin i (some l)).dn.getD j false=S.dn.getD j false:=by
 have AL:Yd l=true:=by rw[<-hl];exact hI.fine i
 unfold FS.fin;simp only
 split
 ·exact⟨hI,hM,.refl,hd,λ_=>rfl⟩
 ·rename_i hb;have h3:∀j,JG (if l=[] then S.got else S.got.set i l) j=JG S.got j:=λj=>by
   split
   ·rfl
   ·rw[Jac (by rw[hI.gl];exact hi)]
    split
    ·rename_i e;rw[e,hl]
    ·rfl
  have h4:∀j,(S.dn.set i true).getD j false=S.dn.getD j false:=λj=>by
   rw[getD_setB (by rw[hI.dl];exact hi)]
   split
   ·rename_i e;rw[e,hd]
   ·rfl
  have hg:FG t S { S with got:=if l=[] then S.got else S.got.set i l,dn:=S.dn.set i true }:=FG.ext h3 h4 (λ_=>rfl) (λ_=>rfl) (λh=>absurd h hb);exact⟨hI.ext (by simp only;split <;> simp) (by simp) h3 h4 (λ_=>rfl),hM.step hg λj _ _ q1 q2=>(by rw[h4]at q1;rw[q2]at q1;cases q1),hg,by simp only;rw[h4];exact hd,h4⟩
theorem Jdl (hE:(X4 t o).2=0):∀f,GoOk t o f (doF t o (λi=>(JU t o i).toNat) f)
 |0=>λS i _ _ _ _ hu=>by omega
 |f+1=>λS i hI hM hi hP hu=>by
  unfold doF
  cases DL:(S.bad.isSome || S.dn.getD i false) with
  |true=>
   rw[if_pos rfl];refine⟨hI,hM,.refl,λhb=>?_⟩;rw[hb]at DL;simpa using DL
  |false=>
   rw[if_neg (by simp)];obtain⟨En,FX⟩:=Gy.1 DL;have R3:S.bad=none:=by cases h:S.bad with|none=>rfl|some x=>rw[h]at En;cases En
   by_cases h3:(nd t i).k=3
   ·rw[if_pos h3];simp only;obtain⟨F7,Cr,MQ,_,OC⟩:=JaP g hE hi h3;obtain⟨m,hm⟩:∃m:Nat,JU t o i=m:=⟨(JU t o i).toNat,by omega⟩;rw[hm]at F7 MQ OC|-;rw[Gc]at OC|-;have CW:m<t.nodes.length:=by omega
    have AU:inS t o (m:Int) i:=((mem_sight g hi).1 F7).2;have IY:¬Jbu t i:=λh=>by have:=h.1;omega
    have fin3:∀(S':FS) (l:TL),FI t S'->FM t o S'->FG t S S'->l=valN t S' m->(S'.bad=none->l≠[])->FI t (S'.fin i (some l))/\FM t o (S'.fin i (some l))/\FG t S (S'.fin i (some l))/\((S'.fin i (some l)).bad=none->(S'.fin i (some l)).dn.getD i false=true):=λS' l q1 q2 q3 hl Ah=>by
     cases hd:S'.dn.getD i false with
     |false=>
      obtain⟨r1,r2,r3⟩:=JfS g (r:=some l) q1 hi hd λl' _=>⟨λh=>absurd h IY,λh=>by omega,λh=>by omega⟩
      refine⟨r1,q2.step r2 λj hj hk Bw CK m' bv=>?_,q3.trans r2,r3⟩;by_cases Fe:j=i
      ·subst Fe;obtain rfl:m=m':=by omega
       obtain⟨n1,n2⟩:=fin_new hd Bw;have Mi:=Ah n1;have h5:valN t S' m≠[]:=by rw[<-hl];exact Mi
       rw[valN_keep r2 h5];exact⟨by rw[n2 (by rw[q1.gl];exact hi) Mi,hl],h5⟩
      ·rw[JfT Fe,CK]at Bw;cases Bw
     |true=>
      obtain⟨h5,h6⟩:=q2 i hi h3 hd m hm;obtain⟨r1,r2,r3,r4,_⟩:=fin_again (o:=o) q1 q2 hi hd (h5.trans hl.symm);exact⟨r1,r2,q3.trans r3,λ_=>r4⟩
    have DI:(nd t m).k=47\/(nd t m).k=64\/(nd t m).k=42\/((nd t m).k=43/\m<i/\blw o i (Kh t m).toNat):=by
     obtain⟨u,a,hu,ha,Ea,hd⟩:=AU;have R6:=JQ g hu ha;rcases (Qv g hu).1 hd with ⟨_,s',h2,CL,h4,h5⟩|⟨h1,h2,CL⟩|⟨h1,h2,CL⟩|⟨h1,h2,CL⟩
     ·exact .inr (.inr (.inl h5))
     ·exact .inr (.inl CL)
     ·exact .inl (by rw[CL];exact h1)
     ·rcases CL with ⟨CL,h4⟩|⟨_,s',CL,h4,h5,h6⟩
      ·have fo:=(JQ g hu CL).1;refine .inr (.inr (.inr ⟨h4,?_,by rw[fo,Gc];exact Qk g hu Ea (Qq g hu ha)⟩));exact JcV g hu CL ha Ea (λhe=>by subst he;exact h2 h4) (Jeu g hu h1 CL h4 ha h2)
      ·exact .inr (.inr (.inl h6))
    have BB:(nd t m).k=42->∃s k:Nat,(Kh t m)=s/\s<t.nodes.length/\(nd t s).k=41/\(m:Int)∈(nd t s).kids/\k<nB t s/\JL t s k=m:=λCn=>by
     obtain⟨s,s1,s2,s3,s4⟩:=QU g CW (by omega);have BQ:=(Yo (JcN g s2 s4)).2.2.1 (by rw[Cn];rfl);obtain⟨b1,b2,b3,b4⟩:=KV g s2 BQ;obtain⟨k,hk,Mr,_⟩:=Jby s4;refine⟨s,k,s1,s2,BQ,s4,?_,Mr⟩;refine Gs λCi=>?_
     obtain rfl:k=(nd t s).kids.length-1:=by omega
     have:Jl t s=m:=Mr;rw[this]at b3;omega
    have IM:∀S':FS,FI t S'->(nd t m).k=42->(nd t m).kids=[]->KC S'.fd (Kh t m).toNat=true->JG S'.got m≠[]:=λS' q1 Cn Ms hf=>by
     obtain⟨s,k,s1,s2,s3,s4,s5,s6⟩:=BB Cn;rw[s1,Gc]at hf;have:=(q1.fnd s hf).2.2.2 k s5 (by rw[s6];exact Ms);rw[s6]at this;rw[this];simp
    unfold JbP;by_cases Ck:(nd t m).k=47
    ·rw[if_pos Ck];exact fin3 S _ hI hM .refl (by unfold valN;rw[if_pos Ck]) λ_=>by simp
    rw[if_neg Ck];by_cases Dq:(nd t m).k=64\/(nd t m).k=42/\(nd t m).kids≠[]
    ·rw[if_pos Dq];exact fin3 S _ hI hM .refl (by unfold valN;rw[if_neg Ck,if_pos Dq]) λ_=>by simp
    rw[if_neg Dq];by_cases DU:(nd t m).k=42/\KC S.fd (Kh t m).toNat=false
    ·rw[if_pos DU];simp only;obtain⟨s,k,s1,s2,s3,s4,s5,s6⟩:=BB DU.1;have Ms:(nd t m).kids=[]:=Classical.byContradiction λh=>Dq (.inr ⟨DU.1,h⟩)
     rw[s1,Gc];obtain⟨q1,q2,q3,q4⟩:=JdK g (Jdl hE f) hI hM hi hP hu s2 s3 s4 DU.1 AU;refine fin3 _ _ q1 q2 q3 (by unfold valN;rw[if_neg Ck,if_neg Dq]) λhb=>IM _ q1 DU.1 Ms (by rw[s1,Gc];exact q4 hb)
    ·rw[if_neg DU];refine fin3 S _ hI hM .refl (by unfold valN;rw[if_neg Ck,if_neg Dq]) λ_=>?_
     rcases DI with h|h|h|⟨h,h1,h2⟩
     ·exact absurd h Ck
     ·exact absurd (.inl h) Dq
     ·refine IM S hI h (Classical.byContradiction λhx=>Dq (.inr ⟨h,hx⟩)) ?_
      cases hx:KC S.fd (Kh t m).toNat with
      |true=>rfl
      |false=>exact absurd ⟨h,hx⟩ DU
     ·intro he;have:=hI.ini m CW ((hP R3).2 m CW h h1 h2) h;rw[he]at this;simp at this
   ·rw[if_neg h3];by_cases Bq:(nd t i).k=41
    ·rw[if_pos Bq];simp only;have hS:FI t (Jau t i S)/\FG t S (Jau t i S)/\(Jau t i S).dn=S.dn:=by
      unfold Jau
      split
      ·exact⟨hI,.refl,rfl⟩
      ·have:=YQ g hI hi Bq;exact⟨this.1,this.2.1,this.2.2.2⟩
     obtain⟨q1,q2,q3⟩:=hS;have iF:=hM.same q2 q3;obtain⟨r1,r2,r3⟩:=JfS g (r:=if Jaq t i (JG (Jau t i S).got (Jl t i))=true then some [] else none) q1 hi (by rw[q3];exact FX) λl hl=>by
      split at hl
      ·cases hl;exact⟨λ_=>rfl,λh=>by omega,λh=>by omega⟩
      ·cases hl
     refine⟨r1,iF.step r2 λj hj hk Bw CK=>?_,q2.trans r2,r3⟩;rw[JfT (λh=>by subst h;omega),CK]at Bw;cases Bw
    ·rw[if_neg Bq];obtain⟨r1,r2,r3⟩:=JfS g (r:=Xp t (JU t o i).toNat S.got i) hI hi FX λl hl=>rule_ok hl
     refine⟨r1,hM.step r2 λj hj hk Bw CK=>?_,r2,r3⟩;rw[JfT (λh=>by subst h;omega),CK]at Bw;cases Bw
theorem JgI (hE:(X4 t o).2=0):∀k,k<=t.nodes.length->FI t ((K8 0 k).foldl (doF t o (λi=>(JU t o i).toNat) (t.nodes.length+1)) (FS.start t))/\FM t o ((K8 0 k).foldl (doF t o (λi=>(JU t o i).toNat) (t.nodes.length+1)) (FS.start t))/\FG t (FS.start t) ((K8 0 k).foldl (doF t o (λi=>(JU t o i).toNat) (t.nodes.length+1)) (FS.start t))/\(((K8 0 k).foldl (doF t o (λi=>(JU t o i).toNat) (t.nodes.length+1)) (FS.start t)).bad=none->∀j,j<k->((K8 0 k).foldl (doF t o (λi=>(JU t o i).toNat) (t.nodes.length+1)) (FS.start t)).dn.getD (0+j) false=true):=by
 have Fg:∀j,JG (FS.start t).got j=[]:=λj=>by
  unfold FS.start JG;simp only[Ga,Gj]
  split <;> rfl
 have FX:∀j,(FS.start t).dn.getD j false=false:=λj=>by
  unfold FS.start;simp only[Ga,Gj]
  split <;> rfl
 refine JcG (Jdl g hE (t.nodes.length+1)) ⟨by simp[FS.start],by simp[FS.start],λi _ _=>Fg i,λs _ _ _ k _ _=>Fg _,λs h=>by simp[FS.start,KC]at h,λi=>by rw[Fg];rfl,λi _ h=>(by rw[FX]at h;cases h),λi _ h=>(by rw[FX]at h;cases h)⟩ (λi _ _ h=>by rw[FX]at h;cases h) ?_ (by omega) λS' j I5 hj BZ hb=>?_
 ·unfold uf;have:=Gt (λs=>!KC (FS.start t).fg s) (Gb t.nodes.length);rw[Gu]at this;omega
 ·have Bw:=BZ hb;refine⟨λc hc=>?_,λv hv Ce Od _=>?_⟩
  ·have Aq:=(JQ g (show 0+j<t.nodes.length by omega) hc).2;have:=Bw c (by omega);rw[Gl]at this;exact this
  ·have:=Bw v (by omega);rw[Gl]at this;exact this
end
end
section
theorem rule_congr {t:Tr}{m i:Nat}{got got':List TL}(h1:∀j,j<(nd t i).kids.length->JG got' (JL t i j)=JG got (JL t i j))(h2:(nd t i).k=29->∀j,1<=j->j<(nd t i).kids.length->JG got' (Jl t (JL t i j))=JG got (Jl t (JL t i j)))(h3:(nd t i).k=44->JG got' m=JG got m):Xp t m got' i=Xp t m got i:=by
 have hK:∀j,(if j<(nd t i).kids.length then JG got' (JL t i j) else [])=if j<(nd t i).kids.length then JG got (JL t i j) else []:=λj=>by
  split
  ·rename_i h;exact h1 j h
  ·rfl
 have hL:(nd t i).k=29->∀j,Jce t got' i (j+1)=Jce t got i (j+1):=λhk j=>by
  unfold Jce
  split
  ·rename_i h;exact h2 hk (j+1) (by omega) h
  ·rfl
 unfold Xp;simp only[hK];by_cases e1:(nd t i).k=29
 ·have cZ:Jce t got' i 1=Jce t got i 1:=hL e1 0;simp only[e1,hL e1];simp
 ·by_cases e2:(nd t i).k=44
  ·simp only[e2,h3 e2];simp
  ·simp only[if_neg e1,if_neg e2]
structure FR (t:Tr)(o:List Int)(S:FS):Prop where
 clo:∀i,i<t.nodes.length->S.dn.getD i false=true->∀c:Nat,(c:Int)∈(nd t i).kids->S.dn.getD c false=true
 rule:∀i,i<t.nodes.length->S.dn.getD i false=true->(nd t i).k≠3->(nd t i).k≠41->∃l,Xp t (JU t o i).toNat S.got i=some l/\(¬Jbu t i->JG S.got i=l)
 sets:∀s,s<t.nodes.length->S.dn.getD s false=true->(nd t s).k=41->KC S.fd s=true/\Jaq t s (JG S.got (Jl t s))=true
section
variable {t:Tr}{o:List Int}(g:GoodT t o)
include g
theorem JfD {i:Nat}(hi:i<t.nodes.length):lets t.nodes (nd t i)=KX (nd t i).k (lets t.nodes (nd t i)):=by
 have hn:=g.nds (nd t i) (by unfold nd;rw[Ga,Gd hi];exact Gg hi);unfold ndI J4 at hn;simp only[Gr,beq_iff_eq]at hn;exact hn.1.1.1.2
theorem let_get {i j:Nat}(hi:i<t.nodes.length)(hj:j<(nd t i).kids.length):(lets t.nodes (nd t i))[j]? = some (Jdr (nd t (JL t i j)).k):=by
 have hm:=JF g hi hj;unfold lets;rw[List.getElem?_map,Gd hj,Option.map_some,hm.2.2,Ga,Gd hj];rfl
theorem kids_two {i:Nat}(hi:i<t.nodes.length)(hk:4<=(nd t i).k/\(nd t i).k<=18):(nd t i).kids.length=2:=by
 have h:=JfD g hi;have hl:=congrArg Gf h;rw[Ky]at hl;unfold KX at hl;rw[if_pos hk]at hl;exact hl
theorem Jbi {i:Nat}(hi:i<t.nodes.length)(hk:(19<=(nd t i).k/\(nd t i).k<=25)\/(nd t i).k=43\/(nd t i).k=44\/(62<=(nd t i).k/\(nd t i).k<=64)):(nd t i).kids.length=1:=by
 have h:=JfD g hi;have hl:=congrArg Gf h;rw[Ky]at hl;unfold KX at hl;rw[iN7]at hl;by_cases h2:(19<=(nd t i).k/\(nd t i).k<=24)\/(nd t i).k=43\/(nd t i).k=44
 ·rw[if_pos h2]at hl;exact hl
 ·rw[if_neg h2,iP7]at hl;exact hl
theorem kids_if {i:Nat}(hi:i<t.nodes.length)(hk:(nd t i).k=27):(nd t i).kids.length=3:=by
 have h:=JfD g hi;have hl:=congrArg Gf h;rw[Ky]at hl;unfold KX at hl;rw[hk]at hl;simpa using hl
theorem part_kind {i j:Nat}(hi:i<t.nodes.length)(hk:(nd t i).k=29)(hj:1<=j)(A8:j<(nd t i).kids.length):(nd t (JL t i j)).k=46\/(nd t (JL t i j)).k=47:=by
 have h:=JfD g hi;have hg:=let_get g hi A8;rw[h]at hg;unfold KX at hg;rw[hk]at hg;simp only at hg;rw[iN7,iN7,iN7,iN7,iN7,iN7,if_pos trivial,List.getElem?_append_right (by simpa using hj),Gj]at hg
 split at hg
 ·have Mc:=(Option.some.inj hg).symm;unfold Jdr letter at Mc;by_cases a1:1<=(nd t (JL t i j)).k/\(nd t (JL t i j)).k<=29
  ·rw[if_pos a1]at Mc;exact absurd Mc (by decide)
  rw[if_neg a1]at Mc;by_cases a2:60<=(nd t (JL t i j)).k/\(nd t (JL t i j)).k<=63
  ·rw[if_pos a2]at Mc;exact absurd Mc (by decide)
  rw[if_neg a2]at Mc;by_cases a3:(nd t (JL t i j)).k=46\/(nd t (JL t i j)).k=47
  ·exact a3
  exfalso;rw[if_neg a3]at Mc
  repeat' (split at Mc)
  all_goals exact absurd Mc (by decide)
 ·cases hg
theorem part_last {u:Nat}(hu:u<t.nodes.length)(hk:(nd t u).k=46\/(nd t u).k=47):0<(nd t u).kids.length/\(1<=(nd t (Jl t u)).k/\(nd t (Jl t u)).k<=29)/\Jl t u<u:=by
 have h:=JfD g hu;have hl:=congrArg Gf h;rw[Ky]at hl;have Ad:(nd t u).kids.length=2\/(nd t u).kids.length=3:=by
  unfold KX at hl;rcases hk with hk|hk <;> rw[hk]at hl <;> simp at hl <;> omega
 have hm:=JF g hu (i:=(nd t u).kids.length-1) (by omega);have hg:=let_get g hu (j:=(nd t u).kids.length-1) (by omega);refine⟨by omega,JaQ ?_,hm.2.1⟩;rw[h]at hg;unfold KX at hg;rcases hk with hk|hk
 ·rw[hk]at hl hg;simp[KX]at hl hg;rw[hl]at hg;simp at hg;show Jdr (nd t (JL t u ((nd t u).kids.length-1))).k=101;rw[hl];exact hg.symm
 ·rw[hk]at hl hg;simp[KX]at hl hg;rw[hl]at hg;simp at hg;show Jdr (nd t (JL t u ((nd t u).kids.length-1))).k=101;rw[hl];exact hg.symm
theorem kid_nb {i c:Nat}(hi:i<t.nodes.length)(hk:(nd t i).k≠41)(hc:(c:Int)∈(nd t i).kids):¬Jbu t c:=λhb=>hk ((Yo (JcN g hi hc)).2.2.1 (by rw[hb.1];rfl))
theorem rule_keep {S S':FS}{i:Nat}{l:TL}(h:FR t o S)(hg:FG t S S')(hi:i<t.nodes.length)(hk:(nd t i).k≠41)(hd:∀c:Nat,(c:Int)∈(nd t i).kids->S.dn.getD c false=true)(hl:Xp t (JU t o i).toNat S.got i=some l):Xp t (JU t o i).toNat S'.got i=some l:=by
 rw[<-hl];refine rule_congr (λj hj=>?_) (λPt j iT hj=>?_) (λBH=>?_)
 ·have hm:=(JF g hi hj).1;exact hg.dk _ (hd _ hm) (kid_nb g hi hk hm)
 ·have hm:=JF g hi hj;have Ab:JL t i j<t.nodes.length:=by omega
  obtain⟨p1,p2,p3⟩:=part_last g Ab (part_kind g hi Pt iT hj);have Cr:=JF g Ab (i:=(nd t (JL t i j)).kids.length-1) (by omega);exact hg.dk _ (h.clo _ Ab (hd _ hm.1) _ Cr.1) λhb=>by have:=hb.1;omega
 ·have h1:(JG S.got (JU t o i).toNat).length=1:=by
   unfold Xp at hl;simp only[BH]at hl;simp at hl;exact hl.1.1
  exact hg.keep _ λhe=>by rw[he]at h1;simp at h1
theorem last_kid {s:Nat}(hs:s<t.nodes.length)(hk:(nd t s).k=41):((Jl t s:Nat):Int)∈(nd t s).kids:=by
 obtain⟨b1,_⟩:=KV g hs hk;exact(JF g hs (i:=(nd t s).kids.length-1) (by omega)).1
theorem FR.step {S S':FS}(h:FR t o S)(hg:FG t S S')(hn:∀i,i<t.nodes.length->S'.dn.getD i false=true->S.dn.getD i false=false->(∀c:Nat,(c:Int)∈(nd t i).kids->S'.dn.getD c false=true)/\((nd t i).k≠3->(nd t i).k≠41->∃l,Xp t (JU t o i).toNat S'.got i=some l/\(¬Jbu t i->JG S'.got i=l))/\((nd t i).k=41->KC S'.fd i=true/\Jaq t i (JG S'.got (Jl t i))=true)):FR t o S':=by
 refine⟨λi hi hd c hc=>?_,λi hi hd h3 Bq=>?_,λi hi hd Bq=>?_⟩
 ·cases hs:S.dn.getD i false with
  |false=>exact(hn i hi hd hs).1 c hc
  |true=>exact hg.dn c (h.clo i hi hs c hc)
 ·cases hs:S.dn.getD i false with
  |false=>exact(hn i hi hd hs).2.1 h3 Bq
  |true=>
   obtain⟨l,h1,h2⟩:=h.rule i hi hs h3 Bq;exact⟨l,rule_keep g h hg hi Bq (h.clo i hi hs) h1,λhb=>(hg.dk i hs hb).trans (h2 hb)⟩
 ·cases hs:S.dn.getD i false with
  |false=>exact(hn i hi hd hs).2.2 Bq
  |true=>
   obtain⟨h1,h2⟩:=h.sets i hi hs Bq;obtain⟨b1,b2,b3,b4⟩:=KV g hi Bq;refine⟨hg.fd i h1,?_⟩;rw[hg.dk (Jl t i) (h.clo i hi hs _ (last_kid g hi Bq)) λhb=>by have:=hb.1;omega];exact h2
theorem FR.same {S S':FS}(h:FR t o S)(hg:FG t S S')(hd:∀j,S'.dn.getD j false=S.dn.getD j false):FR t o S':=h.step g hg λi _ h1 h2=>by rw[hd,h2]at h1;cases h1
omit g in
theorem FR.fields {S S':FS}(h:FR t o S)(h1:S'.got=S.got)(h2:S'.dn=S.dn)(h3:S'.fd=S.fd):FR t o S':=⟨by rw[h2];exact h.clo,by rw[h1,h2];exact h.rule,by rw[h1,h2,h3];exact h.sets⟩
omit g in
def GoR (t:Tr)(o:List Int)(f:Nat)(go:FS->Nat->FS):Prop:=∀S i,FI t S->FM t o S->FR t o S->i<t.nodes.length->PreQ t o S i->uf t S<f->FR t o (go S i)
omit g in
theorem span_fr {f:Nat}{go:FS->Nat->FS}(CJ:GoOk t o f go)(IK:GoR t o f go){S:FS}(hI:FI t S)(hM:FM t o S)(hR:FR t o S)(hu:uf t S<f){a m:Nat}(Pn:a+m<=t.nodes.length)(hP:∀S' j,FG t S S'->j<m->(S'.bad=none->∀j',j' < j->S'.dn.getD (a+j') false=true)->PreQ t o S' (a+j)) :
  ∀k,k<=m->FR t o ((K8 a k).foldl go S)
 |0,_=>hR
 |k+1,hk=>by
  obtain⟨h1,h2,h3,h4⟩:=JcG CJ hI hM hu Pn hP k (by omega);have ih:=span_fr CJ IK hI hM hR hu Pn hP k (by omega);rw[JbZ,Gv];generalize (K8 a k).foldl go S=S1 at *;exact IK S1 (a+k) h1 h2 ih (by omega) (hP S1 k h3 (by omega) h4) (by rw[uf_eq h3];exact hu)
theorem force_pre {S:FS}{i m s:Nat}(hi:i<t.nodes.length)(hP:PreQ t o S i)(hs:s<t.nodes.length)(BQ:(nd t s).k=41)(hm:(m:Int)∈(nd t s).kids)(DI:(nd t m).k=42)(AU:inS t o (m:Int) i){a:Nat}(ha:fs o ((Jl t s:Nat):Int)=a):∀S' j,FG t { S with fg:=Jat s true S.fg } S'->j<Jl t s+1-a->(S'.bad=none->∀j',j' < j->S'.dn.getD (a+j') false=true)->PreQ t o S' (a+j):=λS' j I5 hj BZ hb=>by
 obtain⟨b1,b2,b3,b4⟩:=KV g hs BQ;have D5:Jl t s<t.nodes.length:=by omega
 have Bw:=BZ hb;have Px:blw o (a+j) (Jl t s):=⟨by omega,by omega⟩;have Ab:a+j<t.nodes.length:=by omega
 refine⟨λc hc=>?_,λv hv Ce Od OT=>?_⟩
 ·have Fs:=Qk g D5 (Qq g Ab hc) Px;have Aq:=(JQ g Ab hc).2;have Ca:=Fs.2;have:=Bw (c-a) (by omega);rw[show a+(c-a)=c by omega]at this;exact this
 ·by_cases OJ:fs o ((Jl t s:Nat):Int)<=(v:Int)
  ·have:=Bw (v-a) (by omega);rw[show a+(v-a)=v by omega]at this;exact this
  ·obtain⟨h1,h2⟩:=Jd1 g hs BQ hm DI AU hi Px hv Ce Od OT OJ;have ax:S.bad=none:=show ({ S with fg:=Jat s true S.fg }:FS).bad=none from Jha I5 hb
   exact I5.dn v ((hP ax).2 v hv Ce h1 h2)
theorem force_fr {f:Nat}{go:FS->Nat->FS}(CJ:GoOk t o f go)(IK:GoR t o f go){S:FS}{i m s:Nat}(hI:FI t S)(hM:FM t o S)(hR:FR t o S)(hi:i<t.nodes.length)(hP:PreQ t o S i)(hu:uf t S<f+1)(hs:s<t.nodes.length)(BQ:(nd t s).k=41)(hm:(m:Int)∈(nd t s).kids)(DI:(nd t m).k=42)(AU:inS t o (m:Int) i):FR t o (XB t o go s i S):=by
 unfold XB
 cases Pi:KC S.fg s with
 |true=>
  rw[if_pos rfl];unfold FS.fail
  split
  ·exact hR
  ·exact hR.fields rfl rfl rfl
 |false=>
  rw[if_neg (by simp)];simp only;obtain⟨b1,b2,b3,b4⟩:=KV g hs BQ;have gq:=fs_le g (a:=Jl t s) (by omega);have Pp:FI t { S with fg:=Jat s true S.fg }:=⟨hI.gl,hI.dl,hI.emp,hI.unf,hI.fnd,hI.fine,hI.ini,hI.typ⟩;have PI:=uf_less hs Pi;obtain⟨a,ha⟩:∃a:Nat,fs o ((Jl t s:Nat):Int)=a:=⟨(fs o ((Jl t s:Nat):Int)).toNat,by omega⟩;rw[ha,Gc];have BC:=force_pre g hi hP hs BQ hm DI AU ha;have Fz:=JcG CJ Pp (S:={ S with fg:=Jat s true S.fg }) (show FM t o _ from hM) (by omega) (a:=a) (m:=Jl t s+1-a) (by omega) BC _ (Gi _);have MJ:=span_fr CJ IK Pp (S:={ S with fg:=Jat s true S.fg }) (show FM t o _ from hM) (hR.fields rfl rfl rfl) (by omega) (a:=a) (m:=Jl t s+1-a) (by omega) BC _ (Gi _);generalize (K8 a (Jl t s+1-a)).foldl go { S with fg:=Jat s true S.fg }=S1 at Fz MJ|-;obtain⟨q1,q2,q3,q4⟩:=Fz;refine FR.fields (S:=if S1.bad.isSome=true then S1 else Kc t s S1) ?_ rfl rfl rfl
  split
  ·exact MJ
  ·have Al:=YQ g (S:=S1) q1 hs BQ;exact MJ.same g Al.2.1 λj=>by rw[Al.2.2.2]
end
end
section
section
variable {t:Tr}{o:List Int}(g:GoodT t o)
include g
theorem Jep (hE:(X4 t o).2=0){i m:Nat}(hi:i<t.nodes.length)(h3:(nd t i).k=3)(hm:JU t o i=m):m<t.nodes.length/\inS t o (m:Int) i/\((nd t m).k=47\/(nd t m).k=64\/(nd t m).k=43\/((nd t m).k=42/\∃s k:Nat,Kh t m=s/\s<t.nodes.length/\(nd t s).k=41/\(m:Int)∈(nd t s).kids/\k<nB t s/\JL t s k=m)):=by
 obtain⟨F7,Cr,MQ,_,OC⟩:=JaP g hE hi h3;rw[hm]at F7 MQ OC;rw[Gc]at OC;have CW:m<t.nodes.length:=by omega
 have AU:inS t o (m:Int) i:=((mem_sight g hi).1 F7).2;refine⟨CW,AU,?_⟩;have DI:(nd t m).k=47\/(nd t m).k=64\/(nd t m).k=43\/(nd t m).k=42:=by
  obtain⟨u,a,hu,ha,Ea,hd⟩:=AU;rcases (Qv g hu).1 hd with ⟨_,s',h2,CL,h4,h5⟩|⟨h1,h2,CL⟩|⟨h1,h2,CL⟩|⟨h1,h2,CL⟩
  ·exact .inr (.inr (.inr h5))
  ·exact .inr (.inl CL)
  ·exact .inl (by rw[CL];exact h1)
  ·rcases CL with ⟨CL,h4⟩|⟨_,s',CL,h4,h5,h6⟩
   ·exact .inr (.inr (.inl h4))
   ·exact .inr (.inr (.inr h6))
 rcases DI with h|h|h|Cn
 ·exact .inl h
 ·exact .inr (.inl h)
 ·exact .inr (.inr (.inl h))
 ·obtain⟨s,s1,s2,s3,s4⟩:=QU g CW (by omega);have BQ:=(Yo (JcN g s2 s4)).2.2.1 (by rw[Cn];rfl);obtain⟨b1,b2,b3,b4⟩:=KV g s2 BQ;obtain⟨k,hk,Mr,_⟩:=Jby s4;refine .inr (.inr (.inr ⟨Cn,s,k,s1,s2,BQ,s4,?_,Mr⟩));refine Gs λCi=>?_
  obtain rfl:k=(nd t s).kids.length-1:=by omega
  have:Jl t s=m:=Mr;rw[this]at b3;omega
theorem doF_fr (hE:(X4 t o).2=0):∀f,GoR t o f (doF t o (λi=>(JU t o i).toNat) f)
 |0=>λS i _ _ _ _ _ hu=>by omega
 |f+1=>λS i hI hM hR hi hP hu=>by
  unfold doF
  cases DL:(S.bad.isSome || S.dn.getD i false) with
  |true=>rw[if_pos rfl];exact hR
  |false=>
   rw[if_neg (by simp)];obtain⟨En,FX⟩:=Gy.1 DL;have R3:S.bad=none:=by cases h:S.bad with|none=>rfl|some x=>rw[h]at En;cases En
   have Dk:=(hP R3).1;by_cases h3:(nd t i).k=3
   ·rw[if_pos h3];simp only;obtain⟨m,hm⟩:∃m:Nat,JU t o i=m:=⟨(JU t o i).toNat,by have:=(JaP g hE hi h3).2.1;omega⟩;obtain⟨CW,AU,DI⟩:=Jep g hE hi h3 hm;rw[hm,Gc];have IY:¬Jbu t i:=λh=>by have:=h.1;omega
    have fin3:∀(S':FS) (l:TL),FI t S'->FM t o S'->FR t o S'->FG t S S'->(S'.dn.getD i false=true->l=valN t S' m)->FR t o (S'.fin i (some l)):=λS' l q1 q2 qr q3 hl=>by
     cases hd:S'.dn.getD i false with
     |false=>
      obtain⟨r1,r2,r3⟩:=JfS g (r:=some l) q1 hi hd λl' _=>⟨λh=>absurd h IY,λh=>by omega,λh=>by omega⟩
      refine qr.step g r2 λj hj Bw CK=>?_
      by_cases Fe:j=i
      ·subst Fe;exact⟨λc hc=>r2.dn c (q3.dn c (Dk c hc)),λh=>absurd h3 h,λh=>by omega⟩
      ·rw[JfT Fe,CK]at Bw;cases Bw
     |true=>
      obtain⟨h5,h6⟩:=q2 i hi h3 hd m hm;obtain⟨_,_,r3,_,r5⟩:=fin_again (o:=o) q1 q2 hi hd (h5.trans (hl hd).symm);exact qr.same g r3 r5
    unfold JbP;by_cases Ck:(nd t m).k=47
    ·rw[if_pos Ck];exact fin3 S _ hI hM hR .refl λh=>by rw[FX]at h;cases h
    rw[if_neg Ck];by_cases Dq:(nd t m).k=64\/(nd t m).k=42/\(nd t m).kids≠[]
    ·rw[if_pos Dq];exact fin3 S _ hI hM hR .refl λh=>by rw[FX]at h;cases h
    rw[if_neg Dq];by_cases DU:(nd t m).k=42/\KC S.fd (Kh t m).toNat=false
    ·rw[if_pos DU];simp only;rcases DI with h|h|h|⟨_,s,k,s1,s2,s3,s4,s5,s6⟩
     ·exact absurd h Ck
     ·exact absurd (.inl h) Dq
     ·have:=DU.1;omega
     ·rw[s1,Gc];obtain⟨q1,q2,q3,q4⟩:=JdK g (Jdl g hE f) hI hM hi hP hu s2 s3 s4 DU.1 AU;have qr:=force_fr g (Jdl g hE f) (doF_fr hE f) hI hM hR hi hP hu s2 s3 s4 DU.1 AU;exact fin3 _ _ q1 q2 qr q3 λ_=>by unfold valN;rw[if_neg Ck,if_neg Dq]
    ·rw[if_neg DU];exact fin3 S _ hI hM hR .refl λh=>by rw[FX]at h;cases h
   ·rw[if_neg h3];by_cases Bq:(nd t i).k=41
    ·rw[if_pos Bq];simp only;obtain⟨b1,b2,b3,b4⟩:=KV g hi Bq;have hS:FI t (Jau t i S)/\FG t S (Jau t i S)/\(Jau t i S).dn=S.dn/\((Jau t i S).bad=none->KC (Jau t i S).fd i=true):=by
      unfold Jau
      split
      ·rename_i h;exact⟨hI,.refl,rfl,λ_=>h⟩
      ·have:=YQ g hI hi Bq;exact⟨this.1,this.2.1,this.2.2.2,this.2.2.1⟩
     obtain⟨q1,q2,q3,q4⟩:=hS;have hr:=JfS g (r:=if Jaq t i (JG (Jau t i S).got (Jl t i))=true then some [] else none) q1 hi (by rw[q3];exact FX) λl hl=>by
      split at hl
      ·cases hl;exact⟨λ_=>rfl,λh=>by omega,λh=>by omega⟩
      ·cases hl
     have bV:=hR.same g q2 λj=>by rw[q3]
     generalize Jau t i S=S1 at *
     cases BG:Jaq t i (JG S1.got (Jl t i)) with
     |false=>
      rw[BG,if_neg (by simp)]at hr;rw[if_neg (by simp)];refine bV.same g hr.2.1 λj=>?_
      unfold FS.fin FS.fail;simp only
      split <;> rfl
     |true=>
      rw[BG,if_pos rfl]at hr;rw[if_pos rfl];refine bV.step g hr.2.1 λj hj Bw CK=>?_
      by_cases Fe:j=i
      ·subst Fe;refine⟨λc hc=>hr.2.1.dn c (by rw[q3];exact Dk c hc),λ_ h=>absurd Bq h,λ_=>⟨hr.2.1.fd j (q4 (fin_new CK Bw).1),?_⟩⟩;rw[hr.2.1.dk (Jl t j) (by rw[q3];exact Dk _ (last_kid g hj Bq)) λhb=>by have:=hb.1;omega];exact BG
      ·rw[JfT Fe,CK]at Bw;cases Bw
    ·rw[if_neg Bq];obtain⟨r1,r2,r3⟩:=JfS g (r:=Xp t (JU t o i).toNat S.got i) hI hi FX λl hl=>rule_ok hl
     cases hr:Xp t (JU t o i).toNat S.got i with
     |none=>
      rw[hr]at r2;refine hR.same g r2 λj=>?_
      unfold FS.fin FS.fail;simp only
      split <;> rfl
     |some l=>
      rw[hr]at r2;refine hR.step g r2 λj hj Bw CK=>?_
      by_cases Fe:j=i
      ·subst Fe;obtain⟨n1,n2⟩:=fin_new CK Bw;refine⟨λc hc=>r2.dn c (Dk c hc),λ_ _=>⟨l,rule_keep g hR r2 hj Bq Dk hr,λhb=>?_⟩,λh=>absurd h Bq⟩;by_cases hl:l=[]
       ·subst hl;have h0:=hI.emp j FX hb;unfold FS.fin FS.fail;simp only
        split
        ·exact h0
        ·split
         ·simp only[if_true];exact h0
         ·exact h0
       ·exact n2 (by rw[hI.gl];exact hj) hl
      ·rw[JfT Fe,CK]at Bw;cases Bw
end
end
section
end
section
section
variable {t:Tr}{o:List Int}(g:GoodT t o)
include g
end
end
section
section
variable {t:Tr}{o:List Int}(g:GoodT t o)
theorem Jd0 {t:Tr}(j:Nat):JG (FS.start t).got j=[]:=by
 unfold FS.start JG;simp only[Ga,Gj]
 split <;> rfl
theorem Ja9 {t:Tr}(j:Nat):(FS.start t).dn.getD j false=false:=by
 unfold FS.start;simp only[Ga,Gj]
 split <;> rfl
theorem start_fi {t:Tr}:FI t (FS.start t):=⟨by simp[FS.start],by simp[FS.start],λi _ _=>Jd0 i,λs _ _ _ k _ _=>Jd0 _,λs h=>by simp[FS.start,KC]at h,λi=>by rw[Jd0];rfl,λi _ h=>(by rw[Ja9]at h;cases h),λi _ h=>(by rw[Ja9]at h;cases h)⟩
theorem start_fm {t:Tr}{o:List Int}:FM t o (FS.start t):=λi _ _ h=>by rw[Ja9]at h;cases h
theorem start_fr {t:Tr}{o:List Int}:FR t o (FS.start t):=⟨λi _ h=>(by rw[Ja9]at h;cases h),λi _ h=>(by rw[Ja9]at h;cases h),λi _ h=>(by rw[Ja9]at h;cases h)⟩
theorem start_uf {t:Tr}:uf t (FS.start t)<t.nodes.length+1:=by
 unfold uf;have:=Gt (λs=>!KC (FS.start t).fg s) (Gb t.nodes.length);rw[Gu]at this;omega
theorem span_zero {n:Nat}:K8 0 n=Gb n:=by
 unfold K8;refine List.ext_getElem (by simp) λi h1 h2=>?_
 simp
include g
theorem start_pre:∀S' j,FG t (FS.start t) S'->j<t.nodes.length->(S'.bad=none->∀j',j' < j->S'.dn.getD (0+j') false=true)->PreQ t o S' (0+j):=λS' j _ hj BZ hb=>by
 have Bw:=BZ hb;refine⟨λc hc=>?_,λv hv Ce Od _=>?_⟩
 ·have Aq:=(JQ g (show 0+j<t.nodes.length by omega) hc).2;have:=Bw c (by omega);rw[Gl]at this;exact this
 ·have:=Bw v (by omega);rw[Gl]at this;exact this
end
end
section
section
variable {t:Tr}{o:List Int}(g:GoodT t o)
include g
theorem Jcf {i:Nat}(hi:i<t.nodes.length)(hk:(nd t i).k=25\/(62<=(nd t i).k/\(nd t i).k<=64)\/(nd t i).k=42/\(nd t i).kids≠[]):0<(nd t i).kids.length/\JL t i 0<i/\60<=(nd t (JL t i 0)).k/\(nd t (JL t i 0)).k<=63:=by
 have h:=JfD g hi;have e:lets t.nodes (nd t i)=[116]:=by
  by_cases Cn:(nd t i).k=42
  ·have Ah:lets t.nodes (nd t i)≠[]:=λe=>by
    have:=congrArg Gf e;rw[Ky]at this;rcases hk with h1|h1|h1
    ·omega
    ·omega
    ·exact h1.2 (Gn this)
   rw[Cn]at h;generalize lets t.nodes (nd t i)=hv at *;rw[h];simp[KX,Ah]
  ·rw[h];unfold KX;simp only;rw[iN7,iN7,iP7]
 have hl:=congrArg Gf e;rw[Ky]at hl;simp only[Gm,List.length_nil]at hl;have hg:=let_get g hi (j:=0) (by omega);rw[e]at hg;have h2:=Jcc (Option.some.inj hg).symm;exact⟨by omega,(JF g hi (i:=0) (by omega)).2.1,h2.1,h2.2⟩
theorem tyF_fuel:∀(f f' i:Nat),i<t.nodes.length->60<=(nd t i).k->(nd t i).k<=63->i<f->i<f'->tyF t f i=tyF t f' i
 |0,_,_,_,_,_,h,_=>by omega
 |f+1,0,_,_,_,_,_,h=>by omega
 |f+1,f' + 1,i,hi,h1,h2,h3,h4=>by
  unfold tyF;by_cases e0:(nd t i).k=60
  ·rw[if_pos e0,if_pos e0]
  ·by_cases e1:(nd t i).k=61
   ·rw[if_neg e0,if_neg e0,if_pos e1,if_pos e1]
   ·obtain⟨k1,k2,k3,k4⟩:=Jcf g hi (.inr (.inl ⟨by omega,by omega⟩));rw[tyF_fuel f f' (JL t i 0) (by omega) k3 k4 (by omega) (by omega)]
theorem tyN_eq {i:Nat}(hi:i<t.nodes.length)(h1:60<=(nd t i).k)(h2:(nd t i).k<=63):tyN t i=if (nd t i).k=60 then .int else if (nd t i).k=61 then .bool else if (nd t i).k=62 then .arr (tyN t (JL t i 0)) else .str (tyN t (JL t i 0)):=by
 show tyF t (i+1) i=_;unfold tyF;by_cases e0:(nd t i).k=60
 ·rw[if_pos e0,if_pos e0]
 ·by_cases e1:(nd t i).k=61
  ·rw[if_neg e0,if_neg e0,if_pos e1,if_pos e1]
  ·obtain⟨k1,k2,k3,k4⟩:=Jcf g hi (.inr (.inl ⟨by omega,by omega⟩));rw[tyF_fuel g i (JL t i 0+1) (JL t i 0) (by omega) k3 k4 (by omega) (by omega)];rfl
end
section
variable {u t:Tr}{p o:List Int}{ψ:Nat->Nat}(gu:GoodT u p)(g:GoodT t o)(h:TMap u t ψ)
include gu g h
end
end
def KK (t:Tr)(got:List TL)(i j:Nat):TL:=if j<(nd t i).kids.length then JG got (JL t i j) else []
def J2 (k:Nat)(ks:List Int)(n:Nat)(K L:Nat->TL)(ty:TyX)(sp sr si gm:TL):Option TL:=
 if k=1 then some [.int]
 else if k=2 then some [.bool]
 else if k=4 then match K 1 with
  |[.str a]=>if K 0=[a] then some [.str a] else none
  |_=>none
 else if k=5\/k=6 then if K 0=[.bool]/\K 1=[.bool] then some [.bool] else none
 else if k=7\/k=8 then if K 0=[.int]/\K 1=[.int]\/K 0=[.bool]/\K 1=[.bool] then some [.bool] else none
 else if 9<=k/\k<=12 then if K 0=[.int]/\K 1=[.int] then some [.bool] else none
 else if 13<=k/\k<=17 then if K 0=[.int]/\K 1=[.int] then some [.int] else none
 else if k=18 then match K 0 with
  |[.arr a]=>if K 1=[.int] then some [a] else none
  |_=>none
 else if k=19 then if K 0=[.bool] then some [.bool] else none
 else if k=20 then if K 0=[.int] then some [.int] else none
 else if k=21 then match K 0 with
  |[.str a]=>some [a]
  |_=>none
 else if k=22 then match K 0 with
  |[.str a]=>some [.str a]
  |_=>none
 else if k=23 then match K 0 with
  |[.str _]=>some [.bool]
  |_=>none
 else if k=24 then match K 0 with
  |[.arr _]=>some [.int]
  |_=>none
 else if k=25 then some [.str ty]
 else if k=26 then if ks.length=sp.length/\∀j,j<ks.length->K j=[sp.getD j .int] then some sr else none
 else if k=27 then if K 0=[.bool]/\K 1=K 2 then some (K 1) else none
 else if k=28 then if K n=[.bool] then some (K (ks.length-1)) else none
 else if k=29 then match L 1 with
  |[a]=>if ((Gb (ks.length-1)).all λj=>L (j+1) == [a])=true/\K 0=[.int] then some [.arr a] else none
  |_=>none
 else if k=40 then Yn ((Gb (ks.length-n)).map λj=>K (n+j))
 else if k=45 then Yn ((Gb ks.length).map K)
 else if k=42 then if ks=[] then some [] else some [ty]
 else if k=64 then some [ty]
 else if k=43 then if (K 0).length=1 then some (K 0) else none
 else if k=44 then if gm.length=1/\K 0=gm then some [] else none
 else if k=47 then some [.int]
 else if k=65 then if K (ks.length-1)=si then some [] else none
 else some []
theorem JS {t:Tr}{m:Nat}{got:List TL}{i:Nat}:Xp t m got i=J2 (nd t i).k (nd t i).kids (nd t i).n.toNat (KK t got i) (Jce t got i) (tyN t (JL t i 0)) (Jar t m) (Y1 t m) (Y1 t i) (JG got m):=rfl
theorem ruleK_congr {k n:Nat}{ks ks':List Int}{K K' L L':Nat->TL}{ty ty':TyX}{sp sp' sr sr' si si' gm gm':TL}(hl:ks'.length=ks.length)(hK:k≠40->k≠28->K'=K)(DW:k=28->K' n=K n/\K' (ks.length-1)=K (ks.length-1))(Eb:k=40->∀j,j<ks.length-n->K' (n+j)=K (n+j))(Pt:k=29->∀j,L' (j+1)=L (j+1))(Cs:k=25\/k=64\/k=42/\ks≠[]->ty'=ty)(Dr:k=26->sp'=sp/\sr'=sr)(BH:k=44->gm'=gm)(Bz:k=65->si'=si):J2 k ks' n K' L' ty' sp' sr' si' gm'=J2 k ks n K L ty sp sr si gm:=by
 by_cases e28:k=28
 ·subst e28;obtain⟨a,b⟩:=DW rfl;simp[J2,hl,a,b]
 by_cases e40:k=40
 ·subst e40;have:((Gb (ks.length-n)).map λj=>K' (n+j))=(Gb (ks.length-n)).map λj=>K (n+j):=List.map_congr_left λj hj=>Eb rfl j (Gx.1 hj)
  simp[J2,hl,this]
 obtain rfl:=hK e40 e28;by_cases e29:k=29
 ·subst e29;have h1:=Pt rfl 0;simp only[Gl]at h1;simp[J2,hl,h1,Pt rfl]
 by_cases e25:k=25
 ·subst e25;simp[J2,Cs (.inl rfl)]
 by_cases e64:k=64
 ·subst e64;simp[J2,Cs (.inr (.inl rfl))]
 by_cases e42:k=42
 ·subst e42;by_cases he:ks=[]
  ·have Cf:ks'=[]:=Gn (by rw[hl,he];rfl);simp[J2,he,Cf]
  ·have Cf:ks'≠[]:=λe=>he (Gn (by rw[<-hl,e];rfl))
   simp[J2,he,Cf,Cs (.inr (.inr ⟨rfl,he⟩))]
 by_cases e26:k=26
 ·subst e26;obtain⟨rfl,rfl⟩:=Dr rfl;simp[J2,hl]
 by_cases e44:k=44
 ·subst e44;obtain rfl:=BH rfl;simp[J2]
 by_cases e65:k=65
 ·subst e65;obtain rfl:=Bz rfl;simp[J2,hl]
 unfold J2;simp only[if_neg e28,if_neg e40,if_neg e29,if_neg e25,if_neg e64,if_neg e42,if_neg e26,if_neg e44,if_neg e65,hl]
section
structure TyM (u t:Tr)(p o:List Int)(ψ:Nat->Nat):Prop where
 n:∀j,j<u.nodes.length->(nd t (ψ j)).n=(nd u j).n
 pos:∀j,j<u.nodes.length->∀i,i<(nd u j).kids.length->(nd u (JL u j i)).k≠41->ψ (JL u j i)=JL t (ψ j) i
 of:∀j,j<u.nodes.length->KA u j=true->∃d:Nat,d<u.nodes.length/\JU u p j=d/\JU t o (ψ j)=(ψ d:Nat)/\((nd u j).k=26->(nd u d).k=65)
section
variable {u t:Tr}{p o:List Int}{ψ:Nat->Nat}(gu:GoodT u p)(g:GoodT t o)(h:TMap u t ψ)(M:TyM u t p o ψ)
include gu g h M
end
end
section
section
variable {t:Tr}{o:List Int}(g:GoodT t o)
include g
end
end
section
section
variable {t:Tr}{o:List Int}(g:GoodT t o)
include g
theorem def_res {d:Nat}(hd:d<t.nodes.length)(hk:(nd t d).k=65):(nd t d).n.toNat+1<(nd t d).kids.length:=by
 have h:=g.nds (nd t d) (by unfold nd;rw[Ga,Gd hd];exact Gg hd);have hl:=Ky (l:=t.nodes) (x:=nd t d);unfold ndI J4 at h;rw[hk]at h;generalize lets t.nodes (nd t d)=hv at *;simp only[Gr,beq_iff_eq]at h;obtain⟨⟨⟨⟨_,h1⟩,_⟩,_,h3⟩,h4⟩:=h;have e:hv.length=Ql 80 hv+Ql 116 hv+1:=by
  have:=congrArg Gf h1;simp[KX]at this;omega
 simp[QS]at h3;simp[QN,inI]at h4;omega
end
end
end Go.Cm
end
end
