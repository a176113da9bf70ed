/-
  A part of the proof. Conditions: none.
-/
import Derived.Test.YtdnnimemociklaaGreatDoorVP50
set_option linter.unusedSimpArgs false
set_option linter.unusedVariables false
open List renaming getD_eq_getElem?_getD->Ga,getElem?_eq_getElem->Gc,range->Gb,getElem_mem->Gg,filter_cons->Gh,length->Gf,eq_nil_of_length_eq_zero->Gl,pairwise_iff_getElem->Gm,getElem?_replicate->Gn,length_cons->Gi,getElem?_set->Gp,replicate->Gs,mem_range->Gt
open Nat renaming lt_of_not_le->Gq,le_refl->Gj,zero_add->Gr
open Int renaming toNat_natCast->Gd
noncomputable section
section
set_option maxRecDepth 100000
open Go.Proofs
namespace Go.Cm
variable {a f k m u v w x:Nat}{t:Tr}{o p:Lu}{ψ:Nat->Nat}
inductive TyX where
 |int
 |bool
 |arr (a:TyX)
 |str (a:TyX)
 deriving DecidableEq,Inhabited
def Xh:Lv:=[115,116,114,101,97,109,32]
def tyT:TyX->Lv
 |.int=>[105,110,116]
 |.bool=>[98,111,111,108]
 |.arr a=>91::(tyT a++[93])
 |.str a=>Xh++tyT a
def tyP:TyX->Nat
 |.int=>1
 |.bool=>1
 |.arr a=>tyP a+1
 |.str a=>tyP a+1
theorem Jei:∀{a b:TyX},tyT a=tyT b->a=b
 |.int,.int,_=>rfl
 |.bool,.bool,_=>rfl
 |.arr a,.arr b,h=>by simp only[tyT,List.cons.injEq,true_and]at h;rw[Jei (List.append_cancel_right h)]
 |.str a,.str b,h=>by simp only[tyT]at h;rw[Jei (List.append_cancel_left h)]
 |.int,.bool,h=>by simp[tyT]at h
 |.int,.arr _,h=>by simp[tyT]at h
 |.int,.str _,h=>by simp[tyT,Xh]at h
 |.bool,.int,h=>by simp[tyT]at h
 |.bool,.arr _,h=>by simp[tyT]at h
 |.bool,.str _,h=>by simp[tyT,Xh]at h
 |.arr _,.int,h=>by simp[tyT]at h
 |.arr _,.bool,h=>by simp[tyT]at h
 |.arr _,.str _,h=>by simp[tyT,Xh]at h
 |.str _,.int,h=>by simp[tyT,Xh]at h
 |.str _,.bool,h=>by simp[tyT,Xh]at h
 |.str _,.arr _,h=>by simp[tyT,Xh]at h
theorem JfF {a b:TyX}:(tyT a == tyT b)=(a == b):=by rw[Bool.eq_iff_iff,beq_iff_eq,beq_iff_eq];exact⟨Jei,λh=>by rw[h]⟩
theorem Jeh {a:TyX}:tyT a≠[]:=by cases a <;> simp[tyT,Xh]
abbrev TL:=List TyX
variable {l:TL}{got:List TL}{r:Option TL}{τ:Nat->TL}
def tyF (t:Tr):Nat->Nat->TyX
 |0,_=>.int
 |f+1,i=>if (nd t i).k=60 then .int else if (nd t i).k=61 then .bool else if (nd t i).k=62 then .arr (tyF t f (Ju t i 0)) else .str (tyF t f (Ju t i 0))
def tyN (t:Tr)(i:Nat):TyX:=tyF t (i+1) i
def Yj (t:Tr)(d:Nat):TL:=(Gb (nd t d).n.toNat).map λk=>tyN t (Ju t (Ju t d k) 0)
def XU (t:Tr)(d:Nat):TL:=(Gb ((nd t d).kids.length-1-(nd t d).n.toNat)).map λk=>tyN t (Ju t d ((nd t d).n.toNat+k))
def Jt (got:List TL)(i:Nat):TL:=got.getD i []
def YK (ls:List TL):Option TL:=match ls with
 |[l]=>some l
 |_=>if ls.all (λl=>l.length == 1) then some (ls.map λl=>l.headD .int) else none
def Jbc (t:Tr)(got:List TL)(i j:Nat):TL:=if j<(nd t i).kids.length then Jt got (Ji t (Ju t i j)) else []
def Qh (t:Tr)(m:Nat)(got:List TL)(i:Nat):Option TL:=
 let k:=(nd t i).k
 let K:=λj=>if j<(nd t i).kids.length then Jt got (Ju t i j) else []
 if k=1 then some [.int]
 else if k=2 then some [.bool]
 else if k=4 then match K 1 with
  |[.str a]=>if K 0=[a] then some [.str a] else none
  |_=>none
 else if k=5\/k=6 then if K 0=[.bool]/\K 1=[.bool] then some [.bool] else none
 else if k=7\/k=8 then if K 0=[.int]/\K 1=[.int]\/K 0=[.bool]/\K 1=[.bool] then some [.bool] else none
 else if 9<=k/\k<=12 then if K 0=[.int]/\K 1=[.int] then some [.bool] else none
 else if 13<=k/\k<=17 then if K 0=[.int]/\K 1=[.int] then some [.int] else none
 else if k=18 then match K 0 with
  |[.arr a]=>if K 1=[.int] then some [a] else none
  |_=>none
 else if k=19 then if K 0=[.bool] then some [.bool] else none
 else if k=20 then if K 0=[.int] then some [.int] else none
 else if k=21 then match K 0 with
  |[.str a]=>some [a]
  |_=>none
 else if k=22 then match K 0 with
  |[.str a]=>some [.str a]
  |_=>none
 else if k=23 then match K 0 with
  |[.str _]=>some [.bool]
  |_=>none
 else if k=24 then match K 0 with
  |[.arr _]=>some [.int]
  |_=>none
 else if k=25 then some [.str (tyN t (Ju t i 0))]
 else if k=26 then if (nd t i).kids.length=(Yj t m).length/\∀j,j<(nd t i).kids.length->K j=[(Yj t m).getD j .int] then some (XU t m) else none
 else if k=27 then if K 0=[.bool]/\K 1=K 2 then some (K 1) else none
 else if k=28 then if K (nd t i).n.toNat=[.bool] then some (K ((nd t i).kids.length-1)) else none
 else if k=29 then match Jbc t got i 1 with
  |[a]=>if ((Gb ((nd t i).kids.length-1)).all λj=>Jbc t got i (j+1) == [a])=true/\K 0=[.int] then some [.arr a] else none
  |_=>none
 else if k=40 then YK ((Gb ((nd t i).kids.length-(nd t i).n.toNat)).map λj=>K ((nd t i).n.toNat+j))
 else if k=45 then YK ((Gb (nd t i).kids.length).map K)
 else if k=42 then if (nd t i).kids=[] then some [] else some [tyN t (Ju t i 0)]
 else if k=64 then some [tyN t (Ju t i 0)]
 else if k=43 then if (K 0).length=1 then some (K 0) else none
 else if k=44 then if (Jt got m).length=1/\K 0=Jt got m then some [] else none
 else if k=47 then some [.int]
 else if k=65 then if K ((nd t i).kids.length-1)=XU t i then some [] else none
 else some []
def Y7 (k:Nat)(b:Bool):List (Nat×Bool)->List (Nat×Bool)
 |[]=>[(k,b)]
 |(j,c)::l=>if j=k then(k,b)::l else(j,c)::Y7 k b l
def Kz (l:List (Nat×Bool))(k:Nat):Bool:=match l with
 |[]=>false
 |(j,c)::l=>if j=k then c else Kz l k
theorem Xr{j:Nat}{b:Bool}:∀{l:List (Nat×Bool)},Kz (Y7 k b l) j=if j=k then b else Kz l j
 |[]=>by
  show (if k=j then b else Kz [] j)=if j=k then b else Kz [] j
  by_cases h:j=k
  ·rw[if_pos h,if_pos h.symm]
  ·rw[if_neg h,if_neg (λe:k=j=>h e.symm)]
 |(a,c)::l=>by
  rw[Y7];by_cases h:a=k
  ·subst h;rw[if_pos rfl,Kz,Kz];by_cases e:j=a
   ·subst e;simp
   ·rw[if_neg (λx=>e x.symm),if_neg e,if_neg (λx=>e x.symm)]
  ·rw[if_neg h,Kz,Kz,Xr];by_cases e:a=j
   ·subst e;rw[if_pos rfl,if_pos rfl,if_neg h]
   ·rw[if_neg e,if_neg e]
structure FS where
 got:List TL
 dn:LH
 fd:List (Nat×Bool)
 fg:List (Nat×Bool)
 bad:Option Nat
variable {S':FS}{go:FS->Nat->FS}
def FS.fail (S:FS)(i:Nat):FS:=if S.bad.isSome then S else { S with bad:=some i }
def Qf (l:TL):Bool:=l.all λa=>decide (tyP a<=20)
def FS.fin (S:FS)(i:Nat)(r:Option TL):FS:=match r with
 |none=>S.fail i
 |some l=>if S.bad.isSome then S else if Qf l=true then { S with got:=if l=[] then S.got else S.got.set i l,dn:=S.dn.set i true } else S.fail i
def Yg (t:Tr)(s:Nat)(l:TL)(got:List TL):Nat->List TL
 |0=>got
 |k+1=>if (nd t (Ju t s k)).kids=[] then(Yg t s l got k).set (Ju t s k) [l.getD k .int] else Yg t s l got k
def JS (t:Tr)(s:Nat)(S:FS):FS:=
 let l:=Jt S.got (Ji t s)
 if l.length=(nd t s).n.toNat then { S with got:=Yg t s l S.got (nd t s).n.toNat,fd:=Y7 s true S.fd } else S.fail s
def KC (a n:Nat):Lx:=(Gb n).map λj=>a+j
def QE (t:Tr)(o:Lu)(go:FS->Nat->FS)(s i:Nat)(S:FS):FS:=
 if Kz S.fg s=true then S.fail i
 else
  let e:=Ji t s
  let S1:=(KC (fs o e).toNat (e+1-(fs o e).toNat)).foldl go { S with fg:=Y7 s true S.fg }
  let S2:=if S1.bad.isSome then S1 else JS t s S1
  { S2 with fg:=Y7 s false S2.fg }
def Jam (t:Tr)(o:Lu)(go:FS->Nat->FS)(m i:Nat)(S:FS):FS×Option TL:=
 if (nd t m).k=47 then(S,some [.int])
 else if (nd t m).k=64\/(nd t m).k=42/\(nd t m).kids≠[] then(S,some [tyN t (Ju t m 0)])
 else if (nd t m).k=42/\Kz S.fd (Kv t m).toNat=false then
  let S':=QE t o go (Kv t m).toNat i S
  (S',some (Jt S'.got m))
 else(S,some (Jt S.got m))
def Yf (t:Tr)(s:Nat)(l:TL):Bool:=(Gb (nd t s).n.toNat).all λk=>(nd t (Ju t s k)).kids.isEmpty || tyN t (Ju t (Ju t s k) 0) == l.getD k .int
def JaN (t:Tr)(s:Nat)(S:FS):FS:=if Kz S.fd s=true then S else JS t s S
def doF (t:Tr)(o:Lu)(mean:Nat->Nat):Nat->FS->Nat->FS
 |0,S,_=>S
 |f+1,S,i=>
  if S.bad.isSome || S.dn.getD i false then S
  else if (nd t i).k=3 then
   let r:=Jam t o (doF t o mean f) (mean i) i S
   r.1.fin i r.2
  else if (nd t i).k=41 then
   let S':=JaN t i S
   S'.fin i (if Yf t i (Jt S'.got (Ji t i))=true then some [] else none)
  else S.fin i (Qh t (mean i) S.got i)
def FS.start (t:Tr):FS:=⟨Gs t.nodes.length [],Gs t.nodes.length false,[],[],none⟩
def Kw (t:Tr)(o:Lu):FS:=(Gb t.nodes.length).foldl (doF t o (λi=>(J2 t o i).toNat) (t.nodes.length+1)) (FS.start t)
theorem getD_setB {l:LH}{i j:Nat}{b:Bool}(h:i<l.length):(l.set i b).getD j false=if j=i then b else l.getD j false:=by
 simp only[Ga,Gp];by_cases e:j=i
 ·subst e;simp[h]
 ·rw[if_neg (λx=>e x.symm),if_neg e]
theorem JaA{i j:Nat}{x:TL}(h:i<got.length):Jt (got.set i x) j=if j=i then x else Jt got j:=by
 unfold Jt;simp only[Ga,Gp];by_cases e:j=i
 ·subst e;simp[h]
 ·rw[if_neg (λx=>e x.symm),if_neg e]
def JaH (t:Tr)(i:Nat):Prop:=(nd t i).k=42/\(nd t i).kids=[]
def nB (t:Tr)(s:Nat):Nat:=(nd t s).n.toNat
theorem Yr{s:Nat}:∀m,(Yg t s l got m).length=got.length
 |0=>rfl
 |m+1=>by
  rw[Yg]
  split
  ·rw[List.length_set,Yr m]
  ·exact Yr m
theorem Jcn{s:Nat}{j:Nat}:∀m,(∀k,k<m->(nd t (Ju t s k)).kids=[]->Ju t s k≠j)->Jt (Yg t s l got m) j=Jt got j
 |0,_=>rfl
 |m+1,h=>by
  have ih:=Jcn (s:=s) m λk hk=>h k om
  rw[Yg]
  split
  ·rename_i hb;have Ai:=h m om hb;unfold Jt at ih|-;rw[Ga,List.getElem?_set_ne Ai,<-Ga];exact ih
  ·exact ih
theorem Jhc{s:Nat}(AR:∀k,(nd t (Ju t s k)).kids=[]->k<nB t s->Ju t s k<got.length)(DN:∀k j,k<nB t s->j<nB t s->Ju t s k=Ju t s j->k=j):∀m,m<=nB t s->∀k,k<m->(nd t (Ju t s k)).kids=[]->Jt (Yg t s l got m) (Ju t s k)=[l.getD k .int]
 |0,_,k,hk,_=>om
 |m+1,hm,k,hk,hb=>by
  rw[Yg];by_cases he:k=m
  ·subst he;rw[if_pos hb,JaA (by rw[Yr];exact AR k hb om),if_pos rfl]
  ·have ih:=Jhc AR DN m om k om hb
   split
   ·rename_i BX;rw[JaA (by rw[Yr];exact AR m BX om),if_neg (λe=>he (DN _ _ om om e))];exact ih
   ·exact ih
structure FI (t:Tr)(S:FS):Prop where
 gl:S.got.length=t.nodes.length
 dl:S.dn.length=t.nodes.length
 emp:∀i,S.dn.getD i false=false->¬JaH t i->Jt S.got i=[]
 unf:∀s,s<t.nodes.length->(nd t s).k=41->Kz S.fd s=false->∀k,k<nB t s->(nd t (Ju t s k)).kids=[]->Jt S.got (Ju t s k)=[]
 fnd:∀s,Kz S.fd s=true->s<t.nodes.length/\(nd t s).k=41/\(Jt S.got (Ji t s)).length=nB t s/\∀k,k<nB t s->(nd t (Ju t s k)).kids=[]->Jt S.got (Ju t s k)=[(Jt S.got (Ji t s)).getD k .int]
 fine:∀i,Qf (Jt S.got i)=true
 ini:∀i,i<t.nodes.length->S.dn.getD i false=true->(nd t i).k=43->(Jt S.got i).length=1
 typ:∀i,i<t.nodes.length->S.dn.getD i false=true->(nd t i).k=42->(nd t i).kids≠[]->Jt S.got i=[tyN t (Ju t i 0)]
structure FG (t:Tr)(S S':FS):Prop where
 keep:∀i,Jt S.got i≠[]->Jt S'.got i=Jt S.got i
 dn:∀i,S.dn.getD i false=true->S'.dn.getD i false=true
 dk:∀i,S.dn.getD i false=true->¬JaH t i->Jt S'.got i=Jt S.got i
 fd:∀s,Kz S.fd s=true->Kz S'.fd s=true
 fg:∀s,Kz S'.fg s=Kz S.fg s
 bad:S.bad.isSome=true->S'.bad=S.bad
theorem FG.refl{S:FS}:FG t S S:=⟨λ_ _=>rfl,λ_ h=>h,λ_ _ _=>rfl,λ_ h=>h,λ_=>rfl,λ_=>rfl⟩
theorem FG.trans{A B C:FS}(h:FG t A B)(k:FG t B C):FG t A C where
 keep i hi:=by have h1:=h.keep i hi;rw[k.keep i (by rw[h1];exact hi),h1]
 dn i hi:=k.dn i (h.dn i hi)
 dk i hi hb:=(k.dk i (h.dn i hi) hb).trans (h.dk i hi hb)
 fd s hs:=k.fd s (h.fd s hs)
 fg s:=(k.fg s).trans (h.fg s)
 bad hb:=(k.bad (by rw[h.bad hb];exact hb)).trans (h.bad hb)
theorem FI.fail{S:FS}(h:FI t S)(i:Nat):FI t (S.fail i)/\FG t S (S.fail i)/\(S.fail i).bad.isSome=true:=by
 unfold FS.fail
 split
 ·rename_i hb;exact⟨h,.refl,hb⟩
 ·rename_i hb;exact⟨⟨h.gl,h.dl,h.emp,h.unf,h.fnd,h.fine,h.ini,h.typ⟩,⟨λ_ _=>rfl,λ_ h=>h,λ_ _ _=>rfl,λ_ h=>h,λ_=>rfl,λBX=>absurd BX hb⟩,rfl⟩
section
variable(g:GoodT t o)
include g
theorem KV {s:Nat}(hs:s<t.nodes.length)(hk:(nd t s).k=41):(nd t s).kids.length=nB t s+1/\(∀k,k<nB t s->(nd t (Ju t s k)).k=42/\Ju t s k<s)/\(1<=(nd t (Ji t s)).k/\(nd t (Ji t s)).k<=29)/\Ji t s<s:=by
 obtain⟨a,h1,h2,h3,h4⟩:=Yp g hs hk;change (nd t s).n=a at h1;change (nd t s).kids.length=a+1 at h2;have hn:nB t s=a:=by unfold nB;omega
 have hm:=Jz g hs (i:=(nd t s).kids.length-1) om;refine⟨om,λk Au=>?_,?_,hm.2.1⟩
 ·have h5:=Jz g hs (i:=k) om;exact⟨by rw[h5.2.2];exact h3 k om,h5.2.1⟩
 ·change (1<=(nd t (Ju t s ((nd t s).kids.length-1))).k)/\_;show _/\(nd t (Ju t s ((nd t s).kids.length-1))).k<=29;rw[hm.2.2,h2,show a+1-1=a by omega];exact h4
theorem set_ge1 {s:Nat}(hs:s<t.nodes.length)(hk:(nd t s).k=41):1<=nB t s:=by have hn:=g.nds (nd t s) (by unfold nd;rw[Ga,Gc hs];exact Gg hs);rw[ndI_R]at hn;simp only[Bool.and_eq_true]at hn;have h:=hn.2;unfold Qp at h;rw[hk]at h;simp[inI]at h;unfold nB;omega
theorem kid_inj {s i j:Nat}(hs:s<t.nodes.length)(hi:i<(nd t s).kids.length)(hj:j<(nd t s).kids.length)(he:Ju t s i=Ju t s j):i=j:=by
 have ha:=Jhm g hs;have h1:=g.kid hs (Gg hi);have h2:=g.kid hs (Gg hj);unfold Ju at he;rw[Ga,Ga,Gc hi,Gc hj]at he;simp only[Option.getD_some]at he;rcases Nat.lt_trichotomy i j with h|h|h
 ·have:=Gm.1 ha i j hi hj h;omega
 ·exact h
 ·have:=Gm.1 ha j i hj hi h;omega
theorem kid_one2{s i j:Nat}(hs:s<t.nodes.length)(hu:u<t.nodes.length)(hi:i<(nd t s).kids.length)(hj:j<(nd t u).kids.length)(he:Ju t s i=Ju t u j):s=u:=by have h1:=(JX g hs (Jz g hs hi).1).1;have h2:=(JX g hu (Jz g hu hj).1).1;rw[he]at h1;omega
theorem settle_ok {S:FS}{s:Nat}(h:FI t S)(hs:s<t.nodes.length)(hk:(nd t s).k=41)(hf:Kz S.fd s=false):FI t (JS t s S)/\FG t S (JS t s S)/\((JS t s S).bad=none->Kz (JS t s S).fd s=true):=by
 obtain⟨b1,b2,b3,b4⟩:=KV g hs hk;unfold JS;simp only
 split
 case isFalse=>obtain⟨f1,f2,f3⟩:=h.fail s;exact⟨f1,f2,λhb=>by rw[hb]at f3;cases f3⟩
 case isTrue hl=>
  have hl:(Jt S.got (Ji t s)).length=nB t s:=hl;have AR:∀k,(nd t (Ju t s k)).kids=[]->k<nB t s->Ju t s k<S.got.length:=λk _ Au=>by have:=(b2 k Au).2;rw[h.gl];omega
  have DN:∀k j,k<nB t s->j<nB t s->Ju t s k=Ju t s j->k=j:=λk j h1 h2 he=>kid_inj g hs om om he
  have pin:=Jhc (l:=Jt S.got (Ji t s)) (got:=S.got) AR DN (nB t s) (Gj _);have pout:∀j,(∀k,k<nB t s->(nd t (Ju t s k)).kids=[]->Ju t s k≠j)->Jt (Yg t s (Jt S.got (Ji t s)) S.got (nB t s)) j=Jt S.got j:=λj hj=>Jcn _ hj
  have pnb:∀j,¬JaH t j->Jt (Yg t s (Jt S.got (Ji t s)) S.got (nB t s)) j=Jt S.got j:=λj hj=>pout j λk Au hb he=>hj ⟨by rw[<-he];exact(b2 k Au).1,by rw[<-he];exact hb⟩
  have Dq:Jt (Yg t s (Jt S.got (Ji t s)) S.got (nB t s)) (Ji t s)=Jt S.got (Ji t s):=pnb _ λhb=>by have:=hb.1;omega
  change FI t { S with got:=Yg t s (Jt S.got (Ji t s)) S.got (nB t s),fd:=Y7 s true S.fd }/\FG t S { S with got:=Yg t s (Jt S.got (Ji t s)) S.got (nB t s),fd:=Y7 s true S.fd }/\(_->Kz (Y7 s true S.fd) s=true);have AU:∀u,u<t.nodes.length->(nd t u).k=41->u≠s->∀k,k<nB t u->Jt (Yg t s (Jt S.got (Ji t s)) S.got (nB t s)) (Ju t u k)=Jt S.got (Ju t u k):=λu hu IV Ai k Au=>by obtain⟨c1,_⟩:=KV g hu IV;exact pout _ λk' AB _ he=>Ai (kid_one2 g hs hu om om he).symm
  refine⟨⟨by rw[Yr];exact h.gl,h.dl,λi hi hb=>?_,λu hu IV M9 k Au hb=>?_,λu M9=>?_,λi=>?_,λi hi hd BR=>?_,λi hi hd BZ Ai=>?_⟩,⟨λi hi=>?_,λ_ h=>h,λi _ hb=>pnb i hb,λu hu=>?_,λ_=>rfl,λ_=>rfl⟩,λ_=>by rw[Xr,if_pos rfl]⟩
  ·rw[pnb i hb];exact h.emp i hi hb
  ·rw[Xr]at M9
   split at M9
   ·cases M9
   ·rename_i Ai;rw[AU u hu IV Ai k Au];exact h.unf u hu IV M9 k Au hb
  ·rw[Xr]at M9;by_cases he:u=s
   ·subst he;exact⟨hs,hk,by rw[Dq];exact hl,λk Au hb=>by rw[Dq];exact pin k Au hb⟩
   ·rw[if_neg he]at M9;obtain⟨q1,q2,q3,q4⟩:=h.fnd u M9;obtain⟨c1,c2,c3,c4⟩:=KV g q1 q2;have bW:Jt (Yg t s (Jt S.got (Ji t s)) S.got (nB t s)) (Ji t u)=Jt S.got (Ji t u):=pnb _ λhb=>by have:=hb.1;omega
    refine⟨q1,q2,by rw[bW];exact q3,λk Au hb=>?_⟩;rw[bW,AU u q1 q2 he k Au];exact q4 k Au hb
  ·by_cases hx:∃k,k<nB t s/\(nd t (Ju t s k)).kids=[]/\Ju t s k=i
   ·obtain⟨k,Au,hb,rfl⟩:=hx;rw[pin k Au hb];have EF:=h.fine (Ji t s);unfold Qf at EF|-;rw[List.all_eq_true]at EF;have:=EF ((Jt S.got (Ji t s)).getD k .int) (by rw[Ga,Gc om];exact Gg _);rw[List.all_cons,this];rfl
   ·rw[pout i λk Au hb he=>hx ⟨k,Au,hb,he⟩];exact h.fine i
  ·rw[pnb i λhb=>by have:=hb.1;omega];exact h.ini i hi hd BR
  ·rw[pnb i λhb=>Ai hb.2];exact h.typ i hi hd BZ Ai
  ·by_cases hx:∃k,k<nB t s/\(nd t (Ju t s k)).kids=[]/\Ju t s k=i
   ·obtain⟨k,Au,hb,rfl⟩:=hx;exact absurd (h.unf s hs hk hf k Au hb) hi
   ·exact pout i λk Au hb he=>hx ⟨k,Au,hb,he⟩
  ·rw[Xr];split
   ·rfl
   ·exact hu
theorem fin_ok {S:FS}{i:Nat}(h:FI t S)(hi:i<t.nodes.length)(hd:S.dn.getD i false=false)(hr:∀l,r=some l->(JaH t i->l=[])/\((nd t i).k=43->l.length=1)/\((nd t i).k=42->(nd t i).kids≠[]->l=[tyN t (Ju t i 0)])):FI t (S.fin i r)/\FG t S (S.fin i r)/\((S.fin i r).bad=none->(S.fin i r).dn.getD i false=true):=by
 unfold FS.fin
 cases r with
 |none=>
  obtain⟨f1,f2,f3⟩:=h.fail i;exact⟨f1,f2,λhb=>by simp only at hb;rw[hb]at f3;cases f3⟩
 |some l=>
  obtain⟨r1,r2,r3⟩:=hr l rfl;simp only
  split
  ·rename_i hb;exact⟨h,.refl,λh2=>by rw[h2]at hb;cases hb⟩
  split
  case isFalse=>obtain⟨f1,f2,f3⟩:=h.fail i;exact⟨f1,f2,λhb=>by rw[hb]at f3;cases f3⟩
  case isTrue MU R4=>
   have D6:∀j,(S.dn.set i true).getD j false=if j=i then true else S.dn.getD j false:=λj=>getD_setB (by rw[h.dl];exact hi)
   have Pp:∀j,Jt (if l=[] then S.got else S.got.set i l) j=if j=i/\l≠[] then l else Jt S.got j:=λj=>by
    by_cases hl:l=[]
    ·rw[if_pos hl,if_neg (λh=>h.2 hl)]
    ·rw[if_neg hl,JaA (by rw[h.gl];exact hi)];by_cases e:j=i
     ·rw[if_pos e,if_pos ⟨e,hl⟩]
     ·rw[if_neg e,if_neg (λh=>e h.1)]
   have AL:(if l=[] then S.got else S.got.set i l).length=t.nodes.length:=by split <;> simp[h.gl]
   generalize hG:(if l=[] then S.got else S.got.set i l)=G at Pp AL;have AQ:∀j,j≠i->Jt G j=Jt S.got j:=λj hj=>by rw[Pp,if_neg (λh=>hj h.1)]
   have M6:¬JaH t i->Jt S.got i=[]:=h.emp i hd;have aN:JaH t i->Jt G i=Jt S.got i:=λhb=>by rw[Pp,if_neg (λh=>h.2 (r1 hb))]
   have CO:∀j,Jt S.got j≠[]->Jt G j=Jt S.got j:=λj hj=>by
    by_cases e:j=i
    ·subst e;by_cases hb:JaH t j
     ·exact aN hb
     ·exact absurd (M6 hb) hj
    ·exact AQ j e
   have Od:∀j,JaH t j->Jt G j=Jt S.got j:=λj hb=>by
    by_cases e:j=i
    ·subst e;exact aN hb
    ·exact AQ j e
   have PE:¬JaH t i->Jt G i=l:=λhb=>by
    rw[Pp];by_cases hl:l=[]
    ·rw[if_neg (λh=>h.2 hl),M6 hb,hl]
    ·rw[if_pos ⟨rfl,hl⟩]
   refine⟨⟨AL,by simp[h.dl],λj hj hb=>?_,λs hs hk hf k Au hb=>?_,λs hf=>?_,λj=>?_,λj hj CB BR=>?_,λj hj CB BZ Ai=>?_⟩,⟨CO,λj hj=>by rw[D6];split <;> first|rfl|exact hj,λj hj hb=>?_,λ_ h=>h,λ_=>rfl,λhb=>absurd hb MU⟩,λ_=>by rw[D6,if_pos rfl]⟩
   ·rw[D6]at hj
    split at hj
    ·cases hj
    ·rename_i e;rw[AQ j e];exact h.emp j hj hb
   ·obtain⟨b1,b2,_⟩:=KV g hs hk;rw[Od _ ⟨(b2 k Au).1,hb⟩];exact h.unf s hs hk hf k Au hb
   ·obtain⟨q1,q2,q3,q4⟩:=h.fnd s hf;obtain⟨b1,b2,b3,b4⟩:=KV g q1 q2;have Ai:Jt S.got (Ji t s)=Jt G (Ji t s)\/nB t s=0:=by
     by_cases hz:Jt S.got (Ji t s)=[]
     ·exact .inr (by rw[hz]at q3;simpa using q3.symm)
     ·exact .inl (CO _ hz).symm
    rcases Ai with Ai|Ai
    ·exact⟨q1,q2,by rw[<-Ai];exact q3,λk Au hb=>by rw[<-Ai,Od _ ⟨(b2 k Au).1,hb⟩];exact q4 k Au hb⟩
    ·have:=set_ge1 g q1 q2;omega
   ·by_cases e:j=i
    ·subst e;by_cases hb:JaH t j
     ·rw[aN hb];exact h.fine j
     ·rw[PE hb];exact R4
    ·rw[AQ j e];exact h.fine j
   ·by_cases e:j=i
    ·subst e;rw[PE λhb=>by have:=hb.1;omega];exact r2 BR
    ·rw[D6,if_neg e]at CB;rw[AQ j e];exact h.ini j hj CB BR
   ·by_cases e:j=i
    ·subst e;rw[PE λhb=>Ai hb.2];exact r3 BZ Ai
    ·rw[D6,if_neg e]at CB;rw[AQ j e];exact h.typ j hj CB BZ Ai
   ·by_cases e:j=i
    ·subst e;rw[hd]at hj;cases hj
    ·exact AQ j e
end
theorem FI.ext{S:FS}(h:FI t S)(h1:S'.got.length=S.got.length)(h2:S'.dn.length=S.dn.length)(h3:∀j,Jt S'.got j=Jt S.got j)(h4:∀j,S'.dn.getD j false=S.dn.getD j false)(h5:∀s,Kz S'.fd s=Kz S.fd s):FI t S':=
 ⟨h1.trans h.gl,h2.trans h.dl,λi hi hb=>by rw[h3];rw[h4]at hi;exact h.emp i hi hb,λs hs hk hf k Au hb=>by rw[h5]at hf;rw[h3];exact h.unf s hs hk hf k Au hb,λs hf=>by rw[h5]at hf;obtain⟨q1,q2,q3,q4⟩:=h.fnd s hf;exact⟨q1,q2,by rw[h3];exact q3,λk hk hb=>by rw[h3,h3];exact q4 k hk hb⟩,λi=>by rw[h3];exact h.fine i,λi hi hd hk=>by rw[h4]at hd;rw[h3];exact h.ini i hi hd hk,λi hi hd hk hn=>by rw[h4]at hd;rw[h3];exact h.typ i hi hd hk hn⟩
theorem FG.ext{S:FS}(h3:∀j,Jt S'.got j=Jt S.got j)(h4:∀j,S'.dn.getD j false=S.dn.getD j false)(h5:∀s,Kz S'.fd s=Kz S.fd s)(h6:∀s,Kz S'.fg s=Kz S.fg s)(h7:S.bad.isSome=true->S'.bad=S.bad):FG t S S':=⟨λi _=>h3 i,λi hi=>by rw[h4];exact hi,λi _ _=>h3 i,λs hs=>by rw[h5];exact hs,h6,h7⟩
def valN (t:Tr)(S:FS)(m:Nat):TL:=if (nd t m).k=47 then [.int] else if (nd t m).k=64\/(nd t m).k=42/\(nd t m).kids≠[] then [tyN t (Ju t m 0)] else Jt S.got m
def FM (t:Tr)(o:Lu)(S:FS):Prop:=∀i,i<t.nodes.length->(nd t i).k=3->S.dn.getD i false=true->∀m:Nat,J2 t o i=m->Jt S.got i=valN t S m/\valN t S m≠[]
theorem valN_keep{S:FS}(h:FG t S S')(hv:valN t S m≠[]):valN t S' m=valN t S m:=by
 unfold valN at hv|-;by_cases h1:(nd t m).k=47
 ·rw[if_pos h1,if_pos h1]
 ·rw[if_neg h1]at hv|-;rw[if_neg h1];by_cases h2:(nd t m).k=64\/(nd t m).k=42/\(nd t m).kids≠[]
  ·rw[if_pos h2,if_pos h2]
  ·rw[if_neg h2]at hv|-;rw[if_neg h2];exact h.keep m hv
theorem FM.step{S:FS}(h:FM t o S)(hg:FG t S S')(hn:∀i,i<t.nodes.length->(nd t i).k=3->S'.dn.getD i false=true->S.dn.getD i false=false->∀m:Nat,J2 t o i=m->Jt S'.got i=valN t S' m/\valN t S' m≠[]):FM t o S':=λi hi hk hd m hm=>by
 cases hs:S.dn.getD i false with
 |false=>exact hn i hi hk hd hs m hm
 |true=>obtain⟨h1,h2⟩:=h i hi hk hs m hm;have h3:=valN_keep hg h2;refine⟨?_,by rw[h3];exact h2⟩;rw[h3,<-h1];exact hg.dk i hs λhb=>by have:=hb.1;omega
def uf (t:Tr)(S:FS):Nat:=((Gb t.nodes.length).filter λs=>!Kz S.fg s).length
theorem uf_eq{S:FS}(h:FG t S S'):uf t S'=uf t S:=by unfold uf;exact congrArg Gf (List.filter_congr λs _=>by rw[h.fg])
theorem Je7 {p q:Nat->Bool}{s:Nat}:∀{l:Lx},s∈l->(∀x,q x=true->p x=true)->p s=true->q s=false->(l.filter q).length<(l.filter p).length
 |a::l,hs,Ip,hp,hq=>by
  have Bb:∀m:Lx,(m.filter q).length<=(m.filter p).length:=λm=>by
   induction m with
   |nil=>exact Gj _
   |cons x m ih=>
    rw[Gh,Gh]
    cases hx:q x with
    |true=>rw[if_pos rfl,Ip x hx,if_pos rfl];simpa using ih
    |false=>
     rw[if_neg sM]
     split
     ·rw[Gi];omega
     ·exact ih
  rcases List.mem_cons.1 hs with rfl|h
  ·rw[Gh,Gh,hq,hp,if_neg sM,if_pos rfl,Gi];have:=Bb l;omega
  ·have ih:=Je7 h Ip hp hq;rw[Gh,Gh]
   cases hx:q a with
   |true=>rw[if_pos rfl,Ip a hx,if_pos rfl];simpa using ih
   |false=>
    rw[if_neg sM]
    split
    ·rw[Gi];omega
    ·exact ih
theorem uf_less{S:FS}{s:Nat}(hs:s<t.nodes.length)(h:Kz S.fg s=false):uf t { S with fg:=Y7 s true S.fg } < uf t S:=by
 refine Je7 (Gt.2 hs) (λx hx=>?_) (by rw[h];rfl) (by rw[Xr,if_pos rfl];rfl);rw[Xr]at hx
 split at hx
 ·cases hx
 ·exact hx
def PreQ (t:Tr)(o:Lu)(S:FS)(i:Nat):Prop:=S.bad=none->(∀c:Nat,(c:Int)∈(nd t i).kids->S.dn.getD c false=true)/\∀v,v<t.nodes.length->(nd t v).k=43->v<i->blw o i (Kv t v).toNat->S.dn.getD v false=true
def GoOk (t:Tr)(o:Lu)(f:Nat)(go:FS->Nat->FS):Prop:=∀S i,FI t S->FM t o S->i<t.nodes.length->PreQ t o S i->uf t S<f->FI t (go S i)/\FM t o (go S i)/\FG t S (go S i)/\((go S i).bad=none->(go S i).dn.getD i false=true)
theorem JhO{S:FS}(h:FG t S S')(hb:S'.bad=none):S.bad=none:=by
 cases hs:S.bad with
 |none=>rfl
 |some x=>rw[h.bad (by rw[hs];rfl),hs]at hb;cases hb
theorem JaX:KC a (k+1)=KC a k++[a+k]:=by unfold KC;rw[List.range_succ,List.map_append];rfl
theorem Jem(Dv:GoOk t o f go){S:FS}(hI:FI t S)(hM:FM t o S)(hu:uf t S<f)(aO:a+m<=t.nodes.length)(hP:∀S' j,FG t S S'->j<m->(S'.bad=none->∀j',j' < j->S'.dn.getD (a+j') false=true)->PreQ t o S' (a+j)) :
  ∀k,k<=m->FI t ((KC a k).foldl go S)/\FM t o ((KC a k).foldl go S)/\FG t S ((KC a k).foldl go S)/\(((KC a k).foldl go S).bad=none->∀j,j<k->((KC a k).foldl go S).dn.getD (a+j) false=true)
 |0,_=>⟨hI,hM,.refl,λ_ j hj=>om⟩
 |k+1,hk=>by
  obtain⟨h1,h2,h3,h4⟩:=Jem Dv hI hM hu aO hP k om;rw[JaX,List.foldl_append];generalize (KC a k).foldl go S=S1 at *;obtain⟨q1,q2,q3,q4⟩:=Dv S1 (a+k) h1 h2 om (hP S1 k h3 om h4) (by rw[uf_eq h3];exact hu);simp only[List.foldl_cons,List.foldl_nil];refine⟨q1,q2,h3.trans q3,λhb j hj=>?_⟩;by_cases e:j=k
  ·subst e;exact q4 hb
  ·exact q3.dn _ (h4 (JhO q3 hb) j om)
section
variable(g:GoodT t o)
include g
theorem Jdh(hw:w<t.nodes.length)(hv:(v:Int)∈(nd t w).kids)(ha:(a:Int)∈(nd t w).kids)(hx:blw o x a)(Ai:v≠a)(h:v<a):v<x:=by
 have h1:=λh1 h2=>kid_one g hw hv ha (j:=v) h1 h2
 have IQ:=(JX g hw hv).2;have h2:¬blw o v a:=λhb=>Ai (h1 (JcL g om) hb)
 have h3:=hx.2;have h4:¬fs o (a:Int)<=(v:Int):=λh5=>h2 ⟨om,h5⟩
 omega
theorem Jb3(hw:w<t.nodes.length)(hk:(nd t w).k=28)(hv:(v:Int)∈(nd t w).kids)(Ce:(nd t v).k=43)(ha:(a:Int)∈(nd t w).kids)(De:(nd t a).k≠43):v<a:=by
 obtain⟨N,M,h1,h2,h3,h4,h5,h6,h7,h8⟩:=X7 g hw hk;obtain⟨i,hi,Cy,af⟩:=Jcx hv;obtain⟨j,hj,Cf,DZ⟩:=Jcx ha;have Mw:∀x:Nat,Jv t.nodes (x:Int)=(nd t x).k:=λx=>by unfold Jv nd;rw[Gd]
 change ∀i,i<N->Jv t.nodes ((nd t w).kids.getD i 0)=43 at h4;change 1<=Jv t.nodes ((nd t w).kids.getD N 0)/\Jv t.nodes ((nd t w).kids.getD N 0)<=29 at h5;change ∀i,N+1<=i->i<M->Jv t.nodes ((nd t w).kids.getD i 0)=41 at h6;change ∀i,M<=i->i+1<(nd t w).kids.length->Jv t.nodes ((nd t w).kids.getD i 0)=44 at h7;change Jv t.nodes ((nd t w).kids.getD ((nd t w).kids.length-1) 0)=45 at h8;have jX:N<=j:=by
  refine Nat.le_of_not_lt λAb=>De ?_
  have:=h4 j Ab;rw[DZ,Mw]at this;exact this
 have Po:i<N:=by
  refine Gq λBS=>?_
  have RO:Jv t.nodes ((nd t w).kids.getD i 0)=43:=by rw[af,Mw];exact Ce
  rcases (show i=N\/(N+1<=i/\i<M)\/(M<=i/\i+1<(nd t w).kids.length)\/i=(nd t w).kids.length-1 by omega) with e|⟨e1,e2⟩|⟨e1,e2⟩|e
  ·rw[e]at RO;omega
  ·have:=h6 i e1 e2;omega
  ·have:=h7 i e1 e2;omega
  ·rw[e]at RO;omega
 have Di:=Jhm g hw;have h9:=Gm.1 Di i j hi hj om;rw[Ga,Gc hi]at af;rw[Ga,Gc hj]at DZ;simp only[Option.getD_some]at af DZ;omega
theorem init_loop(hw:w<t.nodes.length)(hv:(v:Int)∈(nd t w).kids)(hk:(nd t v).k=43):(nd t w).k=28:=(YL (Jc6 g hw hv)).2.1 (by rw[hk];rfl)
theorem Jeo{i s:Nat}(hs:s<t.nodes.length)(BM:(nd t s).k=41)(hm:(m:Int)∈(nd t s).kids)(Dr:(nd t m).k=42)(AR:inS t o (m:Int) i)(hi:i<t.nodes.length)(hx:blw o x (Ji t s))(hv:v<t.nodes.length)(Ce:(nd t v).k=43)(Pe:v<x)(OZ:blw o x (Kv t v).toNat)(AZ:¬fs o ((Ji t s:Nat):Int)<=(v:Int)):v<i/\blw o i (Kv t v).toNat:=by
 obtain⟨b1,b2,b3,b4⟩:=KV g hs BM;have Bb:=Jz g hs (i:=(nd t s).kids.length-1) om;change ((Ji t s:Nat):Int)∈(nd t s).kids/\_ at Bb;obtain⟨w,w1,w2,w3,w4⟩:=QO g hv om;rw[w1,Gd]at OZ|-;obtain⟨u,a,hu,ha,Em,hd⟩:=AR;have Sm:=JX g hu ha;have Ov:(s:Int)∈(nd t u).kids/\((nd t u).k=40\/(nd t u).k=28/\(nd t a).k≠43):=by
  have same:∀s':Nat,(s':Int)∈(nd t u).kids->(m:Int)∈(nd t s').kids->(s:Int)∈(nd t u).kids:=λs' h1 h2=>by
   have h3:=(JX g hu h1).2;have h4:=(JX g (show s' < t.nodes.length by omega) h2).1;have h5:=(JX g hs hm).1;obtain rfl:s'=s:=om
   exact h1
  rcases (QM g hu).1 hd with ⟨h1,s',h2,h3,h4,h5⟩|⟨h1,h2,h3⟩|⟨h1,h2,h3⟩|⟨h1,h2,h3⟩
  ·exact⟨same s' h2 h4,.inl h1⟩
  ·omega
  ·subst h3;omega
  ·rcases h3 with ⟨h3,h4⟩|⟨_,s',h3,h4,h5,h6⟩
   ·omega
   ·exact⟨same s' h3 h5,.inr ⟨h1,h2⟩⟩
 obtain⟨Ov,IV⟩:=Ov;have fC:=(JX g hu Ov).2;have eU:blw o (Ji t s) w:=by
  have h1:=hx.1;have h2:=hx.2;have h3:=OZ.1;have h4:=OZ.2
  rcases Nat.lt_or_ge (Ji t s) w with h5|h5
  ·refine anO ?_;have:=g.ord.nest w x (by rw[QD];exact w2) om h4 om;omega
  ·exfalso;have h6:=g.ord.nest (Ji t s) w (by rw[QD];omega) om om om;have h7:=(Qz g w2 w4).2;omega
 have S9:=(Qz g w2 w4).2;have Mk:Ji t s≠w:=λhe=>AZ (by rw[he];exact S9)
 obtain⟨m1,p1,_,_,p4,_⟩:=XX g w2 eU Mk;have p5:=(JX g hs Bb.1).1;obtain rfl:m1=s:=om
 have Me:=init_loop g w2 w4 Ce;obtain⟨m2,q1,_,_,q4,_⟩:=XX g w2 p4 (λhe=>by rw[he]at BM;omega);have q5:=(JX g hu Ov).1;obtain rfl:m2=u:=om
 have Z9:=Qx g hu Em (Qz g hu ha);by_cases UL:m2=w
 ·subst UL;rcases IV with h|⟨_,h⟩
  ·omega
  ·exact⟨Jdh g hu w4 ha Em (λhe=>by subst he;exact h Ce) (Jb3 g hu Me w4 Ce ha h),Z9⟩
 ·rcases Jdj g w2 q4 with h|⟨a',AV,Ut⟩
  ·exact absurd h UL
  ·have jM:x<=a':=by have:=hx.1;have:=Ut.1;omega
   exact⟨Jdh g w2 w4 AV (Qx g (show a' < t.nodes.length by have:=(JX g w2 AV).2;omega) Z9 Ut) om om,Qx g w2 Z9 q4⟩
theorem Jc0 {S:FS}{s:Nat}(h:FI t S)(hs:s<t.nodes.length)(hk:(nd t s).k=41):FI t (JS t s S)/\FG t S (JS t s S)/\((JS t s S).bad=none->Kz (JS t s S).fd s=true)/\(JS t s S).dn=S.dn:=by
 have D6:(JS t s S).dn=S.dn:=by
  unfold JS;simp only
  split
  ·rfl
  ·unfold FS.fail;split <;> rfl
 cases hf:Kz S.fd s with
 |false=>obtain⟨h1,h2,h3⟩:=settle_ok g h hs hk hf;exact⟨h1,h2,h3,D6⟩
 |true=>
  obtain⟨b1,b2,b3,b4⟩:=KV g hs hk;obtain⟨_,_,q3,q4⟩:=h.fnd s hf;have e:JS t s S = { S with got:=Yg t s (Jt S.got (Ji t s)) S.got (nB t s),fd:=Y7 s true S.fd }:=by unfold JS;simp only;rw[if_pos (show (Jt S.got (Ji t s)).length=(nd t s).n.toNat from q3)];rfl
  have AR:∀k,(nd t (Ju t s k)).kids=[]->k<nB t s->Ju t s k<S.got.length:=λk _ Au=>by have:=(b2 k Au).2;rw[h.gl];omega
  have DN:∀k j,k<nB t s->j<nB t s->Ju t s k=Ju t s j->k=j:=λk j h1 h2 he=>kid_inj g hs om om he
  have AQ:∀j,Jt (Yg t s (Jt S.got (Ji t s)) S.got (nB t s)) j=Jt S.got j:=λj=>by
   by_cases hx:∃k,k<nB t s/\(nd t (Ju t s k)).kids=[]/\Ju t s k=j
   ·obtain⟨k,Au,hb,rfl⟩:=hx;rw[Jhc AR DN (nB t s) (Gj _) k Au hb,q4 k Au hb]
   ·exact Jcn _ λk Au hb he=>hx ⟨k,Au,hb,he⟩
  have R5:∀u,Kz (Y7 s true S.fd) u=Kz S.fd u:=λu=>by
   rw[Xr]
   split
   ·rename_i he;rw[he,hf]
   ·rfl
  rw[e];exact⟨h.ext (Yr _) rfl AQ (λ_=>rfl) R5,FG.ext AQ (λ_=>rfl) R5 (λ_=>rfl) (λ_=>rfl),λ_=>by rw[R5];exact hf,rfl⟩
omit g in
theorem FM.same {t:Tr}{o:Lu}{S:FS}(h:FM t o S)(hg:FG t S S')(hd:S'.dn=S.dn):FM t o S':=h.step hg λi _ _ h1 h2=>by rw[hd,h2]at h1;cases h1
theorem Jd3(Dv:GoOk t o f go){S:FS}{i s:Nat}(hI:FI t S)(hM:FM t o S)(hi:i<t.nodes.length)(hP:PreQ t o S i)(hu:uf t S<f+1)(hs:s<t.nodes.length)(BM:(nd t s).k=41)(hm:(m:Int)∈(nd t s).kids)(Dr:(nd t m).k=42)(AR:inS t o (m:Int) i) :
  FI t (QE t o go s i S)/\FM t o (QE t o go s i S)/\FG t S (QE t o go s i S)/\((QE t o go s i S).bad=none->Kz (QE t o go s i S).fd s=true):=by
 unfold QE
 cases F3:Kz S.fg s with
 |true=>
  rw[if_pos rfl];obtain⟨f1,f2,f3⟩:=hI.fail i;have hd:(S.fail i).dn=S.dn:=by unfold FS.fail;split <;> rfl
  exact⟨f1,hM.same f2 hd,f2,λhb=>by rw[hb]at f3;cases f3⟩
 |false=>
  rw[if_neg sM];simp only;obtain⟨b1,b2,b3,b4⟩:=KV g hs BM;have EG:Ji t s<t.nodes.length:=om
  have jZ:=fs_le g (a:=Ji t s) EG;have Oj:FI t { S with fg:=Y7 s true S.fg }:=⟨hI.gl,hI.dl,hI.emp,hI.unf,hI.fnd,hI.fine,hI.ini,hI.typ⟩;have MM:=uf_less hs F3;obtain⟨a,ha⟩:∃a:Nat,fs o ((Ji t s:Nat):Int)=a:=⟨(fs o ((Ji t s:Nat):Int)).toNat,om⟩;rw[ha,Gd];have FJ:=Jem Dv Oj (S:={ S with fg:=Y7 s true S.fg }) (show FM t o _ from hM) om (a:=a) (m:=Ji t s+1-a) om (λS' j IY hj Ck hb=>?_) _ (Gj _)
  ·generalize (KC a (Ji t s+1-a)).foldl go { S with fg:=Y7 s true S.fg }=S1 at FJ|-;obtain⟨q1,q2,q3,q4⟩:=FJ;have Al:=Jc0 g (S:=S1) q1 hs BM;have h2:FI t (if S1.bad.isSome=true then S1 else JS t s S1)/\FM t o (if S1.bad.isSome=true then S1 else JS t s S1)/\FG t S1 (if S1.bad.isSome=true then S1 else JS t s S1)/\((if S1.bad.isSome=true then S1 else JS t s S1).bad=none->Kz (if S1.bad.isSome=true then S1 else JS t s S1).fd s=true):=by
    split
    ·rename_i hb;exact⟨q1,q2,.refl,λh=>by rw[h]at hb;cases hb⟩
    ·exact⟨Al.1,q2.same Al.2.1 Al.2.2.2,Al.2.1,Al.2.2.1⟩
   generalize (if S1.bad.isSome=true then S1 else JS t s S1)=S2 at h2|-;obtain⟨r1,r2,r3,r4⟩:=h2;have Aj:=q3.trans r3;refine⟨⟨r1.gl,r1.dl,r1.emp,r1.unf,r1.fnd,r1.fine,r1.ini,r1.typ⟩,r2,⟨Aj.keep,Aj.dn,Aj.dk,Aj.fd,λx=>?_,Aj.bad⟩,r4⟩;rw[Xr]
   split
   ·rename_i he;rw[he,F3]
   ·rename_i he;rw[Aj.fg x,Xr,if_neg he]
  ·have CB:=Ck hb;have PO:blw o (a+j) (Ji t s):=⟨om,om⟩;have Ab:a+j<t.nodes.length:=om
   refine⟨λc hc=>?_,λv hv Ce Pe OZ=>?_⟩
   ·have Fy:=Qx g EG (Qz g Ab hc) PO;have Aw:=(JX g Ab hc).2;have Dg:=Fy.2;have:=CB (c-a) om;rw[show a+(c-a)=c by omega]at this;exact this
   ·by_cases OQ:fs o ((Ji t s:Nat):Int)<=(v:Int)
    ·have:=CB (v-a) om;rw[show a+(v-a)=v by omega]at this;exact this
    ·obtain⟨h1,h2⟩:=Jeo g hs BM hm Dr AR hi PO hv Ce Pe OZ OQ;have aT:S.bad=none:=show ({ S with fg:=Y7 s true S.fg }:FS).bad=none from JhO IY hb
     exact IY.dn v ((hP aT).2 v hv Ce h1 h2)
omit g in
theorem rule_ok{i:Nat}(h:Qh t m got i=some l):(JaH t i->l=[])/\((nd t i).k=43->l.length=1)/\((nd t i).k=42->(nd t i).kids≠[]->l=[tyN t (Ju t i 0)]):=by
 refine⟨λhb=>?_,λhk=>?_,λhk hn=>?_⟩
 ·unfold Qh at h;simp only[hb.1,hb.2]at h;simpa using h.symm
 ·unfold Qh at h;simp only[hk]at h;simp at h;obtain⟨h1,h2⟩:=h;rw[<-h2];exact h1
 ·unfold Qh at h;simp only[hk]at h;simp[hn]at h;exact h.symm
omit g in
theorem fin_dn {S:FS}{i j:Nat}(hj:j≠i):(S.fin i r).dn.getD j false=S.dn.getD j false:=by
 unfold FS.fin FS.fail
 cases r with
 |none=>simp only;split <;> rfl
 |some l=>
  simp only
  split
  ·rfl
  ·split
   ·simp only[Ga,Gp];rw[if_neg (λh=>hj h.symm)]
   ·rfl
omit g in
theorem fin_new {S:FS}{i:Nat}(hd:S.dn.getD i false=false)(hn:(S.fin i (some l)).dn.getD i false=true):S.bad=none/\(i<S.got.length->l≠[]->Jt (S.fin i (some l)).got i=l):=by
 unfold FS.fin FS.fail at hn|-;simp only at hn|-
 split at hn
 ·rw[hd]at hn;cases hn
 ·rename_i hb;have aL:S.bad=none:=by cases h:S.bad with|none=>rfl|some x=>rw[h]at hb;exact absurd rfl hb
  split at hn
  ·rename_i hf;refine⟨aL,λhl he=>?_⟩;rw[if_neg hb,if_pos hf];simp only;rw[if_neg he,JaA hl,if_pos rfl]
  ·simp only at hn;rw[hd]at hn;cases hn
omit g in
theorem fin_again {S:FS}{i:Nat}(hI:FI t S)(hM:FM t o S)(hi:i<t.nodes.length)(hd:S.dn.getD i false=true)(hl:Jt S.got i=l):FI t (S.fin i (some l))/\FM t o (S.fin i (some l))/\FG t S (S.fin i (some l))/\(S.fin i (some l)).dn.getD i false=true/\∀j,(S.fin i (some l)).dn.getD j false=S.dn.getD j false:=by
 have Az:Qf l=true:=by rw[<-hl];exact hI.fine i
 unfold FS.fin;simp only
 split
 ·exact⟨hI,hM,.refl,hd,λ_=>rfl⟩
 ·rename_i hb;have h3:∀j,Jt (if l=[] then S.got else S.got.set i l) j=Jt S.got j:=λj=>by
   split
   ·rfl
   ·rw[JaA (by rw[hI.gl];exact hi)]
    split
    ·rename_i e;rw[e,hl]
    ·rfl
  have h4:∀j,(S.dn.set i true).getD j false=S.dn.getD j false:=λj=>by
   rw[getD_setB (by rw[hI.dl];exact hi)]
   split
   ·rename_i e;rw[e,hd]
   ·rfl
  have hg:FG t S { S with got:=if l=[] then S.got else S.got.set i l,dn:=S.dn.set i true }:=FG.ext h3 h4 (λ_=>rfl) (λ_=>rfl) (λh=>absurd h hb);exact⟨hI.ext (by simp only;split <;> simp) sM h3 h4 (λ_=>rfl),hM.step hg λj _ _ q1 q2=>(by rw[h4]at q1;rw[q2]at q1;cases q1),hg,by simp only;rw[h4];exact hd,h4⟩
theorem Jfc (hE:(YP t o).2=0):∀f,GoOk t o f (doF t o (λi=>(J2 t o i).toNat) f)
 |0=>λS i _ _ _ _ hu=>om
 |f+1=>λS i hI hM hi hP hu=>by
  unfold doF
  cases Ei:(S.bad.isSome || S.dn.getD i false) with
  |true=>rw[if_pos rfl];refine⟨hI,hM,.refl,λhb=>?_⟩;rw[hb]at Ei;simpa using Ei
  |false=>
   rw[if_neg sM];obtain⟨Fz,Ob⟩:=Bool.or_eq_false_iff.1 Ei;have aL:S.bad=none:=by cases h:S.bad with|none=>rfl|some x=>rw[h]at Fz;cases Fz
   by_cases h3:(nd t i).k=3
   ·rw[if_pos h3];simp only;obtain⟨FX,Cc,Mr,_,MV⟩:=Jba g hE hi h3;obtain⟨m,hm⟩:∃m:Nat,J2 t o i=m:=⟨(J2 t o i).toNat,om⟩;rw[hm]at FX Mr MV|-;rw[Gd]at MV|-;have Ch:m<t.nodes.length:=om
    have AR:inS t o (m:Int) i:=((mem_sight g hi).1 FX).2;have MU:¬JaH t i:=λh=>by have:=h.1;omega
    have fin3:∀(S':FS) (l:TL),FI t S'->FM t o S'->FG t S S'->l=valN t S' m->(S'.bad=none->l≠[])->FI t (S'.fin i (some l))/\FM t o (S'.fin i (some l))/\FG t S (S'.fin i (some l))/\((S'.fin i (some l)).bad=none->(S'.fin i (some l)).dn.getD i false=true):=λS' l q1 q2 q3 hl Ai=>by
     cases hd:S'.dn.getD i false with
     |false=>
      obtain⟨r1,r2,r3⟩:=fin_ok g (r:=some l) q1 hi hd λl' _=>⟨λh=>absurd h MU,λh=>om,λh=>om⟩
      refine⟨r1,q2.step r2 λj hj hk CB IL m' bV=>?_,q3.trans r2,r3⟩;by_cases RP:j=i
      ·subst RP;obtain rfl:m=m':=om
       obtain⟨n1,n2⟩:=fin_new hd CB;have Mk:=Ai n1;have h5:valN t S' m≠[]:=by rw[<-hl];exact Mk
       rw[valN_keep r2 h5];exact⟨by rw[n2 (by rw[q1.gl];exact hi) Mk,hl],h5⟩
      ·rw[fin_dn RP,IL]at CB;cases CB
     |true=>obtain⟨h5,h6⟩:=q2 i hi h3 hd m hm;obtain⟨r1,r2,r3,r4,_⟩:=fin_again (o:=o) q1 q2 hi hd (h5.trans hl.symm);exact⟨r1,r2,q3.trans r3,λ_=>r4⟩
    have Dr:(nd t m).k=47\/(nd t m).k=64\/(nd t m).k=42\/((nd t m).k=43/\m<i/\blw o i (Kv t m).toNat):=by
     obtain⟨u,a,hu,ha,Em,hd⟩:=AR;have Sm:=JX g hu ha;rcases (QM g hu).1 hd with ⟨_,s',h2,CF,h4,h5⟩|⟨h1,h2,CF⟩|⟨h1,h2,CF⟩|⟨h1,h2,CF⟩
     ·exact .inr (.inr (.inl h5))
     ·exact .inr (.inl CF)
     ·exact .inl (by rw[CF];exact h1)
     ·rcases CF with ⟨CF,h4⟩|⟨_,s',CF,h4,h5,h6⟩
      ·have gB:=(JX g hu CF).1;refine .inr (.inr (.inr ⟨h4,?_,by rw[gB,Gd];exact Qx g hu Em (Qz g hu ha)⟩));exact Jdh g hu CF ha Em (λhe=>by subst he;exact h2 h4) (Jb3 g hu h1 CF h4 ha h2)
      ·exact .inr (.inr (.inl h6))
    have BG:(nd t m).k=42->∃s k:Nat,(Kv t m)=s/\s<t.nodes.length/\(nd t s).k=41/\(m:Int)∈(nd t s).kids/\k<nB t s/\Ju t s k=m:=λBZ=>by
     obtain⟨s,s1,s2,s3,s4⟩:=QO g Ch om;have BM:=(YL (Jc6 g s2 s4)).2.2.1 (by rw[BZ];rfl);obtain⟨b1,b2,b3,b4⟩:=KV g s2 BM;obtain⟨k,hk,Mv,_⟩:=Jcx s4;refine⟨s,k,s1,s2,BM,s4,?_,Mv⟩;refine Gq λBS=>?_
     obtain rfl:k=(nd t s).kids.length-1:=om
     have:Ji t s=m:=Mv;rw[this]at b3;omega
    have IE:∀S':FS,FI t S'->(nd t m).k=42->(nd t m).kids=[]->Kz S'.fd (Kv t m).toNat=true->Jt S'.got m≠[]:=λS' q1 BZ Mw hf=>by obtain⟨s,k,s1,s2,s3,s4,s5,s6⟩:=BG BZ;rw[s1,Gd]at hf;have:=(q1.fnd s hf).2.2.2 k s5 (by rw[s6];exact Mw);rw[s6]at this;rw[this];simp
    unfold Jam;by_cases CE:(nd t m).k=47
    ·rw[if_pos CE];exact fin3 S _ hI hM .refl (by unfold valN;rw[if_pos CE]) λ_=>sM
    rw[if_neg CE];by_cases Ea:(nd t m).k=64\/(nd t m).k=42/\(nd t m).kids≠[]
    ·rw[if_pos Ea];exact fin3 S _ hI hM .refl (by unfold valN;rw[if_neg CE,if_pos Ea]) λ_=>sM
    rw[if_neg Ea];by_cases Fv:(nd t m).k=42/\Kz S.fd (Kv t m).toNat=false
    ·rw[if_pos Fv];simp only;obtain⟨s,k,s1,s2,s3,s4,s5,s6⟩:=BG Fv.1;have Mw:(nd t m).kids=[]:=Classical.byContradiction λh=>Ea (.inr ⟨Fv.1,h⟩)
     rw[s1,Gd];obtain⟨q1,q2,q3,q4⟩:=Jd3 g (Jfc hE f) hI hM hi hP hu s2 s3 s4 Fv.1 AR;refine fin3 _ _ q1 q2 q3 (by unfold valN;rw[if_neg CE,if_neg Ea]) λhb=>IE _ q1 Fv.1 Mw (by rw[s1,Gd];exact q4 hb)
    ·rw[if_neg Fv];refine fin3 S _ hI hM .refl (by unfold valN;rw[if_neg CE,if_neg Ea]) λ_=>?_
     rcases Dr with h|h|h|⟨h,h1,h2⟩
     ·exact absurd h CE
     ·exact absurd (.inl h) Ea
     ·refine IE S hI h (Classical.byContradiction λhx=>Ea (.inr ⟨h,hx⟩)) ?_
      cases hx:Kz S.fd (Kv t m).toNat with
      |true=>rfl
      |false=>exact absurd ⟨h,hx⟩ Fv
     ·intro he;have:=hI.ini m Ch ((hP aL).2 m Ch h h1 h2) h;rw[he]at this;simp at this
   ·rw[if_neg h3];by_cases BC:(nd t i).k=41
    ·rw[if_pos BC];simp only;have hS:FI t (JaN t i S)/\FG t S (JaN t i S)/\(JaN t i S).dn=S.dn:=by
      unfold JaN
      split
      ·exact⟨hI,.refl,rfl⟩
      ·have:=Jc0 g hI hi BC;exact⟨this.1,this.2.1,this.2.2.2⟩
     obtain⟨q1,q2,q3⟩:=hS;have jf:=hM.same q2 q3;obtain⟨r1,r2,r3⟩:=fin_ok g (r:=if Yf t i (Jt (JaN t i S).got (Ji t i))=true then some [] else none) q1 hi (by rw[q3];exact Ob) λl hl=>by
      split at hl
      ·cases hl;exact⟨λ_=>rfl,λh=>om,λh=>om⟩
      ·cases hl
     refine⟨r1,jf.step r2 λj hj hk CB IL=>?_,q2.trans r2,r3⟩;rw[fin_dn (λh=>by subst h;omega),IL]at CB;cases CB
    ·rw[if_neg BC];obtain⟨r1,r2,r3⟩:=fin_ok g (r:=Qh t (J2 t o i).toNat S.got i) hI hi Ob λl hl=>rule_ok hl
     refine⟨r1,hM.step r2 λj hj hk CB IL=>?_,r2,r3⟩;rw[fin_dn (λh=>by subst h;omega),IL]at CB;cases CB
theorem Jhp (hE:(YP t o).2=0):∀k,k<=t.nodes.length->FI t ((KC 0 k).foldl (doF t o (λi=>(J2 t o i).toNat) (t.nodes.length+1)) (FS.start t))/\FM t o ((KC 0 k).foldl (doF t o (λi=>(J2 t o i).toNat) (t.nodes.length+1)) (FS.start t))/\FG t (FS.start t) ((KC 0 k).foldl (doF t o (λi=>(J2 t o i).toNat) (t.nodes.length+1)) (FS.start t))/\(((KC 0 k).foldl (doF t o (λi=>(J2 t o i).toNat) (t.nodes.length+1)) (FS.start t)).bad=none->∀j,j<k->((KC 0 k).foldl (doF t o (λi=>(J2 t o i).toNat) (t.nodes.length+1)) (FS.start t)).dn.getD (0+j) false=true):=by
 have Fu:∀j,Jt (FS.start t).got j=[]:=λj=>by
  unfold FS.start Jt;simp only[Ga,Gn]
  split <;> rfl
 have Ob:∀j,(FS.start t).dn.getD j false=false:=λj=>by
  unfold FS.start;simp only[Ga,Gn]
  split <;> rfl
 refine Jem (Jfc g hE (t.nodes.length+1)) ⟨by simp[FS.start],by simp[FS.start],λi _ _=>Fu i,λs _ _ _ k _ _=>Fu _,λs h=>by simp[FS.start,Kz]at h,λi=>by rw[Fu];rfl,λi _ h=>(by rw[Ob]at h;cases h),λi _ h=>(by rw[Ob]at h;cases h)⟩ (λi _ _ h=>by rw[Ob]at h;cases h) ?_ om λS' j IY hj Ck hb=>?_
 ·unfold uf;have:=List.length_filter_le (λs=>!Kz (FS.start t).fg s) (Gb t.nodes.length);rw[List.length_range]at this;omega
 ·have CB:=Ck hb;refine⟨λc hc=>?_,λv hv Ce Pe _=>?_⟩
  ·have Aw:=(JX g (show 0+j<t.nodes.length by omega) hc).2;have:=CB c om;rw[Gr]at this;exact this
  ·have:=CB v om;rw[Gr]at this;exact this
end
theorem rule_congr{i:Nat}{got':List TL}(h1:∀j,j<(nd t i).kids.length->Jt got' (Ju t i j)=Jt got (Ju t i j))(h2:(nd t i).k=29->∀j,1<=j->j<(nd t i).kids.length->Jt got' (Ji t (Ju t i j))=Jt got (Ji t (Ju t i j)))(h3:(nd t i).k=44->Jt got' m=Jt got m):Qh t m got' i=Qh t m got i:=by
 have hK:∀j,(if j<(nd t i).kids.length then Jt got' (Ju t i j) else [])=if j<(nd t i).kids.length then Jt got (Ju t i j) else []:=λj=>by
  split
  ·rename_i h;exact h1 j h
  ·rfl
 have hL:(nd t i).k=29->∀j,Jbc t got' i (j+1)=Jbc t got i (j+1):=λhk j=>by
  unfold Jbc
  split
  ·rename_i h;exact h2 hk (j+1) om h
  ·rfl
 unfold Qh;simp only[hK];by_cases e1:(nd t i).k=29
 ·have dQ:Jbc t got' i 1=Jbc t got i 1:=hL e1 0;simp only[e1,hL e1];simp
 ·by_cases e2:(nd t i).k=44
  ·simp only[e2,h3 e2];simp
  ·simp only[if_neg e1,if_neg e2]
structure FR (t:Tr)(o:Lu)(S:FS):Prop where
 clo:∀i,i<t.nodes.length->S.dn.getD i false=true->∀c:Nat,(c:Int)∈(nd t i).kids->S.dn.getD c false=true
 rule:∀i,i<t.nodes.length->S.dn.getD i false=true->(nd t i).k≠3->(nd t i).k≠41->∃l,Qh t (J2 t o i).toNat S.got i=some l/\(¬JaH t i->Jt S.got i=l)
 sets:∀s,s<t.nodes.length->S.dn.getD s false=true->(nd t s).k=41->Kz S.fd s=true/\Yf t s (Jt S.got (Ji t s))=true
section
variable(g:GoodT t o)
include g
theorem Jf6 {i:Nat}(hi:i<t.nodes.length):lets t.nodes (nd t i)=Qi (nd t i).k (lets t.nodes (nd t i)):=by have hn:=g.nds (nd t i) (by unfold nd;rw[Ga,Gc hi];exact Gg hi);unfold ndI Kg at hn;simp only[Bool.and_eq_true,beq_iff_eq]at hn;exact hn.1.1.1.2
theorem let_get {i j:Nat}(hi:i<t.nodes.length)(hj:j<(nd t i).kids.length):(lets t.nodes (nd t i))[j]? = some (JdF (nd t (Ju t i j)).k):=by have hm:=Jz g hi hj;unfold lets;rw[List.getElem?_map,Gc hj,Option.map_some,hm.2.2,Ga,Gc hj];rfl
theorem kids_two {i:Nat}(hi:i<t.nodes.length)(hk:4<=(nd t i).k/\(nd t i).k<=18):(nd t i).kids.length=2:=by have h:=Jf6 g hi;have hl:=congrArg Gf h;rw[KG]at hl;unfold Qi at hl;rw[if_pos hk]at hl;exact hl
theorem Xt {i:Nat}(hi:i<t.nodes.length)(hk:(19<=(nd t i).k/\(nd t i).k<=25)\/(nd t i).k=43\/(nd t i).k=44\/(62<=(nd t i).k/\(nd t i).k<=64)):(nd t i).kids.length=1:=by
 have h:=Jf6 g hi;have hl:=congrArg Gf h;rw[KG]at hl;unfold Qi at hl;rw[iN7]at hl;by_cases h2:(19<=(nd t i).k/\(nd t i).k<=24)\/(nd t i).k=43\/(nd t i).k=44
 ·rw[if_pos h2]at hl;exact hl
 ·rw[if_neg h2,iP7]at hl;exact hl
theorem kids_if {i:Nat}(hi:i<t.nodes.length)(hk:(nd t i).k=27):(nd t i).kids.length=3:=by have h:=Jf6 g hi;have hl:=congrArg Gf h;rw[KG]at hl;unfold Qi at hl;rw[hk]at hl;simpa using hl
theorem JeJ {i j:Nat}(hi:i<t.nodes.length)(hk:(nd t i).k=29)(hj:1<=j)(A7:j<(nd t i).kids.length):(nd t (Ju t i j)).k=46\/(nd t (Ju t i j)).k=47:=by
 have h:=Jf6 g hi;have hg:=let_get g hi A7;rw[h]at hg;unfold Qi at hg;rw[hk]at hg;simp only at hg;rw[iN7,iN7,iN7,iN7,iN7,iN7,if_pos trivial,List.getElem?_append_right (by simpa using hj),Gn]at hg
 split at hg
 ·have Mc:=(Option.some.inj hg).symm;unfold JdF letter at Mc;by_cases a1:1<=(nd t (Ju t i j)).k/\(nd t (Ju t i j)).k<=29
  ·rw[if_pos a1]at Mc;exact absurd Mc vk
  rw[if_neg a1]at Mc;by_cases a2:60<=(nd t (Ju t i j)).k/\(nd t (Ju t i j)).k<=63
  ·rw[if_pos a2]at Mc;exact absurd Mc vk
  rw[if_neg a2]at Mc;by_cases a3:(nd t (Ju t i j)).k=46\/(nd t (Ju t i j)).k=47
  ·exact a3
  exfalso;rw[if_neg a3]at Mc
  repeat' (split at Mc)
  all_goals exact absurd Mc vk
 ·cases hg
theorem JeI(hu:u<t.nodes.length)(hk:(nd t u).k=46\/(nd t u).k=47):0<(nd t u).kids.length/\(1<=(nd t (Ji t u)).k/\(nd t (Ji t u)).k<=29)/\Ji t u<u:=by
 have h:=Jf6 g hu;have hl:=congrArg Gf h;rw[KG]at hl;have Ad:(nd t u).kids.length=2\/(nd t u).kids.length=3:=by unfold Qi at hl;rcases hk with hk|hk <;> rw[hk]at hl <;> simp at hl <;> omega
 have hm:=Jz g hu (i:=(nd t u).kids.length-1) om;have hg:=let_get g hu (j:=(nd t u).kids.length-1) om;refine⟨om,Jbb ?_,hm.2.1⟩;rw[h]at hg;unfold Qi at hg;rcases hk with hk|hk
 ·rw[hk]at hl hg;simp[Qi]at hl hg;rw[hl]at hg;simp at hg;show JdF (nd t (Ju t u ((nd t u).kids.length-1))).k=101;rw[hl];exact hg.symm
 ·rw[hk]at hl hg;simp[Qi]at hl hg;rw[hl]at hg;simp at hg;show JdF (nd t (Ju t u ((nd t u).kids.length-1))).k=101;rw[hl];exact hg.symm
theorem kid_nb {i c:Nat}(hi:i<t.nodes.length)(hk:(nd t i).k≠41)(hc:(c:Int)∈(nd t i).kids):¬JaH t c:=λhb=>hk ((YL (Jc6 g hi hc)).2.2.1 (by rw[hb.1];rfl))
theorem rule_keep{S:FS}{i:Nat}(h:FR t o S)(hg:FG t S S')(hi:i<t.nodes.length)(hk:(nd t i).k≠41)(hd:∀c:Nat,(c:Int)∈(nd t i).kids->S.dn.getD c false=true)(hl:Qh t (J2 t o i).toNat S.got i=some l):Qh t (J2 t o i).toNat S'.got i=some l:=by
 rw[<-hl];refine rule_congr (λj hj=>?_) (λPI j jJ hj=>?_) (λBB=>?_)
 ·have hm:=(Jz g hi hj).1;exact hg.dk _ (hd _ hm) (kid_nb g hi hk hm)
 ·have hm:=Jz g hi hj;have Ab:Ju t i j<t.nodes.length:=om
  obtain⟨p1,p2,p3⟩:=JeI g Ab (JeJ g hi PI jJ hj);have Cc:=Jz g Ab (i:=(nd t (Ju t i j)).kids.length-1) om;exact hg.dk _ (h.clo _ Ab (hd _ hm.1) _ Cc.1) λhb=>by have:=hb.1;omega
 ·have h1:(Jt S.got (J2 t o i).toNat).length=1:=by unfold Qh at hl;simp only[BB]at hl;simp at hl;exact hl.1.1
  exact hg.keep _ λhe=>by rw[he]at h1;simp at h1
theorem last_kid {s:Nat}(hs:s<t.nodes.length)(hk:(nd t s).k=41):((Ji t s:Nat):Int)∈(nd t s).kids:=by obtain⟨b1,_⟩:=KV g hs hk;exact(Jz g hs (i:=(nd t s).kids.length-1) om).1
theorem FR.step{S:FS}(h:FR t o S)(hg:FG t S S')(hn:∀i,i<t.nodes.length->S'.dn.getD i false=true->S.dn.getD i false=false->(∀c:Nat,(c:Int)∈(nd t i).kids->S'.dn.getD c false=true)/\((nd t i).k≠3->(nd t i).k≠41->∃l,Qh t (J2 t o i).toNat S'.got i=some l/\(¬JaH t i->Jt S'.got i=l))/\((nd t i).k=41->Kz S'.fd i=true/\Yf t i (Jt S'.got (Ji t i))=true)):FR t o S':=by
 refine⟨λi hi hd c hc=>?_,λi hi hd h3 BC=>?_,λi hi hd BC=>?_⟩
 ·cases hs:S.dn.getD i false with
  |false=>exact(hn i hi hd hs).1 c hc
  |true=>exact hg.dn c (h.clo i hi hs c hc)
 ·cases hs:S.dn.getD i false with
  |false=>exact(hn i hi hd hs).2.1 h3 BC
  |true=>obtain⟨l,h1,h2⟩:=h.rule i hi hs h3 BC;exact⟨l,rule_keep g h hg hi BC (h.clo i hi hs) h1,λhb=>(hg.dk i hs hb).trans (h2 hb)⟩
 ·cases hs:S.dn.getD i false with
  |false=>exact(hn i hi hd hs).2.2 BC
  |true=>obtain⟨h1,h2⟩:=h.sets i hi hs BC;obtain⟨b1,b2,b3,b4⟩:=KV g hi BC;refine⟨hg.fd i h1,?_⟩;rw[hg.dk (Ji t i) (h.clo i hi hs _ (last_kid g hi BC)) λhb=>by have:=hb.1;omega];exact h2
theorem FR.same{S:FS}(h:FR t o S)(hg:FG t S S')(hd:∀j,S'.dn.getD j false=S.dn.getD j false):FR t o S':=h.step g hg λi _ h1 h2=>by rw[hd,h2]at h1;cases h1
omit g in
theorem FR.fields{S:FS}(h:FR t o S)(h1:S'.got=S.got)(h2:S'.dn=S.dn)(h3:S'.fd=S.fd):FR t o S':=⟨by rw[h2];exact h.clo,by rw[h1,h2];exact h.rule,by rw[h1,h2,h3];exact h.sets⟩
theorem force_pre {S:FS}{i s:Nat}(hi:i<t.nodes.length)(hP:PreQ t o S i)(hs:s<t.nodes.length)(BM:(nd t s).k=41)(hm:(m:Int)∈(nd t s).kids)(Dr:(nd t m).k=42)(AR:inS t o (m:Int) i)(ha:fs o ((Ji t s:Nat):Int)=a):∀S' j,FG t { S with fg:=Y7 s true S.fg } S'->j<Ji t s+1-a->(S'.bad=none->∀j',j' < j->S'.dn.getD (a+j') false=true)->PreQ t o S' (a+j):=λS' j IY hj Ck hb=>by
 obtain⟨b1,b2,b3,b4⟩:=KV g hs BM;have EG:Ji t s<t.nodes.length:=om
 have CB:=Ck hb;have PO:blw o (a+j) (Ji t s):=⟨om,om⟩;have Ab:a+j<t.nodes.length:=om
 refine⟨λc hc=>?_,λv hv Ce Pe OZ=>?_⟩
 ·have Fy:=Qx g EG (Qz g Ab hc) PO;have Aw:=(JX g Ab hc).2;have Dg:=Fy.2;have:=CB (c-a) om;rw[show a+(c-a)=c by omega]at this;exact this
 ·by_cases OQ:fs o ((Ji t s:Nat):Int)<=(v:Int)
  ·have:=CB (v-a) om;rw[show a+(v-a)=v by omega]at this;exact this
  ·obtain⟨h1,h2⟩:=Jeo g hs BM hm Dr AR hi PO hv Ce Pe OZ OQ;have aT:S.bad=none:=show ({ S with fg:=Y7 s true S.fg }:FS).bad=none from JhO IY hb
   exact IY.dn v ((hP aT).2 v hv Ce h1 h2)
end
section
variable(g:GoodT t o)
include g
theorem JeS (hE:(YP t o).2=0){i:Nat}(hi:i<t.nodes.length)(h3:(nd t i).k=3)(hm:J2 t o i=m):m<t.nodes.length/\inS t o (m:Int) i/\((nd t m).k=47\/(nd t m).k=64\/(nd t m).k=43\/((nd t m).k=42/\∃s k:Nat,Kv t m=s/\s<t.nodes.length/\(nd t s).k=41/\(m:Int)∈(nd t s).kids/\k<nB t s/\Ju t s k=m)):=by
 obtain⟨FX,Cc,Mr,_,MV⟩:=Jba g hE hi h3;rw[hm]at FX Mr MV;rw[Gd]at MV;have Ch:m<t.nodes.length:=om
 have AR:inS t o (m:Int) i:=((mem_sight g hi).1 FX).2;refine⟨Ch,AR,?_⟩;have Dr:(nd t m).k=47\/(nd t m).k=64\/(nd t m).k=43\/(nd t m).k=42:=by
  obtain⟨u,a,hu,ha,Em,hd⟩:=AR;rcases (QM g hu).1 hd with ⟨_,s',h2,CF,h4,h5⟩|⟨h1,h2,CF⟩|⟨h1,h2,CF⟩|⟨h1,h2,CF⟩
  ·exact .inr (.inr (.inr h5))
  ·exact .inr (.inl CF)
  ·exact .inl (by rw[CF];exact h1)
  ·rcases CF with ⟨CF,h4⟩|⟨_,s',CF,h4,h5,h6⟩
   ·exact .inr (.inr (.inl h4))
   ·exact .inr (.inr (.inr h6))
 rcases Dr with h|h|h|BZ
 ·exact .inl h
 ·exact .inr (.inl h)
 ·exact .inr (.inr (.inl h))
 ·obtain⟨s,s1,s2,s3,s4⟩:=QO g Ch om;have BM:=(YL (Jc6 g s2 s4)).2.2.1 (by rw[BZ];rfl);obtain⟨b1,b2,b3,b4⟩:=KV g s2 BM;obtain⟨k,hk,Mv,_⟩:=Jcx s4;refine .inr (.inr (.inr ⟨BZ,s,k,s1,s2,BM,s4,?_,Mv⟩));refine Gq λBS=>?_
  obtain rfl:k=(nd t s).kids.length-1:=om
  have:Ji t s=m:=Mv;rw[this]at b3;omega
end
def lisT (t:Tr)(τ:Nat->TL):List TL:=(Gb t.nodes.length).map τ
def valT (t:Tr)(τ:Nat->TL)(m:Nat):TL:=if (nd t m).k=47 then [.int] else if (nd t m).k=64\/(nd t m).k=42/\(nd t m).kids≠[] then [tyN t (Ju t m 0)] else τ m
structure TA (t:Tr)(o:Lu)(τ:Nat->TL):Prop where
 nam:∀i,i<t.nodes.length->(nd t i).k=3->∀m:Nat,J2 t o i=m->τ i=valT t τ m/\valT t τ m≠[]
 sets:∀s,s<t.nodes.length->(nd t s).k=41->(τ (Ji t s)).length=nB t s/\(∀k,k<nB t s->τ (Ju t s k)=[(τ (Ji t s)).getD k .int])/\τ s=[]
 rule:∀i,i<t.nodes.length->(nd t i).k≠3->(nd t i).k≠41->∃l,Qh t (J2 t o i).toNat (lisT t τ) i=some l/\(¬JaH t i->τ i=l)
 fine:∀i,i<t.nodes.length->Qf (τ i)=true
def bareN (t:Tr)(o:Lu)(i s:Nat):Prop:=(nd t i).k=3/\∃m:Nat,J2 t o i=m/\JaH t m/\Kv t m=(s:Int)
structure FT (t:Tr)(τ:Nat->TL)(S:FS):Prop where
 sub:∀i,i<t.nodes.length->Jt S.got i≠[]->Jt S.got i=τ i
 dne:∀i,i<t.nodes.length->S.dn.getD i false=true->¬JaH t i->Jt S.got i=τ i
 ok:S.bad=none
theorem FT.fields{S:FS}(h:FT t τ S)(h1:S'.got=S.got)(h2:S'.dn=S.dn)(h3:S'.bad=S.bad):FT t τ S':=⟨by rw[h1];exact h.sub,by rw[h1,h2];exact h.dne,by rw[h3];exact h.ok⟩
section
variable(g:GoodT t o){r:Nat->Nat}(hA:TA t o τ)
include g hA
end
def idxM:List (Nat×Bool)->Nat->Nat
 |[],_=>0
 |(j,_)::l,k=>if j=k then 0 else idxM l k+1
def allMT (l:List (Nat×Bool)):Prop:=∀p∈l,p.2=true
structure FO (t:Tr)(o:Lu)(S:FS):Prop where
 all:allMT S.fd
 ord:∀s,Kz S.fd s=true->∀i s',i<t.nodes.length->blw o i (Ji t s)->bareN t o i s'->Kz S.fd s'=true/\idxM S.fd s' < idxM S.fd s
 set0:∀s,s<t.nodes.length->(nd t s).k=41->Jt S.got s=[]
theorem FO.fields{S:FS}(h:FO t o S)(h1:S'.got=S.got)(h3:S'.fd=S.fd):FO t o S':=⟨by rw[h3];exact h.all,by rw[h3];exact h.ord,by rw[h1];exact h.set0⟩
theorem FO.fin{S:FS}{i:Nat}(h:FO t o S)(hl:i<S.got.length)(hr:(nd t i).k=41->r=none\/r=some []):FO t o (S.fin i r):=by
 unfold FS.fin FS.fail
 cases r with
 |none=>simp only;split <;> exact h.fields rfl rfl
 |some l=>
  simp only
  split
  ·exact h
  ·split
   ·refine⟨h.all,h.ord,λs hs hk=>?_⟩;simp only
    split
    ·exact h.set0 s hs hk
    ·rename_i Ai;rw[JaA hl]
     split
     ·rename_i e;subst e;rcases hr hk with h|h
      ·cases h
      ·cases h;exact absurd rfl Ai
     ·exact h.set0 s hs hk
   ·first
    |exact h.fields rfl rfl
    |(split <;> exact h.fields rfl rfl)
section
variable(g:GoodT t o)
include g
end
section
variable(g:GoodT t o)
include g
end
section
variable(g:GoodT t o)
include g
theorem Ym {i:Nat}(hi:i<t.nodes.length)(hk:(nd t i).k=25\/(62<=(nd t i).k/\(nd t i).k<=64)\/(nd t i).k=42/\(nd t i).kids≠[]):0<(nd t i).kids.length/\Ju t i 0<i/\60<=(nd t (Ju t i 0)).k/\(nd t (Ju t i 0)).k<=63:=by
 have h:=Jf6 g hi;have e:lets t.nodes (nd t i)=[116]:=by
  by_cases BZ:(nd t i).k=42
  ·have Ai:lets t.nodes (nd t i)≠[]:=λe=>by
    have:=congrArg Gf e;rw[KG]at this;rcases hk with h1|h1|h1
    ·omega
    ·omega
    ·exact h1.2 (Gl this)
   rw[BZ]at h;generalize lets t.nodes (nd t i)=hv at *;rw[h];simp[Qi,Ai]
  ·rw[h];unfold Qi;simp only;rw[iN7,iN7,iP7]
 have hl:=congrArg Gf e;rw[KG]at hl;simp only[Gi,List.length_nil]at hl;have hg:=let_get g hi (j:=0) om;rw[e]at hg;have h2:=Jcv (Option.some.inj hg).symm;exact⟨om,(Jz g hi (i:=0) om).2.1,h2.1,h2.2⟩
theorem tyF_fuel:∀(f f' i:Nat),i<t.nodes.length->60<=(nd t i).k->(nd t i).k<=63->i<f->i<f'->tyF t f i=tyF t f' i
 |0,_,_,_,_,_,h,_=>om
 |f+1,0,_,_,_,_,_,h=>om
 |f+1,f' + 1,i,hi,h1,h2,h3,h4=>by
  unfold tyF;by_cases e0:(nd t i).k=60
  ·rw[if_pos e0,if_pos e0]
  ·by_cases e1:(nd t i).k=61
   ·rw[if_neg e0,if_neg e0,if_pos e1,if_pos e1]
   ·obtain⟨k1,k2,k3,k4⟩:=Ym g hi (.inr (.inl ⟨om,om⟩));rw[tyF_fuel f f' (Ju t i 0) om k3 k4 om om]
theorem tyN_eq {i:Nat}(hi:i<t.nodes.length)(h1:60<=(nd t i).k)(h2:(nd t i).k<=63):tyN t i=if (nd t i).k=60 then .int else if (nd t i).k=61 then .bool else if (nd t i).k=62 then .arr (tyN t (Ju t i 0)) else .str (tyN t (Ju t i 0)):=by
 show tyF t (i+1) i=_;unfold tyF;by_cases e0:(nd t i).k=60
 ·rw[if_pos e0,if_pos e0]
 ·by_cases e1:(nd t i).k=61
  ·rw[if_neg e0,if_neg e0,if_pos e1,if_pos e1]
  ·obtain⟨k1,k2,k3,k4⟩:=Ym g hi (.inr (.inl ⟨om,om⟩));rw[tyF_fuel g i (Ju t i 0+1) (Ju t i 0) om k3 k4 om om];rfl
end
section
variable{u:Tr}(gu:GoodT u p)(g:GoodT t o)(h:TMap u t ψ)
include gu g h
end
def KK (t:Tr)(got:List TL)(i j:Nat):TL:=if j<(nd t i).kids.length then Jt got (Ju t i j) else []
def J6 (k:Nat)(ks:Lu)(n:Nat)(K L:Nat->TL)(ty:TyX)(sp sr si gm:TL):Option TL:=
 if k=1 then some [.int]
 else if k=2 then some [.bool]
 else if k=4 then match K 1 with
  |[.str a]=>if K 0=[a] then some [.str a] else none
  |_=>none
 else if k=5\/k=6 then if K 0=[.bool]/\K 1=[.bool] then some [.bool] else none
 else if k=7\/k=8 then if K 0=[.int]/\K 1=[.int]\/K 0=[.bool]/\K 1=[.bool] then some [.bool] else none
 else if 9<=k/\k<=12 then if K 0=[.int]/\K 1=[.int] then some [.bool] else none
 else if 13<=k/\k<=17 then if K 0=[.int]/\K 1=[.int] then some [.int] else none
 else if k=18 then match K 0 with
  |[.arr a]=>if K 1=[.int] then some [a] else none
  |_=>none
 else if k=19 then if K 0=[.bool] then some [.bool] else none
 else if k=20 then if K 0=[.int] then some [.int] else none
 else if k=21 then match K 0 with
  |[.str a]=>some [a]
  |_=>none
 else if k=22 then match K 0 with
  |[.str a]=>some [.str a]
  |_=>none
 else if k=23 then match K 0 with
  |[.str _]=>some [.bool]
  |_=>none
 else if k=24 then match K 0 with
  |[.arr _]=>some [.int]
  |_=>none
 else if k=25 then some [.str ty]
 else if k=26 then if ks.length=sp.length/\∀j,j<ks.length->K j=[sp.getD j .int] then some sr else none
 else if k=27 then if K 0=[.bool]/\K 1=K 2 then some (K 1) else none
 else if k=28 then if K n=[.bool] then some (K (ks.length-1)) else none
 else if k=29 then match L 1 with
  |[a]=>if ((Gb (ks.length-1)).all λj=>L (j+1) == [a])=true/\K 0=[.int] then some [.arr a] else none
  |_=>none
 else if k=40 then YK ((Gb (ks.length-n)).map λj=>K (n+j))
 else if k=45 then YK ((Gb ks.length).map K)
 else if k=42 then if ks=[] then some [] else some [ty]
 else if k=64 then some [ty]
 else if k=43 then if (K 0).length=1 then some (K 0) else none
 else if k=44 then if gm.length=1/\K 0=gm then some [] else none
 else if k=47 then some [.int]
 else if k=65 then if K (ks.length-1)=si then some [] else none
 else some []
theorem JV{i:Nat}:Qh t m got i=J6 (nd t i).k (nd t i).kids (nd t i).n.toNat (KK t got i) (Jbc t got i) (tyN t (Ju t i 0)) (Yj t m) (XU t m) (XU t i) (Jt got m):=rfl
theorem ruleK_congr{n:Nat}{ks ks':Lu}{K K' L L':Nat->TL}{ty ty':TyX}{sp sp' sr sr' si si' gm gm':TL}(hl:ks'.length=ks.length)(hK:k≠40->k≠28->K'=K)(Eb:k=28->K' n=K n/\K' (ks.length-1)=K (ks.length-1))(Eo:k=40->∀j,j<ks.length-n->K' (n+j)=K (n+j))(PI:k=29->∀j,L' (j+1)=L (j+1))(Ca:k=25\/k=64\/k=42/\ks≠[]->ty'=ty)(Db:k=26->sp'=sp/\sr'=sr)(BB:k=44->gm'=gm)(BA:k=65->si'=si):J6 k ks' n K' L' ty' sp' sr' si' gm'=J6 k ks n K L ty sp sr si gm:=by
 by_cases e28:k=28
 ·subst e28;obtain⟨a,b⟩:=Eb rfl;simp[J6,hl,a,b]
 by_cases e40:k=40
 ·subst e40;have:((Gb (ks.length-n)).map λj=>K' (n+j))=(Gb (ks.length-n)).map λj=>K (n+j):=List.map_congr_left λj hj=>Eo rfl j (Gt.1 hj)
  simp[J6,hl,this]
 obtain rfl:=hK e40 e28;by_cases e29:k=29
 ·subst e29;have h1:=PI rfl 0;simp only[Gr]at h1;simp[J6,hl,h1,PI rfl]
 by_cases e25:k=25
 ·subst e25;simp[J6,Ca (.inl rfl)]
 by_cases e64:k=64
 ·subst e64;simp[J6,Ca (.inr (.inl rfl))]
 by_cases e42:k=42
 ·subst e42;by_cases he:ks=[]
  ·have BQ:ks'=[]:=Gl (by rw[hl,he];rfl);simp[J6,he,BQ]
  ·have BQ:ks'≠[]:=λe=>he (Gl (by rw[<-hl,e];rfl))
   simp[J6,he,BQ,Ca (.inr (.inr ⟨rfl,he⟩))]
 by_cases e26:k=26
 ·subst e26;obtain⟨rfl,rfl⟩:=Db rfl;simp[J6,hl]
 by_cases e44:k=44
 ·subst e44;obtain rfl:=BB rfl;simp[J6]
 by_cases e65:k=65
 ·subst e65;obtain rfl:=BA rfl;simp[J6,hl]
 unfold J6;simp only[if_neg e28,if_neg e40,if_neg e29,if_neg e25,if_neg e64,if_neg e42,if_neg e26,if_neg e44,if_neg e65,hl]
structure TyM (u t:Tr)(p o:Lu)(ψ:Nat->Nat):Prop where
 n:∀j,j<u.nodes.length->(nd t (ψ j)).n=(nd u j).n
 pos:∀j,j<u.nodes.length->∀i,i<(nd u j).kids.length->(nd u (Ju u j i)).k≠41->ψ (Ju u j i)=Ju t (ψ j) i
 of:∀j,j<u.nodes.length->KH u j=true->∃d:Nat,d<u.nodes.length/\J2 u p j=d/\J2 t o (ψ j)=(ψ d:Nat)/\((nd u j).k=26->(nd u d).k=65)
section
variable{u:Tr}(gu:GoodT u p)(g:GoodT t o)(h:TMap u t ψ)(M:TyM u t p o ψ)
include gu g h M
end
section
variable(g:GoodT t o)
include g
end
section
variable(g:GoodT t o)
include g
theorem def_res {d:Nat}(hd:d<t.nodes.length)(hk:(nd t d).k=65):(nd t d).n.toNat+1<(nd t d).kids.length:=by
 have h:=g.nds (nd t d) (by unfold nd;rw[Ga,Gc hd];exact Gg hd);have hl:=KG (l:=t.nodes) (x:=nd t d);unfold ndI Kg at h;rw[hk]at h;generalize lets t.nodes (nd t d)=hv at *;simp only[Bool.and_eq_true,beq_iff_eq]at h;obtain⟨⟨⟨⟨_,h1⟩,_⟩,_,h3⟩,h4⟩:=h;have e:hv.length=Qy 80 hv+Qy 116 hv+1:=by have:=congrArg Gf h1;simp[Qi]at this;omega
 simp[Q9]at h3;simp[Q3,inI]at h4;omega
end
end Go.Cm
end
end
