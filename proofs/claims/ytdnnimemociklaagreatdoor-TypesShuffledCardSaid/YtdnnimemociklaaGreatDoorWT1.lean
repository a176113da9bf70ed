/-
  A part of the proof. Conditions: none.
-/
import Derived.Test.YtdnnimemociklaaGreatDoorWP50
set_option linter.unusedSimpArgs false
set_option linter.unusedVariables false
open List renaming getD_eq_getElem?_getD->Gb,getElem?_eq_getElem->Gf,range->Gc,eq_nil_of_length_eq_zero->Gn,getElem?_replicate->Gp,length_cons->Gh,getElem_mem->Gi,filter_cons->Gj,length->Gg,mem_range->Gl,pairwise_iff_getElem->Gu,foldl_append->Gq,map_congr_left->Gv,getElem?_set->Gw,all_eq_true->Gx,mem_cons->Gy,length_filter_le->GA,length_range->GD,ext_getElem->GG,replicate->GH
open Bool renaming or_eq_false_iff->Gr,and_eq_true->Gz
open Nat renaming le_refl->Gd,zero_add->Gm,lt_of_not_le->Gs,strongRecOn->GI
open Int renaming toNat_natCast->Ga
open Classical renaming byContradiction->Gt
noncomputable section
section
set_option maxRecDepth 100000
open Go.Proofs
namespace Go.Cm
variable {a d f k n u v w x:Nat}{t:Tr}{o p:Lu}{r ψ:Nat->Nat}
inductive TyX where
 |int
 |bool
 |arr (a:TyX)
 |str (a:TyX)
 deriving DecidableEq,Inhabited
def Ya:Lv:=[115,116,114,101,97,109,32]
def tyT:TyX->Lv
 |.int=>[105,110,116]
 |.bool=>[98,111,111,108]
 |.arr a=>91::(tyT a++[93])
 |.str a=>Ya++tyT a
def tyP:TyX->Nat
 |.int=>1
 |.bool=>1
 |.arr a=>tyP a+1
 |.str a=>tyP a+1
theorem Jhw:∀{a b:TyX},tyT a=tyT b->a=b
 |.int,.int,_=>rfl
 |.bool,.bool,_=>rfl
 |.arr a,.arr b,h=>by simp only[tyT,List.cons.injEq,true_and]at h;rw[Jhw (List.append_cancel_right h)]
 |.str a,.str b,h=>by simp only[tyT]at h;rw[Jhw (List.append_cancel_left h)]
 |.int,.bool,h=>by simp[tyT]at h
 |.int,.arr _,h=>by simp[tyT]at h
 |.int,.str _,h=>by simp[tyT,Ya]at h
 |.bool,.int,h=>by simp[tyT]at h
 |.bool,.arr _,h=>by simp[tyT]at h
 |.bool,.str _,h=>by simp[tyT,Ya]at h
 |.arr _,.int,h=>by simp[tyT]at h
 |.arr _,.bool,h=>by simp[tyT]at h
 |.arr _,.str _,h=>by simp[tyT,Ya]at h
 |.str _,.int,h=>by simp[tyT,Ya]at h
 |.str _,.bool,h=>by simp[tyT,Ya]at h
 |.str _,.arr _,h=>by simp[tyT,Ya]at h
theorem tyT_eq {a b:TyX}:(tyT a == tyT b)=(a == b):=by rw[Bool.eq_iff_iff,beq_iff_eq,beq_iff_eq];exact⟨Jhw,λh=>by rw[h]⟩
theorem tyT_ne {a:TyX}:tyT a≠[]:=by cases a <;> simp[tyT,Ya]
abbrev TL:=List TyX
variable {l:TL}{got:List TL}{τ:Nat->TL}
def tyF (t:Tr):Nat->Nat->TyX
 |0,_=>.int
 |f+1,i=>if (nd t i).k=60 then .int else if (nd t i).k=61 then .bool else if (nd t i).k=62 then .arr (tyF t f (JH t i 0)) else .str (tyF t f (JH t i 0))
def tyN (t:Tr)(i:Nat):TyX:=tyF t (i+1) i
def JaI (t:Tr)(d:Nat):TL:=(Gc (nd t d).n.toNat).map λk=>tyN t (JH t (JH t d k) 0)
def Jaj (t:Tr)(d:Nat):TL:=(Gc ((nd t d).kids.length-1-(nd t d).n.toNat)).map λk=>tyN t (JH t d ((nd t d).n.toNat+k))
def JE (got:List TL)(i:Nat):TL:=got.getD i []
def YV (ls:List TL):Option TL:=match ls with
 |[l]=>some l
 |_=>if ls.all (λl=>l.length == 1) then some (ls.map λl=>l.headD .int) else none
def Jcz (t:Tr)(got:List TL)(i j:Nat):TL:=if j<(nd t i).kids.length then JE got (Jh t (JH t i j)) else []
def Xa (t:Tr)(m:Nat)(got:List TL)(i:Nat):Option TL:=
 let k:=(nd t i).k
 let K:=λj=>if j<(nd t i).kids.length then JE got (JH t i j) else []
 if k=1 then some [.int]
 else if k=2 then some [.bool]
 else if k=4 then match K 1 with
  |[.str a]=>if K 0=[a] then some [.str a] else none
  |_=>none
 else if k=5\/k=6 then if K 0=[.bool]/\K 1=[.bool] then some [.bool] else none
 else if k=7\/k=8 then if K 0=[.int]/\K 1=[.int]\/K 0=[.bool]/\K 1=[.bool] then some [.bool] else none
 else if 9<=k/\k<=12 then if K 0=[.int]/\K 1=[.int] then some [.bool] else none
 else if 13<=k/\k<=17 then if K 0=[.int]/\K 1=[.int] then some [.int] else none
 else if k=18 then match K 0 with
  |[.arr a]=>if K 1=[.int] then some [a] else none
  |_=>none
 else if k=19 then if K 0=[.bool] then some [.bool] else none
 else if k=20 then if K 0=[.int] then some [.int] else none
 else if k=21 then match K 0 with
  |[.str a]=>some [a]
  |_=>none
 else if k=22 then match K 0 with
  |[.str a]=>some [.str a]
  |_=>none
 else if k=23 then match K 0 with
  |[.str _]=>some [.bool]
  |_=>none
 else if k=24 then match K 0 with
  |[.arr _]=>some [.int]
  |_=>none
 else if k=25 then some [.str (tyN t (JH t i 0))]
 else if k=26 then if (nd t i).kids.length=(JaI t m).length/\∀j,j<(nd t i).kids.length->K j=[(JaI t m).getD j .int] then some (Jaj t m) else none
 else if k=27 then if K 0=[.bool]/\K 1=K 2 then some (K 1) else none
 else if k=28 then if K (nd t i).n.toNat=[.bool] then some (K ((nd t i).kids.length-1)) else none
 else if k=29 then match Jcz t got i 1 with
  |[a]=>if ((Gc ((nd t i).kids.length-1)).all λj=>Jcz t got i (j+1) == [a])=true/\K 0=[.int] then some [.arr a] else none
  |_=>none
 else if k=40 then YV ((Gc ((nd t i).kids.length-(nd t i).n.toNat)).map λj=>K ((nd t i).n.toNat+j))
 else if k=45 then YV ((Gc (nd t i).kids.length).map K)
 else if k=42 then if (nd t i).kids=[] then some [] else some [tyN t (JH t i 0)]
 else if k=64 then some [tyN t (JH t i 0)]
 else if k=43 then if (K 0).length=1 then some (K 0) else none
 else if k=44 then if (JE got m).length=1/\K 0=JE got m then some [] else none
 else if k=47 then some [.int]
 else if k=65 then if K ((nd t i).kids.length-1)=Jaj t i then some [] else none
 else some []
def XX (k:Nat)(b:Bool):List (Nat×Bool)->List (Nat×Bool)
 |[]=>[(k,b)]
 |(j,c)::l=>if j=k then(k,b)::l else(j,c)::XX k b l
def J2 (l:List (Nat×Bool))(k:Nat):Bool:=match l with
 |[]=>false
 |(j,c)::l=>if j=k then c else J2 l k
theorem Xn{j:Nat}{b:Bool}:∀{l:List (Nat×Bool)},J2 (XX k b l) j=if j=k then b else J2 l j
 |[]=>by
  show (if k=j then b else J2 [] j)=if j=k then b else J2 [] j
  by_cases h:j=k
  ·rw[if_pos h,if_pos h.symm]
  ·rw[if_neg h,if_neg (λe:k=j=>h e.symm)]
 |(a,c)::l=>by
  rw[XX];by_cases h:a=k
  ·subst h;rw[if_pos rfl,J2,J2];by_cases e:j=a
   ·subst e;simp
   ·rw[if_neg (λx=>e x.symm),if_neg e,if_neg (λx=>e x.symm)]
  ·rw[if_neg h,J2,J2,Xn];by_cases e:a=j
   ·subst e;rw[if_pos rfl,if_pos rfl,if_neg h]
   ·rw[if_neg e,if_neg e]
structure FS where
 got:List TL
 dn:LH
 fd:List (Nat×Bool)
 fg:List (Nat×Bool)
 bad:Option Nat
variable {S':FS}{go:FS->Nat->FS}
def FS.fail (S:FS)(i:Nat):FS:=if S.bad.isSome then S else { S with bad:=some i }
def Yq (l:TL):Bool:=l.all λa=>decide (tyP a<=20)
def FS.fin (S:FS)(i:Nat)(r:Option TL):FS:=match r with
 |none=>S.fail i
 |some l=>if S.bad.isSome then S else if Yq l=true then { S with got:=if l=[] then S.got else S.got.set i l,dn:=S.dn.set i true } else S.fail i
def Ja6 (t:Tr)(s:Nat)(l:TL)(got:List TL):Nat->List TL
 |0=>got
 |k+1=>if (nd t (JH t s k)).kids=[] then(Ja6 t s l got k).set (JH t s k) [l.getD k .int] else Ja6 t s l got k
def J4 (t:Tr)(s:Nat)(S:FS):FS:=
 let l:=JE S.got (Jh t s)
 if l.length=(nd t s).n.toNat then { S with got:=Ja6 t s l S.got (nd t s).n.toNat,fd:=XX s true S.fd } else S.fail s
def KW (a n:Nat):Lx:=(Gc n).map λj=>a+j
def Xh (t:Tr)(o:Lu)(go:FS->Nat->FS)(s i:Nat)(S:FS):FS:=
 if J2 S.fg s=true then S.fail i
 else
  let e:=Jh t s
  let S1:=(KW (fs o e).toNat (e+1-(fs o e).toNat)).foldl go { S with fg:=XX s true S.fg }
  let S2:=if S1.bad.isSome then S1 else J4 t s S1
  { S2 with fg:=XX s false S2.fg }
def JbI (t:Tr)(o:Lu)(go:FS->Nat->FS)(m i:Nat)(S:FS):FS×Option TL:=
 if (nd t m).k=47 then(S,some [.int])
 else if (nd t m).k=64\/(nd t m).k=42/\(nd t m).kids≠[] then(S,some [tyN t (JH t m 0)])
 else if (nd t m).k=42/\J2 S.fd (Kg t m).toNat=false then
  let S':=Xh t o go (Kg t m).toNat i S
  (S',some (JE S'.got m))
 else(S,some (JE S.got m))
def Y1 (t:Tr)(s:Nat)(l:TL):Bool:=(Gc (nd t s).n.toNat).all λk=>(nd t (JH t s k)).kids.isEmpty || tyN t (JH t (JH t s k) 0) == l.getD k .int
def Y9 (t:Tr)(s:Nat)(S:FS):FS:=if J2 S.fd s=true then S else J4 t s S
def doF (t:Tr)(o:Lu)(mean:Nat->Nat):Nat->FS->Nat->FS
 |0,S,_=>S
 |f+1,S,i=>
  if S.bad.isSome || S.dn.getD i false then S
  else if (nd t i).k=3 then
   let r:=JbI t o (doF t o mean f) (mean i) i S
   r.1.fin i r.2
  else if (nd t i).k=41 then
   let S':=Y9 t i S
   S'.fin i (if Y1 t i (JE S'.got (Jh t i))=true then some [] else none)
  else S.fin i (Xa t (mean i) S.got i)
def FS.start (t:Tr):FS:=⟨GH t.nodes.length [],GH t.nodes.length false,[],[],none⟩
def JM (t:Tr)(o:Lu):FS:=(Gc t.nodes.length).foldl (doF t o (λi=>(JD t o i).toNat) (t.nodes.length+1)) (FS.start t)
theorem JfF {l:LH}{i j:Nat}{b:Bool}(h:i<l.length):(l.set i b).getD j false=if j=i then b else l.getD j false:=by
 simp only[Gb,Gw];by_cases e:j=i
 ·subst e;simp[h]
 ·rw[if_neg (λx=>e x.symm),if_neg e]
theorem Jae{i j:Nat}{x:TL}(h:i<got.length):JE (got.set i x) j=if j=i then x else JE got j:=by
 unfold JE;simp only[Gb,Gw];by_cases e:j=i
 ·subst e;simp[h]
 ·rw[if_neg (λx=>e x.symm),if_neg e]
def X6 (t:Tr)(i:Nat):Prop:=(nd t i).k=42/\(nd t i).kids=[]
def nB (t:Tr)(s:Nat):Nat:=(nd t s).n.toNat
theorem JaQ{s:Nat}:∀m,(Ja6 t s l got m).length=got.length
 |0=>rfl
 |m+1=>by
  rw[Ja6]
  split
  ·rw[List.length_set,JaQ m]
  ·exact JaQ m
theorem JcV{s:Nat}{j:Nat}:∀m,(∀k,k<m->(nd t (JH t s k)).kids=[]->JH t s k≠j)->JE (Ja6 t s l got m) j=JE got j
 |0,_=>rfl
 |m+1,h=>by
  have ih:=JcV (s:=s) m λk hk=>h k om
  rw[Ja6]
  split
  ·rename_i hb;have Ag:=h m om hb;unfold JE at ih|-;rw[Gb,List.getElem?_set_ne Ag,<-Gb];exact ih
  ·exact ih
theorem JhZ{s:Nat}(AO:∀k,(nd t (JH t s k)).kids=[]->k<nB t s->JH t s k<got.length)(DZ:∀k j,k<nB t s->j<nB t s->JH t s k=JH t s j->k=j):∀m,m<=nB t s->∀k,k<m->(nd t (JH t s k)).kids=[]->JE (Ja6 t s l got m) (JH t s k)=[l.getD k .int]
 |0,_,k,hk,_=>om
 |m+1,hm,k,hk,hb=>by
  rw[Ja6];by_cases he:k=m
  ·subst he;rw[if_pos hb,Jae (by rw[JaQ];exact AO k hb om),if_pos rfl]
  ·have ih:=JhZ AO DZ m om k om hb
   split
   ·rename_i Cb;rw[Jae (by rw[JaQ];exact AO m Cb om),if_neg (λe=>he (DZ _ _ om om e))];exact ih
   ·exact ih
structure FI (t:Tr)(S:FS):Prop where
 gl:S.got.length=t.nodes.length
 dl:S.dn.length=t.nodes.length
 emp:∀i,S.dn.getD i false=false->¬X6 t i->JE S.got i=[]
 unf:∀s,s<t.nodes.length->(nd t s).k=41->J2 S.fd s=false->∀k,k<nB t s->(nd t (JH t s k)).kids=[]->JE S.got (JH t s k)=[]
 fnd:∀s,J2 S.fd s=true->s<t.nodes.length/\(nd t s).k=41/\(JE S.got (Jh t s)).length=nB t s/\∀k,k<nB t s->(nd t (JH t s k)).kids=[]->JE S.got (JH t s k)=[(JE S.got (Jh t s)).getD k .int]
 fine:∀i,Yq (JE S.got i)=true
 ini:∀i,i<t.nodes.length->S.dn.getD i false=true->(nd t i).k=43->(JE S.got i).length=1
 typ:∀i,i<t.nodes.length->S.dn.getD i false=true->(nd t i).k=42->(nd t i).kids≠[]->JE S.got i=[tyN t (JH t i 0)]
structure FG (t:Tr)(S S':FS):Prop where
 keep:∀i,JE S.got i≠[]->JE S'.got i=JE S.got i
 dn:∀i,S.dn.getD i false=true->S'.dn.getD i false=true
 dk:∀i,S.dn.getD i false=true->¬X6 t i->JE S'.got i=JE S.got i
 fd:∀s,J2 S.fd s=true->J2 S'.fd s=true
 fg:∀s,J2 S'.fg s=J2 S.fg s
 bad:S.bad.isSome=true->S'.bad=S.bad
theorem FG.refl{S:FS}:FG t S S:=⟨λ_ _=>rfl,λ_ h=>h,λ_ _ _=>rfl,λ_ h=>h,λ_=>rfl,λ_=>rfl⟩
theorem FG.trans{A B C:FS}(h:FG t A B)(k:FG t B C):FG t A C where
 keep i hi:=by have h1:=h.keep i hi;rw[k.keep i (by rw[h1];exact hi),h1]
 dn i hi:=k.dn i (h.dn i hi)
 dk i hi hb:=(k.dk i (h.dn i hi) hb).trans (h.dk i hi hb)
 fd s hs:=k.fd s (h.fd s hs)
 fg s:=(k.fg s).trans (h.fg s)
 bad hb:=(k.bad (by rw[h.bad hb];exact hb)).trans (h.bad hb)
theorem FI.fail{S:FS}(h:FI t S)(i:Nat):FI t (S.fail i)/\FG t S (S.fail i)/\(S.fail i).bad.isSome=true:=by
 unfold FS.fail
 split
 ·rename_i hb;exact⟨h,.refl,hb⟩
 ·rename_i hb;exact⟨⟨h.gl,h.dl,h.emp,h.unf,h.fnd,h.fine,h.ini,h.typ⟩,⟨λ_ _=>rfl,λ_ h=>h,λ_ _ _=>rfl,λ_ h=>h,λ_=>rfl,λCb=>absurd Cb hb⟩,rfl⟩
section
variable(g:GoodT t o)
include g
theorem Kr {s:Nat}(hs:s<t.nodes.length)(hk:(nd t s).k=41):(nd t s).kids.length=nB t s+1/\(∀k,k<nB t s->(nd t (JH t s k)).k=42/\JH t s k<s)/\(1<=(nd t (Jh t s)).k/\(nd t (Jh t s)).k<=29)/\Jh t s<s:=by
 obtain⟨a,h1,h2,h3,h4⟩:=Y8 g hs hk;change (nd t s).n=a at h1;change (nd t s).kids.length=a+1 at h2;have hn:nB t s=a:=by unfold nB;omega
 have hm:=Jt g hs (i:=(nd t s).kids.length-1) om;refine⟨om,λk Am=>?_,?_,hm.2.1⟩
 ·have h5:=Jt g hs (i:=k) om;exact⟨by rw[h5.2.2];exact h3 k om,h5.2.1⟩
 ·change (1<=(nd t (JH t s ((nd t s).kids.length-1))).k)/\_;show _/\(nd t (JH t s ((nd t s).kids.length-1))).k<=29;rw[hm.2.2,h2,show a+1-1=a by omega];exact h4
theorem set_ge1 {s:Nat}(hs:s<t.nodes.length)(hk:(nd t s).k=41):1<=nB t s:=by have hn:=g.nds (nd t s) (by unfold nd;rw[Gb,Gf hs];exact Gi hs);rw[ndI_R]at hn;simp only[Gz]at hn;have h:=hn.2;unfold Qu at h;rw[hk]at h;simp[inI]at h;unfold nB;omega
theorem kid_inj {s i j:Nat}(hs:s<t.nodes.length)(hi:i<(nd t s).kids.length)(hj:j<(nd t s).kids.length)(he:JH t s i=JH t s j):i=j:=by
 have ha:=Jc9 g hs;have h1:=g.kid hs (Gi hi);have h2:=g.kid hs (Gi hj);unfold JH at he;rw[Gb,Gb,Gf hi,Gf hj]at he;simp only[Option.getD_some]at he;rcases Nat.lt_trichotomy i j with h|h|h
 ·have:=Gu.1 ha i j hi hj h;omega
 ·exact h
 ·have:=Gu.1 ha j i hj hi h;omega
theorem kid_one2{s i j:Nat}(hs:s<t.nodes.length)(hu:u<t.nodes.length)(hi:i<(nd t s).kids.length)(hj:j<(nd t u).kids.length)(he:JH t s i=JH t u j):s=u:=by have h1:=(JC g hs (Jt g hs hi).1).1;have h2:=(JC g hu (Jt g hu hj).1).1;rw[he]at h1;omega
theorem settle_ok {S:FS}{s:Nat}(h:FI t S)(hs:s<t.nodes.length)(hk:(nd t s).k=41)(hf:J2 S.fd s=false):FI t (J4 t s S)/\FG t S (J4 t s S)/\((J4 t s S).bad=none->J2 (J4 t s S).fd s=true):=by
 obtain⟨b1,b2,b3,b4⟩:=Kr g hs hk;unfold J4;simp only
 split
 case isFalse=>obtain⟨f1,f2,f3⟩:=h.fail s;exact⟨f1,f2,λhb=>by rw[hb]at f3;cases f3⟩
 case isTrue hl=>
  have hl:(JE S.got (Jh t s)).length=nB t s:=hl;have AO:∀k,(nd t (JH t s k)).kids=[]->k<nB t s->JH t s k<S.got.length:=λk _ Am=>by have:=(b2 k Am).2;rw[h.gl];omega
  have DZ:∀k j,k<nB t s->j<nB t s->JH t s k=JH t s j->k=j:=λk j h1 h2 he=>kid_inj g hs om om he
  have pin:=JhZ (l:=JE S.got (Jh t s)) (got:=S.got) AO DZ (nB t s) (Gd _);have pout:∀j,(∀k,k<nB t s->(nd t (JH t s k)).kids=[]->JH t s k≠j)->JE (Ja6 t s (JE S.got (Jh t s)) S.got (nB t s)) j=JE S.got j:=λj hj=>JcV _ hj
  have pnb:∀j,¬X6 t j->JE (Ja6 t s (JE S.got (Jh t s)) S.got (nB t s)) j=JE S.got j:=λj hj=>pout j λk Am hb he=>hj ⟨by rw[<-he];exact(b2 k Am).1,by rw[<-he];exact hb⟩
  have FJ:JE (Ja6 t s (JE S.got (Jh t s)) S.got (nB t s)) (Jh t s)=JE S.got (Jh t s):=pnb _ λhb=>by have:=hb.1;omega
  change FI t { S with got:=Ja6 t s (JE S.got (Jh t s)) S.got (nB t s),fd:=XX s true S.fd }/\FG t S { S with got:=Ja6 t s (JE S.got (Jh t s)) S.got (nB t s),fd:=XX s true S.fd }/\(_->J2 (XX s true S.fd) s=true);have AU:∀u,u<t.nodes.length->(nd t u).k=41->u≠s->∀k,k<nB t u->JE (Ja6 t s (JE S.got (Jh t s)) S.got (nB t s)) (JH t u k)=JE S.got (JH t u k):=λu hu Ic Ag k Am=>by obtain⟨c1,_⟩:=Kr g hu Ic;exact pout _ λk' AL _ he=>Ag (kid_one2 g hs hu om om he).symm
  refine⟨⟨by rw[JaQ];exact h.gl,h.dl,λi hi hb=>?_,λu hu Ic OG k Am hb=>?_,λu OG=>?_,λi=>?_,λi hi hd Cq=>?_,λi hi hd Ck Ag=>?_⟩,⟨λi hi=>?_,λ_ h=>h,λi _ hb=>pnb i hb,λu hu=>?_,λ_=>rfl,λ_=>rfl⟩,λ_=>by rw[Xn,if_pos rfl]⟩
  ·rw[pnb i hb];exact h.emp i hi hb
  ·rw[Xn]at OG
   split at OG
   ·cases OG
   ·rename_i Ag;rw[AU u hu Ic Ag k Am];exact h.unf u hu Ic OG k Am hb
  ·rw[Xn]at OG;by_cases he:u=s
   ·subst he;exact⟨hs,hk,by rw[FJ];exact hl,λk Am hb=>by rw[FJ];exact pin k Am hb⟩
   ·rw[if_neg he]at OG;obtain⟨q1,q2,q3,q4⟩:=h.fnd u OG;obtain⟨c1,c2,c3,c4⟩:=Kr g q1 q2;have eD:JE (Ja6 t s (JE S.got (Jh t s)) S.got (nB t s)) (Jh t u)=JE S.got (Jh t u):=pnb _ λhb=>by have:=hb.1;omega
    refine⟨q1,q2,by rw[eD];exact q3,λk Am hb=>?_⟩;rw[eD,AU u q1 q2 he k Am];exact q4 k Am hb
  ·by_cases hx:∃k,k<nB t s/\(nd t (JH t s k)).kids=[]/\JH t s k=i
   ·obtain⟨k,Am,hb,rfl⟩:=hx;rw[pin k Am hb];have FQ:=h.fine (Jh t s);unfold Yq at FQ|-;rw[Gx]at FQ;have:=FQ ((JE S.got (Jh t s)).getD k .int) (by rw[Gb,Gf om];exact Gi _);rw[List.all_cons,this];rfl
   ·rw[pout i λk Am hb he=>hx ⟨k,Am,hb,he⟩];exact h.fine i
  ·rw[pnb i λhb=>by have:=hb.1;omega];exact h.ini i hi hd Cq
  ·rw[pnb i λhb=>Ag hb.2];exact h.typ i hi hd Ck Ag
  ·by_cases hx:∃k,k<nB t s/\(nd t (JH t s k)).kids=[]/\JH t s k=i
   ·obtain⟨k,Am,hb,rfl⟩:=hx;exact absurd (h.unf s hs hk hf k Am hb) hi
   ·exact pout i λk Am hb he=>hx ⟨k,Am,hb,he⟩
  ·rw[Xn];split
   ·rfl
   ·exact hu
theorem Jha {S:FS}{i:Nat}{r:Option TL}(h:FI t S)(hi:i<t.nodes.length)(hd:S.dn.getD i false=false)(hr:∀l,r=some l->(X6 t i->l=[])/\((nd t i).k=43->l.length=1)/\((nd t i).k=42->(nd t i).kids≠[]->l=[tyN t (JH t i 0)])):FI t (S.fin i r)/\FG t S (S.fin i r)/\((S.fin i r).bad=none->(S.fin i r).dn.getD i false=true):=by
 unfold FS.fin
 cases r with
 |none=>
  obtain⟨f1,f2,f3⟩:=h.fail i;exact⟨f1,f2,λhb=>by simp only at hb;rw[hb]at f3;cases f3⟩
 |some l=>
  obtain⟨r1,r2,r3⟩:=hr l rfl;simp only
  split
  ·rename_i hb;exact⟨h,.refl,λh2=>by rw[h2]at hb;cases hb⟩
  split
  case isFalse=>obtain⟨f1,f2,f3⟩:=h.fail i;exact⟨f1,f2,λhb=>by rw[hb]at f3;cases f3⟩
  case isTrue Iy Mj=>
   have MH:∀j,(S.dn.set i true).getD j false=if j=i then true else S.dn.getD j false:=λj=>JfF (by rw[h.dl];exact hi)
   have ER:∀j,JE (if l=[] then S.got else S.got.set i l) j=if j=i/\l≠[] then l else JE S.got j:=λj=>by
    by_cases hl:l=[]
    ·rw[if_pos hl,if_neg (λh=>h.2 hl)]
    ·rw[if_neg hl,Jae (by rw[h.gl];exact hi)];by_cases e:j=i
     ·rw[if_pos e,if_pos ⟨e,hl⟩]
     ·rw[if_neg e,if_neg (λh=>e h.1)]
   have A7:(if l=[] then S.got else S.got.set i l).length=t.nodes.length:=by split <;> simp[h.gl]
   generalize hG:(if l=[] then S.got else S.got.set i l)=G at ER A7;have AP:∀j,j≠i->JE G j=JE S.got j:=λj hj=>by rw[ER,if_neg (λh=>hj h.1)]
   have OC:¬X6 t i->JE S.got i=[]:=h.emp i hd;have PD:X6 t i->JE G i=JE S.got i:=λhb=>by rw[ER,if_neg (λh=>h.2 (r1 hb))]
   have C8:∀j,JE S.got j≠[]->JE G j=JE S.got j:=λj hj=>by
    by_cases e:j=i
    ·subst e;by_cases hb:X6 t j
     ·exact PD hb
     ·exact absurd (OC hb) hj
    ·exact AP j e
   have OJ:∀j,X6 t j->JE G j=JE S.got j:=λj hb=>by
    by_cases e:j=i
    ·subst e;exact PD hb
    ·exact AP j e
   have di:¬X6 t i->JE G i=l:=λhb=>by
    rw[ER];by_cases hl:l=[]
    ·rw[if_neg (λh=>h.2 hl),OC hb,hl]
    ·rw[if_pos ⟨rfl,hl⟩]
   refine⟨⟨A7,by simp[h.dl],λj hj hb=>?_,λs hs hk hf k Am hb=>?_,λs hf=>?_,λj=>?_,λj hj Bt Cq=>?_,λj hj Bt Ck Ag=>?_⟩,⟨C8,λj hj=>by rw[MH];split <;> first|rfl|exact hj,λj hj hb=>?_,λ_ h=>h,λ_=>rfl,λhb=>absurd hb Iy⟩,λ_=>by rw[MH,if_pos rfl]⟩
   ·rw[MH]at hj
    split at hj
    ·cases hj
    ·rename_i e;rw[AP j e];exact h.emp j hj hb
   ·obtain⟨b1,b2,_⟩:=Kr g hs hk;rw[OJ _ ⟨(b2 k Am).1,hb⟩];exact h.unf s hs hk hf k Am hb
   ·obtain⟨q1,q2,q3,q4⟩:=h.fnd s hf;obtain⟨b1,b2,b3,b4⟩:=Kr g q1 q2;have Ag:JE S.got (Jh t s)=JE G (Jh t s)\/nB t s=0:=by
     by_cases hz:JE S.got (Jh t s)=[]
     ·exact .inr (by rw[hz]at q3;simpa using q3.symm)
     ·exact .inl (C8 _ hz).symm
    rcases Ag with Ag|Ag
    ·exact⟨q1,q2,by rw[<-Ag];exact q3,λk Am hb=>by rw[<-Ag,OJ _ ⟨(b2 k Am).1,hb⟩];exact q4 k Am hb⟩
    ·have:=set_ge1 g q1 q2;omega
   ·by_cases e:j=i
    ·subst e;by_cases hb:X6 t j
     ·rw[PD hb];exact h.fine j
     ·rw[di hb];exact Mj
    ·rw[AP j e];exact h.fine j
   ·by_cases e:j=i
    ·subst e;rw[di λhb=>by have:=hb.1;omega];exact r2 Cq
    ·rw[MH,if_neg e]at Bt;rw[AP j e];exact h.ini j hj Bt Cq
   ·by_cases e:j=i
    ·subst e;rw[di λhb=>Ag hb.2];exact r3 Ck Ag
    ·rw[MH,if_neg e]at Bt;rw[AP j e];exact h.typ j hj Bt Ck Ag
   ·by_cases e:j=i
    ·subst e;rw[hd]at hj;cases hj
    ·exact AP j e
end
theorem FI.ext{S:FS}(h:FI t S)(h1:S'.got.length=S.got.length)(h2:S'.dn.length=S.dn.length)(h3:∀j,JE S'.got j=JE S.got j)(h4:∀j,S'.dn.getD j false=S.dn.getD j false)(h5:∀s,J2 S'.fd s=J2 S.fd s):FI t S':=
 ⟨h1.trans h.gl,h2.trans h.dl,λi hi hb=>by rw[h3];rw[h4]at hi;exact h.emp i hi hb,λs hs hk hf k Am hb=>by rw[h5]at hf;rw[h3];exact h.unf s hs hk hf k Am hb,λs hf=>by rw[h5]at hf;obtain⟨q1,q2,q3,q4⟩:=h.fnd s hf;exact⟨q1,q2,by rw[h3];exact q3,λk hk hb=>by rw[h3,h3];exact q4 k hk hb⟩,λi=>by rw[h3];exact h.fine i,λi hi hd hk=>by rw[h4]at hd;rw[h3];exact h.ini i hi hd hk,λi hi hd hk hn=>by rw[h4]at hd;rw[h3];exact h.typ i hi hd hk hn⟩
theorem FG.ext{S:FS}(h3:∀j,JE S'.got j=JE S.got j)(h4:∀j,S'.dn.getD j false=S.dn.getD j false)(h5:∀s,J2 S'.fd s=J2 S.fd s)(h6:∀s,J2 S'.fg s=J2 S.fg s)(h7:S.bad.isSome=true->S'.bad=S.bad):FG t S S':=⟨λi _=>h3 i,λi hi=>by rw[h4];exact hi,λi _ _=>h3 i,λs hs=>by rw[h5];exact hs,h6,h7⟩
def JiF (t:Tr)(S:FS)(m:Nat):TL:=if (nd t m).k=47 then [.int] else if (nd t m).k=64\/(nd t m).k=42/\(nd t m).kids≠[] then [tyN t (JH t m 0)] else JE S.got m
def FM (t:Tr)(o:Lu)(S:FS):Prop:=∀i,i<t.nodes.length->(nd t i).k=3->S.dn.getD i false=true->∀m:Nat,JD t o i=m->JE S.got i=JiF t S m/\JiF t S m≠[]
theorem valN_keep{S:FS}{m:Nat}(h:FG t S S')(hv:JiF t S m≠[]):JiF t S' m=JiF t S m:=by
 unfold JiF at hv|-;by_cases h1:(nd t m).k=47
 ·rw[if_pos h1,if_pos h1]
 ·rw[if_neg h1]at hv|-;rw[if_neg h1];by_cases h2:(nd t m).k=64\/(nd t m).k=42/\(nd t m).kids≠[]
  ·rw[if_pos h2,if_pos h2]
  ·rw[if_neg h2]at hv|-;rw[if_neg h2];exact h.keep m hv
theorem FM.step{S:FS}(h:FM t o S)(hg:FG t S S')(hn:∀i,i<t.nodes.length->(nd t i).k=3->S'.dn.getD i false=true->S.dn.getD i false=false->∀m:Nat,JD t o i=m->JE S'.got i=JiF t S' m/\JiF t S' m≠[]):FM t o S':=λi hi hk hd m hm=>by
 cases hs:S.dn.getD i false with
 |false=>exact hn i hi hk hd hs m hm
 |true=>obtain⟨h1,h2⟩:=h i hi hk hs m hm;have h3:=valN_keep hg h2;refine⟨?_,by rw[h3];exact h2⟩;rw[h3,<-h1];exact hg.dk i hs λhb=>by have:=hb.1;omega
def uf (t:Tr)(S:FS):Nat:=((Gc t.nodes.length).filter λs=>!J2 S.fg s).length
theorem uf_eq{S:FS}(h:FG t S S'):uf t S'=uf t S:=by unfold uf;exact congrArg Gg (List.filter_congr λs _=>by rw[h.fg])
theorem JfM {p q:Nat->Bool}{s:Nat}:∀{l:Lx},s∈l->(∀x,q x=true->p x=true)->p s=true->q s=false->(l.filter q).length<(l.filter p).length
 |a::l,hs,IZ,hp,hq=>by
  have Bd:∀m:Lx,(m.filter q).length<=(m.filter p).length:=λm=>by
   induction m with
   |nil=>exact Gd _
   |cons x m ih=>
    rw[Gj,Gj]
    cases hx:q x with
    |true=>rw[if_pos rfl,IZ x hx,if_pos rfl];simpa using ih
    |false=>
     rw[if_neg sM]
     split
     ·rw[Gh];omega
     ·exact ih
  rcases Gy.1 hs with rfl|h
  ·rw[Gj,Gj,hq,hp,if_neg sM,if_pos rfl,Gh];have:=Bd l;omega
  ·have ih:=JfM h IZ hp hq;rw[Gj,Gj]
   cases hx:q a with
   |true=>rw[if_pos rfl,IZ a hx,if_pos rfl];simpa using ih
   |false=>
    rw[if_neg sM]
    split
    ·rw[Gh];omega
    ·exact ih
theorem JeS{S:FS}{s:Nat}(hs:s<t.nodes.length)(h:J2 S.fg s=false):uf t { S with fg:=XX s true S.fg } < uf t S:=by
 refine JfM (Gl.2 hs) (λx hx=>?_) (by rw[h];rfl) (by rw[Xn,if_pos rfl];rfl);rw[Xn]at hx
 split at hx
 ·cases hx
 ·exact hx
def Jgn (t:Tr)(o:Lu)(S:FS)(i:Nat):Prop:=S.bad=none->(∀c:Nat,(c:Int)∈(nd t i).kids->S.dn.getD c false=true)/\∀v,v<t.nodes.length->(nd t v).k=43->v<i->blw o i (Kg t v).toNat->S.dn.getD v false=true
def GoOk (t:Tr)(o:Lu)(f:Nat)(go:FS->Nat->FS):Prop:=∀S i,FI t S->FM t o S->i<t.nodes.length->Jgn t o S i->uf t S<f->FI t (go S i)/\FM t o (go S i)/\FG t S (go S i)/\((go S i).bad=none->(go S i).dn.getD i false=true)
theorem JiC{S:FS}(h:FG t S S')(hb:S'.bad=none):S.bad=none:=by
 cases hs:S.bad with
 |none=>rfl
 |some x=>rw[h.bad (by rw[hs];rfl),hs]at hb;cases hb
theorem Jas:KW a (k+1)=KW a k++[a+k]:=by unfold KW;rw[List.range_succ,List.map_append];rfl
theorem Jai(Bj:GoOk t o f go){S:FS}(hI:FI t S)(hM:FM t o S)(hu:uf t S<f){m:Nat}(Fx:a+m<=t.nodes.length)(hP:∀S' j,FG t S S'->j<m->(S'.bad=none->∀j',j' < j->S'.dn.getD (a+j') false=true)->Jgn t o S' (a+j)) :
  ∀k,k<=m->FI t ((KW a k).foldl go S)/\FM t o ((KW a k).foldl go S)/\FG t S ((KW a k).foldl go S)/\(((KW a k).foldl go S).bad=none->∀j,j<k->((KW a k).foldl go S).dn.getD (a+j) false=true)
 |0,_=>⟨hI,hM,.refl,λ_ j hj=>om⟩
 |k+1,hk=>by
  obtain⟨h1,h2,h3,h4⟩:=Jai Bj hI hM hu Fx hP k om;rw[Jas,Gq];generalize (KW a k).foldl go S=S1 at *;obtain⟨q1,q2,q3,q4⟩:=Bj S1 (a+k) h1 h2 om (hP S1 k h3 om h4) (by rw[uf_eq h3];exact hu);simp only[List.foldl_cons,List.foldl_nil];refine⟨q1,q2,h3.trans q3,λhb j hj=>?_⟩;by_cases e:j=k
  ·subst e;exact q4 hb
  ·exact q3.dn _ (h4 (JiC q3 hb) j om)
section
variable(g:GoodT t o)
include g
theorem Jb3(hw:w<t.nodes.length)(hv:(v:Int)∈(nd t w).kids)(ha:(a:Int)∈(nd t w).kids)(hx:blw o x a)(Ag:v≠a)(h:v<a):v<x:=by
 have h1:=λh1 h2=>Jia g hw hv ha (j:=v) h1 h2
 have Iq:=(JC g hw hv).2;have h2:¬blw o v a:=λhb=>Ag (h1 (Q6 g om) hb)
 have h3:=hx.2;have h4:¬fs o (a:Int)<=(v:Int):=λh5=>h2 ⟨om,h5⟩
 omega
theorem JaX(hw:w<t.nodes.length)(hk:(nd t w).k=28)(hv:(v:Int)∈(nd t w).kids)(Cu:(nd t v).k=43)(ha:(a:Int)∈(nd t w).kids)(DN:(nd t a).k≠43):v<a:=by
 obtain⟨N,M,h1,h2,h3,h4,h5,h6,h7,h8⟩:=Yl g hw hk;obtain⟨i,hi,BS,EB⟩:=JbB hv;obtain⟨j,hj,BR,Dn⟩:=JbB ha;have DY:∀x:Nat,Jo t.nodes (x:Int)=(nd t x).k:=λx=>by unfold Jo nd;rw[Ga]
 change ∀i,i<N->Jo t.nodes ((nd t w).kids.getD i 0)=43 at h4;change 1<=Jo t.nodes ((nd t w).kids.getD N 0)/\Jo t.nodes ((nd t w).kids.getD N 0)<=29 at h5;change ∀i,N+1<=i->i<M->Jo t.nodes ((nd t w).kids.getD i 0)=41 at h6;change ∀i,M<=i->i+1<(nd t w).kids.length->Jo t.nodes ((nd t w).kids.getD i 0)=44 at h7;change Jo t.nodes ((nd t w).kids.getD ((nd t w).kids.length-1) 0)=45 at h8;have lm:N<=j:=by
  refine Nat.le_of_not_lt λAb=>DN ?_
  have:=h4 j Ab;rw[Dn,DY]at this;exact this
 have P8:i<N:=by
  refine Gs λCn=>?_
  have SA:Jo t.nodes ((nd t w).kids.getD i 0)=43:=by rw[EB,DY];exact Cu
  rcases (show i=N\/(N+1<=i/\i<M)\/(M<=i/\i+1<(nd t w).kids.length)\/i=(nd t w).kids.length-1 by omega) with e|⟨e1,e2⟩|⟨e1,e2⟩|e
  ·rw[e]at SA;omega
  ·have:=h6 i e1 e2;omega
  ·have:=h7 i e1 e2;omega
  ·rw[e]at SA;omega
 have Dr:=Jc9 g hw;have h9:=Gu.1 Dr i j hi hj om;rw[Gb,Gf hi]at EB;rw[Gb,Gf hj]at Dn;simp only[Option.getD_some]at EB Dn;omega
theorem init_loop(hw:w<t.nodes.length)(hv:(v:Int)∈(nd t w).kids)(hk:(nd t v).k=43):(nd t w).k=28:=(Yg (Jcu g hw hv)).2.1 (by rw[hk];rfl)
theorem JeZ{i m s:Nat}(hs:s<t.nodes.length)(Bo:(nd t s).k=41)(hm:(m:Int)∈(nd t s).kids)(Cv:(nd t m).k=42)(AO:inS t o (m:Int) i)(hi:i<t.nodes.length)(hx:blw o x (Jh t s))(hv:v<t.nodes.length)(Cu:(nd t v).k=43)(OW:v<x)(Pz:blw o x (Kg t v).toNat)(A9:¬fs o ((Jh t s:Nat):Int)<=(v:Int)):v<i/\blw o i (Kg t v).toNat:=by
 obtain⟨b1,b2,b3,b4⟩:=Kr g hs Bo;have Bd:=Jt g hs (i:=(nd t s).kids.length-1) om;change ((Jh t s:Nat):Int)∈(nd t s).kids/\_ at Bd;obtain⟨w,w1,w2,w3,w4⟩:=Ql g hv om;rw[w1,Ga]at Pz|-;obtain⟨u,a,hu,ha,D5,hd⟩:=AO;have Ug:=JC g hu ha;have O1:(s:Int)∈(nd t u).kids/\((nd t u).k=40\/(nd t u).k=28/\(nd t a).k≠43):=by
  have same:∀s':Nat,(s':Int)∈(nd t u).kids->(m:Int)∈(nd t s').kids->(s:Int)∈(nd t u).kids:=λs' h1 h2=>by
   have h3:=(JC g hu h1).2;have h4:=(JC g (show s' < t.nodes.length by omega) h2).1;have h5:=(JC g hs hm).1;obtain rfl:s'=s:=om
   exact h1
  rcases (KS g hu).1 hd with ⟨h1,s',h2,h3,h4,h5⟩|⟨h1,h2,h3⟩|⟨h1,h2,h3⟩|⟨h1,h2,h3⟩
  ·exact⟨same s' h2 h4,.inl h1⟩
  ·omega
  ·subst h3;omega
  ·rcases h3 with ⟨h3,h4⟩|⟨_,s',h3,h4,h5,h6⟩
   ·omega
   ·exact⟨same s' h3 h5,.inr ⟨h1,h2⟩⟩
 obtain⟨O1,Ic⟩:=O1;have iI:=(JC g hu O1).2;have gX:blw o (Jh t s) w:=by
  have h1:=hx.1;have h2:=hx.2;have h3:=Pz.1;have h4:=Pz.2
  rcases Nat.lt_or_ge (Jh t s) w with h5|h5
  ·refine anO ?_;have:=g.ord.nest w x (by rw[Kj];exact w2) om h4 om;omega
  ·exfalso;have h6:=g.ord.nest (Jh t s) w (by rw[Kj];omega) om om om;have h7:=(KE g w2 w4).2;omega
 have UH:=(KE g w2 w4).2;have MU:Jh t s≠w:=λhe=>A9 (by rw[he];exact UH)
 obtain⟨m1,p1,_,_,p4,_⟩:=Xt g w2 gX MU;have p5:=(JC g hs Bd.1).1;obtain rfl:m1=s:=om
 have MO:=init_loop g w2 w4 Cu;obtain⟨m2,q1,_,_,q4,_⟩:=Xt g w2 p4 (λhe=>by rw[he]at Bo;omega);have q5:=(JC g hu O1).1;obtain rfl:m2=u:=om
 have aZ:=Kw g hu D5 (KE g hu ha);by_cases ah:m2=w
 ·subst ah;rcases Ic with h|⟨_,h⟩
  ·omega
  ·exact⟨Jb3 g hu w4 ha D5 (λhe=>by subst he;exact h Cu) (JaX g hu MO w4 Cu ha h),aZ⟩
 ·rcases JbN g w2 q4 with h|⟨a',AX,Rh⟩
  ·exact absurd h ah
  ·have kV:x<=a':=by have:=hx.1;have:=Rh.1;omega
   exact⟨Jb3 g w2 w4 AX (Kw g (show a' < t.nodes.length by have:=(JC g w2 AX).2;omega) aZ Rh) om om,Kw g w2 aZ q4⟩
theorem Yb {S:FS}{s:Nat}(h:FI t S)(hs:s<t.nodes.length)(hk:(nd t s).k=41):FI t (J4 t s S)/\FG t S (J4 t s S)/\((J4 t s S).bad=none->J2 (J4 t s S).fd s=true)/\(J4 t s S).dn=S.dn:=by
 have MH:(J4 t s S).dn=S.dn:=by
  unfold J4;simp only
  split
  ·rfl
  ·unfold FS.fail;split <;> rfl
 cases hf:J2 S.fd s with
 |false=>obtain⟨h1,h2,h3⟩:=settle_ok g h hs hk hf;exact⟨h1,h2,h3,MH⟩
 |true=>
  obtain⟨b1,b2,b3,b4⟩:=Kr g hs hk;obtain⟨_,_,q3,q4⟩:=h.fnd s hf;have e:J4 t s S = { S with got:=Ja6 t s (JE S.got (Jh t s)) S.got (nB t s),fd:=XX s true S.fd }:=by unfold J4;simp only;rw[if_pos (show (JE S.got (Jh t s)).length=(nd t s).n.toNat from q3)];rfl
  have AO:∀k,(nd t (JH t s k)).kids=[]->k<nB t s->JH t s k<S.got.length:=λk _ Am=>by have:=(b2 k Am).2;rw[h.gl];omega
  have DZ:∀k j,k<nB t s->j<nB t s->JH t s k=JH t s j->k=j:=λk j h1 h2 he=>kid_inj g hs om om he
  have AP:∀j,JE (Ja6 t s (JE S.got (Jh t s)) S.got (nB t s)) j=JE S.got j:=λj=>by
   by_cases hx:∃k,k<nB t s/\(nd t (JH t s k)).kids=[]/\JH t s k=j
   ·obtain⟨k,Am,hb,rfl⟩:=hx;rw[JhZ AO DZ (nB t s) (Gd _) k Am hb,q4 k Am hb]
   ·exact JcV _ λk Am hb he=>hx ⟨k,Am,hb,he⟩
  have M8:∀u,J2 (XX s true S.fd) u=J2 S.fd u:=λu=>by
   rw[Xn]
   split
   ·rename_i he;rw[he,hf]
   ·rfl
  rw[e];exact⟨h.ext (JaQ _) rfl AP (λ_=>rfl) M8,FG.ext AP (λ_=>rfl) M8 (λ_=>rfl) (λ_=>rfl),λ_=>by rw[M8];exact hf,rfl⟩
omit g in
theorem FM.same {t:Tr}{o:Lu}{S:FS}(h:FM t o S)(hg:FG t S S')(hd:S'.dn=S.dn):FM t o S':=h.step hg λi _ _ h1 h2=>by rw[hd,h2]at h1;cases h1
theorem Jb6(Bj:GoOk t o f go){S:FS}{i m s:Nat}(hI:FI t S)(hM:FM t o S)(hi:i<t.nodes.length)(hP:Jgn t o S i)(hu:uf t S<f+1)(hs:s<t.nodes.length)(Bo:(nd t s).k=41)(hm:(m:Int)∈(nd t s).kids)(Cv:(nd t m).k=42)(AO:inS t o (m:Int) i) :
  FI t (Xh t o go s i S)/\FM t o (Xh t o go s i S)/\FG t S (Xh t o go s i S)/\((Xh t o go s i S).bad=none->J2 (Xh t o go s i S).fd s=true):=by
 unfold Xh
 cases Mk:J2 S.fg s with
 |true=>
  rw[if_pos rfl];obtain⟨f1,f2,f3⟩:=hI.fail i;have hd:(S.fail i).dn=S.dn:=by unfold FS.fail;split <;> rfl
  exact⟨f1,hM.same f2 hd,f2,λhb=>by rw[hb]at f3;cases f3⟩
 |false=>
  rw[if_neg sM];simp only;obtain⟨b1,b2,b3,b4⟩:=Kr g hs Bo;have Ef:Jh t s<t.nodes.length:=om
  have bD:=Jgk g (a:=Jh t s) Ef;have FB:FI t { S with fg:=XX s true S.fg }:=⟨hI.gl,hI.dl,hI.emp,hI.unf,hI.fnd,hI.fine,hI.ini,hI.typ⟩;have OZ:=JeS hs Mk;obtain⟨a,ha⟩:∃a:Nat,fs o ((Jh t s:Nat):Int)=a:=⟨(fs o ((Jh t s:Nat):Int)).toNat,om⟩;rw[ha,Ga];have El:=Jai Bj FB (S:={ S with fg:=XX s true S.fg }) (show FM t o _ from hM) om (a:=a) (m:=Jh t s+1-a) om (λS' j MF hj Bw hb=>?_) _ (Gd _)
  ·generalize (KW a (Jh t s+1-a)).foldl go { S with fg:=XX s true S.fg }=S1 at El|-;obtain⟨q1,q2,q3,q4⟩:=El;have Al:=Yb g (S:=S1) q1 hs Bo;have h2:FI t (if S1.bad.isSome=true then S1 else J4 t s S1)/\FM t o (if S1.bad.isSome=true then S1 else J4 t s S1)/\FG t S1 (if S1.bad.isSome=true then S1 else J4 t s S1)/\((if S1.bad.isSome=true then S1 else J4 t s S1).bad=none->J2 (if S1.bad.isSome=true then S1 else J4 t s S1).fd s=true):=by
    split
    ·rename_i hb;exact⟨q1,q2,.refl,λh=>by rw[h]at hb;cases hb⟩
    ·exact⟨Al.1,q2.same Al.2.1 Al.2.2.2,Al.2.1,Al.2.2.1⟩
   generalize (if S1.bad.isSome=true then S1 else J4 t s S1)=S2 at h2|-;obtain⟨r1,r2,r3,r4⟩:=h2;have Ak:=q3.trans r3;refine⟨⟨r1.gl,r1.dl,r1.emp,r1.unf,r1.fnd,r1.fine,r1.ini,r1.typ⟩,r2,⟨Ak.keep,Ak.dn,Ak.dk,Ak.fd,λx=>?_,Ak.bad⟩,r4⟩;rw[Xn]
   split
   ·rename_i he;rw[he,Mk]
   ·rename_i he;rw[Ak.fg x,Xn,if_neg he]
  ·have Bt:=Bw hb;have Rn:blw o (a+j) (Jh t s):=⟨om,om⟩;have Ab:a+j<t.nodes.length:=om
   refine⟨λc hc=>?_,λv hv Cu OW Pz=>?_⟩
   ·have FX:=Kw g Ef (KE g Ab hc) Rn;have Ar:=(JC g Ab hc).2;have BU:=FX.2;have:=Bt (c-a) om;rw[show a+(c-a)=c by omega]at this;exact this
   ·by_cases Pq:fs o ((Jh t s:Nat):Int)<=(v:Int)
    ·have:=Bt (v-a) om;rw[show a+(v-a)=v by omega]at this;exact this
    ·obtain⟨h1,h2⟩:=JeZ g hs Bo hm Cv AO hi Rn hv Cu OW Pz Pq;have cz:S.bad=none:=show ({ S with fg:=XX s true S.fg }:FS).bad=none from JiC MF hb
     exact MF.dn v ((hP cz).2 v hv Cu h1 h2)
omit g in
theorem JhN {m i:Nat}(h:Xa t m got i=some l):(X6 t i->l=[])/\((nd t i).k=43->l.length=1)/\((nd t i).k=42->(nd t i).kids≠[]->l=[tyN t (JH t i 0)]):=by
 refine⟨λhb=>?_,λhk=>?_,λhk hn=>?_⟩
 ·unfold Xa at h;simp only[hb.1,hb.2]at h;simpa using h.symm
 ·unfold Xa at h;simp only[hk]at h;simp at h;obtain⟨h1,h2⟩:=h;rw[<-h2];exact h1
 ·unfold Xa at h;simp only[hk]at h;simp[hn]at h;exact h.symm
omit g in
theorem Jhb {S:FS}{i j:Nat}{r:Option TL}(hj:j≠i):(S.fin i r).dn.getD j false=S.dn.getD j false:=by
 unfold FS.fin FS.fail
 cases r with
 |none=>simp only;split <;> rfl
 |some l=>
  simp only
  split
  ·rfl
  ·split
   ·simp only[Gb,Gw];rw[if_neg (λh=>hj h.symm)]
   ·rfl
omit g in
theorem fin_new {S:FS}{i:Nat}(hd:S.dn.getD i false=false)(hn:(S.fin i (some l)).dn.getD i false=true):S.bad=none/\(i<S.got.length->l≠[]->JE (S.fin i (some l)).got i=l):=by
 unfold FS.fin FS.fail at hn|-;simp only at hn|-
 split at hn
 ·rw[hd]at hn;cases hn
 ·rename_i hb;have ET:S.bad=none:=by cases h:S.bad with|none=>rfl|some x=>rw[h]at hb;exact absurd rfl hb
  split at hn
  ·rename_i hf;refine⟨ET,λhl he=>?_⟩;rw[if_neg hb,if_pos hf];simp only;rw[if_neg he,Jae hl,if_pos rfl]
  ·simp only at hn;rw[hd]at hn;cases hn
omit g in
theorem fin_again {S:FS}{i:Nat}(hI:FI t S)(hM:FM t o S)(hi:i<t.nodes.length)(hd:S.dn.getD i false=true)(hl:JE S.got i=l):FI t (S.fin i (some l))/\FM t o (S.fin i (some l))/\FG t S (S.fin i (some l))/\(S.fin i (some l)).dn.getD i false=true/\∀j,(S.fin i (some l)).dn.getD j false=S.dn.getD j false:=by
 have AB:Yq l=true:=by rw[<-hl];exact hI.fine i
 unfold FS.fin;simp only
 split
 ·exact⟨hI,hM,.refl,hd,λ_=>rfl⟩
 ·rename_i hb;have h3:∀j,JE (if l=[] then S.got else S.got.set i l) j=JE S.got j:=λj=>by
   split
   ·rfl
   ·rw[Jae (by rw[hI.gl];exact hi)]
    split
    ·rename_i e;rw[e,hl]
    ·rfl
  have h4:∀j,(S.dn.set i true).getD j false=S.dn.getD j false:=λj=>by
   rw[JfF (by rw[hI.dl];exact hi)]
   split
   ·rename_i e;rw[e,hd]
   ·rfl
  have hg:FG t S { S with got:=if l=[] then S.got else S.got.set i l,dn:=S.dn.set i true }:=FG.ext h3 h4 (λ_=>rfl) (λ_=>rfl) (λh=>absurd h hb);exact⟨hI.ext (by simp only;split <;> simp) sM h3 h4 (λ_=>rfl),hM.step hg λj _ _ q1 q2=>(by rw[h4]at q1;rw[q2]at q1;cases q1),hg,by simp only;rw[h4];exact hd,h4⟩
theorem Jaf (hE:(QO t o).2=0):∀f,GoOk t o f (doF t o (λi=>(JD t o i).toNat) f)
 |0=>λS i _ _ _ _ hu=>om
 |f+1=>λS i hI hM hi hP hu=>by
  unfold doF
  cases Dj:(S.bad.isSome || S.dn.getD i false) with
  |true=>rw[if_pos rfl];refine⟨hI,hM,.refl,λhb=>?_⟩;rw[hb]at Dj;simpa using Dj
  |false=>
   rw[if_neg sM];obtain⟨DF,EG⟩:=Gr.1 Dj;have ET:S.bad=none:=by cases h:S.bad with|none=>rfl|some x=>rw[h]at DF;cases DF
   by_cases h3:(nd t i).k=3
   ·rw[if_pos h3];simp only;obtain⟨IA,BZ,Ow,_,Pk⟩:=YQ g hE hi h3;obtain⟨m,hm⟩:∃m:Nat,JD t o i=m:=⟨(JD t o i).toNat,om⟩;rw[hm]at IA Ow Pk|-;rw[Ga]at Pk|-;have Ct:m<t.nodes.length:=om
    have AO:inS t o (m:Int) i:=((Jc1 g hi).1 IA).2;have Iy:¬X6 t i:=λh=>by have:=h.1;omega
    have fin3:∀(S':FS) (l:TL),FI t S'->FM t o S'->FG t S S'->l=JiF t S' m->(S'.bad=none->l≠[])->FI t (S'.fin i (some l))/\FM t o (S'.fin i (some l))/\FG t S (S'.fin i (some l))/\((S'.fin i (some l)).bad=none->(S'.fin i (some l)).dn.getD i false=true):=λS' l q1 q2 q3 hl Ag=>by
     cases hd:S'.dn.getD i false with
     |false=>
      obtain⟨r1,r2,r3⟩:=Jha g (r:=some l) q1 hi hd λl' _=>⟨λh=>absurd h Iy,λh=>om,λh=>om⟩
      refine⟨r1,q2.step r2 λj hj hk Bt CX m' eB=>?_,q3.trans r2,r3⟩;by_cases FL:j=i
      ·subst FL;obtain rfl:m=m':=om
       obtain⟨n1,n2⟩:=fin_new hd Bt;have MU:=Ag n1;have h5:JiF t S' m≠[]:=by rw[<-hl];exact MU
       rw[valN_keep r2 h5];exact⟨by rw[n2 (by rw[q1.gl];exact hi) MU,hl],h5⟩
      ·rw[Jhb FL,CX]at Bt;cases Bt
     |true=>obtain⟨h5,h6⟩:=q2 i hi h3 hd m hm;obtain⟨r1,r2,r3,r4,_⟩:=fin_again (o:=o) q1 q2 hi hd (h5.trans hl.symm);exact⟨r1,r2,q3.trans r3,λ_=>r4⟩
    have Cv:(nd t m).k=47\/(nd t m).k=64\/(nd t m).k=42\/((nd t m).k=43/\m<i/\blw o i (Kg t m).toNat):=by
     obtain⟨u,a,hu,ha,D5,hd⟩:=AO;have Ug:=JC g hu ha;rcases (KS g hu).1 hd with ⟨_,s',h2,BO,h4,h5⟩|⟨h1,h2,BO⟩|⟨h1,h2,BO⟩|⟨h1,h2,BO⟩
     ·exact .inr (.inr (.inl h5))
     ·exact .inr (.inl BO)
     ·exact .inl (by rw[BO];exact h1)
     ·rcases BO with ⟨BO,h4⟩|⟨_,s',BO,h4,h5,h6⟩
      ·have aI:=(JC g hu BO).1;refine .inr (.inr (.inr ⟨h4,?_,by rw[aI,Ga];exact Kw g hu D5 (KE g hu ha)⟩));exact Jb3 g hu BO ha D5 (λhe=>by subst he;exact h2 h4) (JaX g hu h1 BO h4 ha h2)
      ·exact .inr (.inr (.inl h6))
    have BA:(nd t m).k=42->∃s k:Nat,(Kg t m)=s/\s<t.nodes.length/\(nd t s).k=41/\(m:Int)∈(nd t s).kids/\k<nB t s/\JH t s k=m:=λCk=>by
     obtain⟨s,s1,s2,s3,s4⟩:=Ql g Ct om;have Bo:=(Yg (Jcu g s2 s4)).2.2.1 (by rw[Ck];rfl);obtain⟨b1,b2,b3,b4⟩:=Kr g s2 Bo;obtain⟨k,hk,Ig,_⟩:=JbB s4;refine⟨s,k,s1,s2,Bo,s4,?_,Ig⟩;refine Gs λCn=>?_
     obtain rfl:k=(nd t s).kids.length-1:=om
     have:Jh t s=m:=Ig;rw[this]at b3;omega
    have Mi:∀S':FS,FI t S'->(nd t m).k=42->(nd t m).kids=[]->J2 S'.fd (Kg t m).toNat=true->JE S'.got m≠[]:=λS' q1 Ck DY hf=>by obtain⟨s,k,s1,s2,s3,s4,s5,s6⟩:=BA Ck;rw[s1,Ga]at hf;have:=(q1.fnd s hf).2.2.2 k s5 (by rw[s6];exact DY);rw[s6]at this;rw[this];simp
    unfold JbI;by_cases Bp:(nd t m).k=47
    ·rw[if_pos Bp];exact fin3 S _ hI hM .refl (by unfold JiF;rw[if_pos Bp]) λ_=>sM
    rw[if_neg Bp];by_cases BV:(nd t m).k=64\/(nd t m).k=42/\(nd t m).kids≠[]
    ·rw[if_pos BV];exact fin3 S _ hI hM .refl (by unfold JiF;rw[if_neg Bp,if_pos BV]) λ_=>sM
    rw[if_neg BV];by_cases Cg:(nd t m).k=42/\J2 S.fd (Kg t m).toNat=false
    ·rw[if_pos Cg];simp only;obtain⟨s,k,s1,s2,s3,s4,s5,s6⟩:=BA Cg.1;have DY:(nd t m).kids=[]:=Gt λh=>BV (.inr ⟨Cg.1,h⟩)
     rw[s1,Ga];obtain⟨q1,q2,q3,q4⟩:=Jb6 g (Jaf hE f) hI hM hi hP hu s2 s3 s4 Cg.1 AO;refine fin3 _ _ q1 q2 q3 (by unfold JiF;rw[if_neg Bp,if_neg BV]) λhb=>Mi _ q1 Cg.1 DY (by rw[s1,Ga];exact q4 hb)
    ·rw[if_neg Cg];refine fin3 S _ hI hM .refl (by unfold JiF;rw[if_neg Bp,if_neg BV]) λ_=>?_
     rcases Cv with h|h|h|⟨h,h1,h2⟩
     ·exact absurd h Bp
     ·exact absurd (.inl h) BV
     ·refine Mi S hI h (Gt λhx=>BV (.inr ⟨h,hx⟩)) ?_
      cases hx:J2 S.fd (Kg t m).toNat with
      |true=>rfl
      |false=>exact absurd ⟨h,hx⟩ Cg
     ·intro he;have:=hI.ini m Ct ((hP ET).2 m Ct h h1 h2) h;rw[he]at this;simp at this
   ·rw[if_neg h3];by_cases AQ:(nd t i).k=41
    ·rw[if_pos AQ];simp only;have hS:FI t (Y9 t i S)/\FG t S (Y9 t i S)/\(Y9 t i S).dn=S.dn:=by
      unfold Y9
      split
      ·exact⟨hI,.refl,rfl⟩
      ·have:=Yb g hI hi AQ;exact⟨this.1,this.2.1,this.2.2.2⟩
     obtain⟨q1,q2,q3⟩:=hS;have kC:=hM.same q2 q3;obtain⟨r1,r2,r3⟩:=Jha g (r:=if Y1 t i (JE (Y9 t i S).got (Jh t i))=true then some [] else none) q1 hi (by rw[q3];exact EG) λl hl=>by
      split at hl
      ·cases hl;exact⟨λ_=>rfl,λh=>om,λh=>om⟩
      ·cases hl
     refine⟨r1,kC.step r2 λj hj hk Bt CX=>?_,q2.trans r2,r3⟩;rw[Jhb (λh=>by subst h;omega),CX]at Bt;cases Bt
    ·rw[if_neg AQ];obtain⟨r1,r2,r3⟩:=Jha g (r:=Xa t (JD t o i).toNat S.got i) hI hi EG λl hl=>JhN hl
     refine⟨r1,hM.step r2 λj hj hk Bt CX=>?_,r2,r3⟩;rw[Jhb (λh=>by subst h;omega),CX]at Bt;cases Bt
theorem Jid (hE:(QO t o).2=0):∀k,k<=t.nodes.length->FI t ((KW 0 k).foldl (doF t o (λi=>(JD t o i).toNat) (t.nodes.length+1)) (FS.start t))/\FM t o ((KW 0 k).foldl (doF t o (λi=>(JD t o i).toNat) (t.nodes.length+1)) (FS.start t))/\FG t (FS.start t) ((KW 0 k).foldl (doF t o (λi=>(JD t o i).toNat) (t.nodes.length+1)) (FS.start t))/\(((KW 0 k).foldl (doF t o (λi=>(JD t o i).toNat) (t.nodes.length+1)) (FS.start t)).bad=none->∀j,j<k->((KW 0 k).foldl (doF t o (λi=>(JD t o i).toNat) (t.nodes.length+1)) (FS.start t)).dn.getD (0+j) false=true):=by
 have FP:∀j,JE (FS.start t).got j=[]:=λj=>by
  unfold FS.start JE;simp only[Gb,Gp]
  split <;> rfl
 have EG:∀j,(FS.start t).dn.getD j false=false:=λj=>by
  unfold FS.start;simp only[Gb,Gp]
  split <;> rfl
 refine Jai (Jaf g hE (t.nodes.length+1)) ⟨by simp[FS.start],by simp[FS.start],λi _ _=>FP i,λs _ _ _ k _ _=>FP _,λs h=>by simp[FS.start,J2]at h,λi=>by rw[FP];rfl,λi _ h=>(by rw[EG]at h;cases h),λi _ h=>(by rw[EG]at h;cases h)⟩ (λi _ _ h=>by rw[EG]at h;cases h) ?_ om λS' j MF hj Bw hb=>?_
 ·unfold uf;have:=GA (λs=>!J2 (FS.start t).fg s) (Gc t.nodes.length);rw[GD]at this;omega
 ·have Bt:=Bw hb;refine⟨λc hc=>?_,λv hv Cu OW _=>?_⟩
  ·have Ar:=(JC g (show 0+j<t.nodes.length by omega) hc).2;have:=Bt c om;rw[Gm]at this;exact this
  ·have:=Bt v om;rw[Gm]at this;exact this
end
theorem JgD{m i:Nat}{got':List TL}(h1:∀j,j<(nd t i).kids.length->JE got' (JH t i j)=JE got (JH t i j))(h2:(nd t i).k=29->∀j,1<=j->j<(nd t i).kids.length->JE got' (Jh t (JH t i j))=JE got (Jh t (JH t i j)))(h3:(nd t i).k=44->JE got' m=JE got m):Xa t m got' i=Xa t m got i:=by
 have hK:∀j,(if j<(nd t i).kids.length then JE got' (JH t i j) else [])=if j<(nd t i).kids.length then JE got (JH t i j) else []:=λj=>by
  split
  ·rename_i h;exact h1 j h
  ·rfl
 have hL:(nd t i).k=29->∀j,Jcz t got' i (j+1)=Jcz t got i (j+1):=λhk j=>by
  unfold Jcz
  split
  ·rename_i h;exact h2 hk (j+1) om h
  ·rfl
 unfold Xa;simp only[hK];by_cases e1:(nd t i).k=29
 ·have fQ:Jcz t got' i 1=Jcz t got i 1:=hL e1 0;simp only[e1,hL e1];simp
 ·by_cases e2:(nd t i).k=44
  ·simp only[e2,h3 e2];simp
  ·simp only[if_neg e1,if_neg e2]
structure FR (t:Tr)(o:Lu)(S:FS):Prop where
 clo:∀i,i<t.nodes.length->S.dn.getD i false=true->∀c:Nat,(c:Int)∈(nd t i).kids->S.dn.getD c false=true
 rule:∀i,i<t.nodes.length->S.dn.getD i false=true->(nd t i).k≠3->(nd t i).k≠41->∃l,Xa t (JD t o i).toNat S.got i=some l/\(¬X6 t i->JE S.got i=l)
 sets:∀s,s<t.nodes.length->S.dn.getD s false=true->(nd t s).k=41->J2 S.fd s=true/\Y1 t s (JE S.got (Jh t s))=true
section
variable(g:GoodT t o)
include g
theorem JgV {i:Nat}(hi:i<t.nodes.length):lets t.nodes (nd t i)=Qo (nd t i).k (lets t.nodes (nd t i)):=by have hn:=g.nds (nd t i) (by unfold nd;rw[Gb,Gf hi];exact Gi hi);unfold ndI Kb at hn;simp only[Gz,beq_iff_eq]at hn;exact hn.1.1.1.2
theorem let_get {i j:Nat}(hi:i<t.nodes.length)(hj:j<(nd t i).kids.length):(lets t.nodes (nd t i))[j]? = some (Jdo (nd t (JH t i j)).k):=by have hm:=Jt g hi hj;unfold lets;rw[List.getElem?_map,Gf hj,Option.map_some,hm.2.2,Gb,Gf hj];rfl
theorem kids_two {i:Nat}(hi:i<t.nodes.length)(hk:4<=(nd t i).k/\(nd t i).k<=18):(nd t i).kids.length=2:=by have h:=JgV g hi;have hl:=congrArg Gg h;rw[KP]at hl;unfold Qo at hl;rw[if_pos hk]at hl;exact hl
theorem Jc8 {i:Nat}(hi:i<t.nodes.length)(hk:(19<=(nd t i).k/\(nd t i).k<=25)\/(nd t i).k=43\/(nd t i).k=44\/(62<=(nd t i).k/\(nd t i).k<=64)):(nd t i).kids.length=1:=by
 have h:=JgV g hi;have hl:=congrArg Gg h;rw[KP]at hl;unfold Qo at hl;rw[iN7]at hl;by_cases h2:(19<=(nd t i).k/\(nd t i).k<=24)\/(nd t i).k=43\/(nd t i).k=44
 ·rw[if_pos h2]at hl;exact hl
 ·rw[if_neg h2,iP7]at hl;exact hl
theorem kids_if {i:Nat}(hi:i<t.nodes.length)(hk:(nd t i).k=27):(nd t i).kids.length=3:=by have h:=JgV g hi;have hl:=congrArg Gg h;rw[KP]at hl;unfold Qo at hl;rw[hk]at hl;simpa using hl
theorem JcX {i j:Nat}(hi:i<t.nodes.length)(hk:(nd t i).k=29)(hj:1<=j)(Ba:j<(nd t i).kids.length):(nd t (JH t i j)).k=46\/(nd t (JH t i j)).k=47:=by
 have h:=JgV g hi;have hg:=let_get g hi Ba;rw[h]at hg;unfold Qo at hg;rw[hk]at hg;simp only at hg;rw[iN7,iN7,iN7,iN7,iN7,iN7,if_pos trivial,List.getElem?_append_right (by simpa using hj),Gp]at hg
 split at hg
 ·have MM:=(Option.some.inj hg).symm;unfold Jdo letter at MM;by_cases a1:1<=(nd t (JH t i j)).k/\(nd t (JH t i j)).k<=29
  ·rw[if_pos a1]at MM;exact absurd MM vk
  rw[if_neg a1]at MM;by_cases a2:60<=(nd t (JH t i j)).k/\(nd t (JH t i j)).k<=63
  ·rw[if_pos a2]at MM;exact absurd MM vk
  rw[if_neg a2]at MM;by_cases a3:(nd t (JH t i j)).k=46\/(nd t (JH t i j)).k=47
  ·exact a3
  exfalso;rw[if_neg a3]at MM
  repeat' (split at MM)
  all_goals exact absurd MM vk
 ·cases hg
theorem JcW(hu:u<t.nodes.length)(hk:(nd t u).k=46\/(nd t u).k=47):0<(nd t u).kids.length/\(1<=(nd t (Jh t u)).k/\(nd t (Jh t u)).k<=29)/\Jh t u<u:=by
 have h:=JgV g hu;have hl:=congrArg Gg h;rw[KP]at hl;have Ad:(nd t u).kids.length=2\/(nd t u).kids.length=3:=by unfold Qo at hl;rcases hk with hk|hk <;> rw[hk]at hl <;> simp at hl <;> omega
 have hm:=Jt g hu (i:=(nd t u).kids.length-1) om;have hg:=let_get g hu (j:=(nd t u).kids.length-1) om;refine⟨om,Jbz ?_,hm.2.1⟩;rw[h]at hg;unfold Qo at hg;rcases hk with hk|hk
 ·rw[hk]at hl hg;simp[Qo]at hl hg;rw[hl]at hg;simp at hg;show Jdo (nd t (JH t u ((nd t u).kids.length-1))).k=101;rw[hl];exact hg.symm
 ·rw[hk]at hl hg;simp[Qo]at hl hg;rw[hl]at hg;simp at hg;show Jdo (nd t (JH t u ((nd t u).kids.length-1))).k=101;rw[hl];exact hg.symm
theorem kid_nb {i c:Nat}(hi:i<t.nodes.length)(hk:(nd t i).k≠41)(hc:(c:Int)∈(nd t i).kids):¬X6 t c:=λhb=>hk ((Yg (Jcu g hi hc)).2.2.1 (by rw[hb.1];rfl))
theorem rule_keep{S:FS}{i:Nat}(h:FR t o S)(hg:FG t S S')(hi:i<t.nodes.length)(hk:(nd t i).k≠41)(hd:∀c:Nat,(c:Int)∈(nd t i).kids->S.dn.getD c false=true)(hl:Xa t (JD t o i).toNat S.got i=some l):Xa t (JD t o i).toNat S'.got i=some l:=by
 rw[<-hl];refine JgD (λj hj=>?_) (λOT j dK hj=>?_) (λBC=>?_)
 ·have hm:=(Jt g hi hj).1;exact hg.dk _ (hd _ hm) (kid_nb g hi hk hm)
 ·have hm:=Jt g hi hj;have Ab:JH t i j<t.nodes.length:=om
  obtain⟨p1,p2,p3⟩:=JcW g Ab (JcX g hi OT dK hj);have BZ:=Jt g Ab (i:=(nd t (JH t i j)).kids.length-1) om;exact hg.dk _ (h.clo _ Ab (hd _ hm.1) _ BZ.1) λhb=>by have:=hb.1;omega
 ·have h1:(JE S.got (JD t o i).toNat).length=1:=by unfold Xa at hl;simp only[BC]at hl;simp at hl;exact hl.1.1
  exact hg.keep _ λhe=>by rw[he]at h1;simp at h1
theorem JeD {s:Nat}(hs:s<t.nodes.length)(hk:(nd t s).k=41):((Jh t s:Nat):Int)∈(nd t s).kids:=by obtain⟨b1,_⟩:=Kr g hs hk;exact(Jt g hs (i:=(nd t s).kids.length-1) om).1
theorem FR.step{S:FS}(h:FR t o S)(hg:FG t S S')(hn:∀i,i<t.nodes.length->S'.dn.getD i false=true->S.dn.getD i false=false->(∀c:Nat,(c:Int)∈(nd t i).kids->S'.dn.getD c false=true)/\((nd t i).k≠3->(nd t i).k≠41->∃l,Xa t (JD t o i).toNat S'.got i=some l/\(¬X6 t i->JE S'.got i=l))/\((nd t i).k=41->J2 S'.fd i=true/\Y1 t i (JE S'.got (Jh t i))=true)):FR t o S':=by
 refine⟨λi hi hd c hc=>?_,λi hi hd h3 AQ=>?_,λi hi hd AQ=>?_⟩
 ·cases hs:S.dn.getD i false with
  |false=>exact(hn i hi hd hs).1 c hc
  |true=>exact hg.dn c (h.clo i hi hs c hc)
 ·cases hs:S.dn.getD i false with
  |false=>exact(hn i hi hd hs).2.1 h3 AQ
  |true=>obtain⟨l,h1,h2⟩:=h.rule i hi hs h3 AQ;exact⟨l,rule_keep g h hg hi AQ (h.clo i hi hs) h1,λhb=>(hg.dk i hs hb).trans (h2 hb)⟩
 ·cases hs:S.dn.getD i false with
  |false=>exact(hn i hi hd hs).2.2 AQ
  |true=>obtain⟨h1,h2⟩:=h.sets i hi hs AQ;obtain⟨b1,b2,b3,b4⟩:=Kr g hi AQ;refine⟨hg.fd i h1,?_⟩;rw[hg.dk (Jh t i) (h.clo i hi hs _ (JeD g hi AQ)) λhb=>by have:=hb.1;omega];exact h2
theorem FR.same{S:FS}(h:FR t o S)(hg:FG t S S')(hd:∀j,S'.dn.getD j false=S.dn.getD j false):FR t o S':=h.step g hg λi _ h1 h2=>by rw[hd,h2]at h1;cases h1
omit g in
theorem FR.fields{S:FS}(h:FR t o S)(h1:S'.got=S.got)(h2:S'.dn=S.dn)(h3:S'.fd=S.fd):FR t o S':=⟨by rw[h2];exact h.clo,by rw[h1,h2];exact h.rule,by rw[h1,h2,h3];exact h.sets⟩
omit g in
def GoR (t:Tr)(o:Lu)(f:Nat)(go:FS->Nat->FS):Prop:=∀S i,FI t S->FM t o S->FR t o S->i<t.nodes.length->Jgn t o S i->uf t S<f->FR t o (go S i)
omit g in
theorem Jdy(Bj:GoOk t o f go)(DT:GoR t o f go){S:FS}(hI:FI t S)(hM:FM t o S)(hR:FR t o S)(hu:uf t S<f){m:Nat}(Fx:a+m<=t.nodes.length)(hP:∀S' j,FG t S S'->j<m->(S'.bad=none->∀j',j' < j->S'.dn.getD (a+j') false=true)->Jgn t o S' (a+j)) :
  ∀k,k<=m->FR t o ((KW a k).foldl go S)
 |0,_=>hR
 |k+1,hk=>by obtain⟨h1,h2,h3,h4⟩:=Jai Bj hI hM hu Fx hP k om;have ih:=Jdy Bj DT hI hM hR hu Fx hP k om;rw[Jas,Gq];generalize (KW a k).foldl go S=S1 at *;exact DT S1 (a+k) h1 h2 ih om (hP S1 k h3 om h4) (by rw[uf_eq h3];exact hu)
theorem Jde {S:FS}{i m s:Nat}(hi:i<t.nodes.length)(hP:Jgn t o S i)(hs:s<t.nodes.length)(Bo:(nd t s).k=41)(hm:(m:Int)∈(nd t s).kids)(Cv:(nd t m).k=42)(AO:inS t o (m:Int) i)(ha:fs o ((Jh t s:Nat):Int)=a):∀S' j,FG t { S with fg:=XX s true S.fg } S'->j<Jh t s+1-a->(S'.bad=none->∀j',j' < j->S'.dn.getD (a+j') false=true)->Jgn t o S' (a+j):=λS' j MF hj Bw hb=>by
 obtain⟨b1,b2,b3,b4⟩:=Kr g hs Bo;have Ef:Jh t s<t.nodes.length:=om
 have Bt:=Bw hb;have Rn:blw o (a+j) (Jh t s):=⟨om,om⟩;have Ab:a+j<t.nodes.length:=om
 refine⟨λc hc=>?_,λv hv Cu OW Pz=>?_⟩
 ·have FX:=Kw g Ef (KE g Ab hc) Rn;have Ar:=(JC g Ab hc).2;have BU:=FX.2;have:=Bt (c-a) om;rw[show a+(c-a)=c by omega]at this;exact this
 ·by_cases Pq:fs o ((Jh t s:Nat):Int)<=(v:Int)
  ·have:=Bt (v-a) om;rw[show a+(v-a)=v by omega]at this;exact this
  ·obtain⟨h1,h2⟩:=JeZ g hs Bo hm Cv AO hi Rn hv Cu OW Pz Pq;have cz:S.bad=none:=show ({ S with fg:=XX s true S.fg }:FS).bad=none from JiC MF hb
   exact MF.dn v ((hP cz).2 v hv Cu h1 h2)
theorem force_fr(Bj:GoOk t o f go)(DT:GoR t o f go){S:FS}{i m s:Nat}(hI:FI t S)(hM:FM t o S)(hR:FR t o S)(hi:i<t.nodes.length)(hP:Jgn t o S i)(hu:uf t S<f+1)(hs:s<t.nodes.length)(Bo:(nd t s).k=41)(hm:(m:Int)∈(nd t s).kids)(Cv:(nd t m).k=42)(AO:inS t o (m:Int) i):FR t o (Xh t o go s i S):=by
 unfold Xh
 cases Mk:J2 S.fg s with
 |true=>
  rw[if_pos rfl];unfold FS.fail
  split
  ·exact hR
  ·exact hR.fields rfl rfl rfl
 |false=>
  rw[if_neg sM];simp only;obtain⟨b1,b2,b3,b4⟩:=Kr g hs Bo;have bD:=Jgk g (a:=Jh t s) om;have FB:FI t { S with fg:=XX s true S.fg }:=⟨hI.gl,hI.dl,hI.emp,hI.unf,hI.fnd,hI.fine,hI.ini,hI.typ⟩;have OZ:=JeS hs Mk;obtain⟨a,ha⟩:∃a:Nat,fs o ((Jh t s:Nat):Int)=a:=⟨(fs o ((Jh t s:Nat):Int)).toNat,om⟩;rw[ha,Ga];have Bb:=Jde g hi hP hs Bo hm Cv AO ha;have El:=Jai Bj FB (S:={ S with fg:=XX s true S.fg }) (show FM t o _ from hM) om (a:=a) (m:=Jh t s+1-a) om Bb _ (Gd _);have IV:=Jdy Bj DT FB (S:={ S with fg:=XX s true S.fg }) (show FM t o _ from hM) (hR.fields rfl rfl rfl) om (a:=a) (m:=Jh t s+1-a) om Bb _ (Gd _);generalize (KW a (Jh t s+1-a)).foldl go { S with fg:=XX s true S.fg }=S1 at El IV|-;obtain⟨q1,q2,q3,q4⟩:=El;refine FR.fields (S:=if S1.bad.isSome=true then S1 else J4 t s S1) ?_ rfl rfl rfl
  split
  ·exact IV
  ·have Al:=Yb g (S:=S1) q1 hs Bo;exact IV.same g Al.2.1 λj=>by rw[Al.2.2.2]
end
section
variable(g:GoodT t o)
include g
theorem Jaz (hE:(QO t o).2=0){i m:Nat}(hi:i<t.nodes.length)(h3:(nd t i).k=3)(hm:JD t o i=m):m<t.nodes.length/\inS t o (m:Int) i/\((nd t m).k=47\/(nd t m).k=64\/(nd t m).k=43\/((nd t m).k=42/\∃s k:Nat,Kg t m=s/\s<t.nodes.length/\(nd t s).k=41/\(m:Int)∈(nd t s).kids/\k<nB t s/\JH t s k=m)):=by
 obtain⟨IA,BZ,Ow,_,Pk⟩:=YQ g hE hi h3;rw[hm]at IA Ow Pk;rw[Ga]at Pk;have Ct:m<t.nodes.length:=om
 have AO:inS t o (m:Int) i:=((Jc1 g hi).1 IA).2;refine⟨Ct,AO,?_⟩;have Cv:(nd t m).k=47\/(nd t m).k=64\/(nd t m).k=43\/(nd t m).k=42:=by
  obtain⟨u,a,hu,ha,D5,hd⟩:=AO;rcases (KS g hu).1 hd with ⟨_,s',h2,BO,h4,h5⟩|⟨h1,h2,BO⟩|⟨h1,h2,BO⟩|⟨h1,h2,BO⟩
  ·exact .inr (.inr (.inr h5))
  ·exact .inr (.inl BO)
  ·exact .inl (by rw[BO];exact h1)
  ·rcases BO with ⟨BO,h4⟩|⟨_,s',BO,h4,h5,h6⟩
   ·exact .inr (.inr (.inl h4))
   ·exact .inr (.inr (.inr h6))
 rcases Cv with h|h|h|Ck
 ·exact .inl h
 ·exact .inr (.inl h)
 ·exact .inr (.inr (.inl h))
 ·obtain⟨s,s1,s2,s3,s4⟩:=Ql g Ct om;have Bo:=(Yg (Jcu g s2 s4)).2.2.1 (by rw[Ck];rfl);obtain⟨b1,b2,b3,b4⟩:=Kr g s2 Bo;obtain⟨k,hk,Ig,_⟩:=JbB s4;refine .inr (.inr (.inr ⟨Ck,s,k,s1,s2,Bo,s4,?_,Ig⟩));refine Gs λCn=>?_
  obtain rfl:k=(nd t s).kids.length-1:=om
  have:Jh t s=m:=Ig;rw[this]at b3;omega
theorem Jhe (hE:(QO t o).2=0):∀f,GoR t o f (doF t o (λi=>(JD t o i).toNat) f)
 |0=>λS i _ _ _ _ _ hu=>om
 |f+1=>λS i hI hM hR hi hP hu=>by
  unfold doF
  cases Dj:(S.bad.isSome || S.dn.getD i false) with
  |true=>rw[if_pos rfl];exact hR
  |false=>
   rw[if_neg sM];obtain⟨DF,EG⟩:=Gr.1 Dj;have ET:S.bad=none:=by cases h:S.bad with|none=>rfl|some x=>rw[h]at DF;cases DF
   have Cf:=(hP ET).1;by_cases h3:(nd t i).k=3
   ·rw[if_pos h3];simp only;obtain⟨m,hm⟩:∃m:Nat,JD t o i=m:=⟨(JD t o i).toNat,by have:=(YQ g hE hi h3).2.1;omega⟩;obtain⟨Ct,AO,Cv⟩:=Jaz g hE hi h3 hm;rw[hm,Ga];have Iy:¬X6 t i:=λh=>by have:=h.1;omega
    have fin3:∀(S':FS) (l:TL),FI t S'->FM t o S'->FR t o S'->FG t S S'->(S'.dn.getD i false=true->l=JiF t S' m)->FR t o (S'.fin i (some l)):=λS' l q1 q2 qr q3 hl=>by
     cases hd:S'.dn.getD i false with
     |false=>
      obtain⟨r1,r2,r3⟩:=Jha g (r:=some l) q1 hi hd λl' _=>⟨λh=>absurd h Iy,λh=>om,λh=>om⟩
      refine qr.step g r2 λj hj Bt CX=>?_
      by_cases FL:j=i
      ·subst FL;exact⟨λc hc=>r2.dn c (q3.dn c (Cf c hc)),λh=>absurd h3 h,λh=>om⟩
      ·rw[Jhb FL,CX]at Bt;cases Bt
     |true=>obtain⟨h5,h6⟩:=q2 i hi h3 hd m hm;obtain⟨_,_,r3,_,r5⟩:=fin_again (o:=o) q1 q2 hi hd (h5.trans (hl hd).symm);exact qr.same g r3 r5
    unfold JbI;by_cases Bp:(nd t m).k=47
    ·rw[if_pos Bp];exact fin3 S _ hI hM hR .refl λh=>by rw[EG]at h;cases h
    rw[if_neg Bp];by_cases BV:(nd t m).k=64\/(nd t m).k=42/\(nd t m).kids≠[]
    ·rw[if_pos BV];exact fin3 S _ hI hM hR .refl λh=>by rw[EG]at h;cases h
    rw[if_neg BV];by_cases Cg:(nd t m).k=42/\J2 S.fd (Kg t m).toNat=false
    ·rw[if_pos Cg];simp only;rcases Cv with h|h|h|⟨_,s,k,s1,s2,s3,s4,s5,s6⟩
     ·exact absurd h Bp
     ·exact absurd (.inl h) BV
     ·have:=Cg.1;omega
     ·rw[s1,Ga];obtain⟨q1,q2,q3,q4⟩:=Jb6 g (Jaf g hE f) hI hM hi hP hu s2 s3 s4 Cg.1 AO;have qr:=force_fr g (Jaf g hE f) (Jhe hE f) hI hM hR hi hP hu s2 s3 s4 Cg.1 AO;exact fin3 _ _ q1 q2 qr q3 λ_=>by unfold JiF;rw[if_neg Bp,if_neg BV]
    ·rw[if_neg Cg];exact fin3 S _ hI hM hR .refl λh=>by rw[EG]at h;cases h
   ·rw[if_neg h3];by_cases AQ:(nd t i).k=41
    ·rw[if_pos AQ];simp only;obtain⟨b1,b2,b3,b4⟩:=Kr g hi AQ;have hS:FI t (Y9 t i S)/\FG t S (Y9 t i S)/\(Y9 t i S).dn=S.dn/\((Y9 t i S).bad=none->J2 (Y9 t i S).fd i=true):=by
      unfold Y9
      split
      ·rename_i h;exact⟨hI,.refl,rfl,λ_=>h⟩
      ·have:=Yb g hI hi AQ;exact⟨this.1,this.2.1,this.2.2.2,this.2.2.1⟩
     obtain⟨q1,q2,q3,q4⟩:=hS;have hr:=Jha g (r:=if Y1 t i (JE (Y9 t i S).got (Jh t i))=true then some [] else none) q1 hi (by rw[q3];exact EG) λl hl=>by
      split at hl
      ·cases hl;exact⟨λ_=>rfl,λh=>om,λh=>om⟩
      ·cases hl
     have fE:=hR.same g q2 λj=>by rw[q3]
     generalize Y9 t i S=S1 at *
     cases Dk:Y1 t i (JE S1.got (Jh t i)) with
     |false=>
      rw[Dk,if_neg sM]at hr;rw[if_neg sM];refine fE.same g hr.2.1 λj=>?_
      unfold FS.fin FS.fail;simp only
      split <;> rfl
     |true=>
      rw[Dk,if_pos rfl]at hr;rw[if_pos rfl];refine fE.step g hr.2.1 λj hj Bt CX=>?_
      by_cases FL:j=i
      ·subst FL;refine⟨λc hc=>hr.2.1.dn c (by rw[q3];exact Cf c hc),λ_ h=>absurd AQ h,λ_=>⟨hr.2.1.fd j (q4 (fin_new CX Bt).1),?_⟩⟩;rw[hr.2.1.dk (Jh t j) (by rw[q3];exact Cf _ (JeD g hj AQ)) λhb=>by have:=hb.1;omega];exact Dk
      ·rw[Jhb FL,CX]at Bt;cases Bt
    ·rw[if_neg AQ];obtain⟨r1,r2,r3⟩:=Jha g (r:=Xa t (JD t o i).toNat S.got i) hI hi EG λl hl=>JhN hl
     cases hr:Xa t (JD t o i).toNat S.got i with
     |none=>
      rw[hr]at r2;refine hR.same g r2 λj=>?_
      unfold FS.fin FS.fail;simp only
      split <;> rfl
     |some l=>
      rw[hr]at r2;refine hR.step g r2 λj hj Bt CX=>?_
      by_cases FL:j=i
      ·subst FL;obtain⟨n1,n2⟩:=fin_new CX Bt;refine⟨λc hc=>r2.dn c (Cf c hc),λ_ _=>⟨l,rule_keep g hR r2 hj AQ Cf hr,λhb=>?_⟩,λh=>absurd h AQ⟩;by_cases hl:l=[]
       ·subst hl;have h0:=hI.emp j EG hb;unfold FS.fin FS.fail;simp only
        split
        ·exact h0
        ·split
         ·simp only[if_true];exact h0
         ·exact h0
       ·exact n2 (by rw[hI.gl];exact hj) hl
      ·rw[Jhb FL,CX]at Bt;cases Bt
end
def lisT (t:Tr)(τ:Nat->TL):List TL:=(Gc t.nodes.length).map τ
theorem YD{i:Nat}(h:i<t.nodes.length):JE (lisT t τ) i=τ i:=by unfold JE lisT;simp[Gb,h]
def valT (t:Tr)(τ:Nat->TL)(m:Nat):TL:=if (nd t m).k=47 then [.int] else if (nd t m).k=64\/(nd t m).k=42/\(nd t m).kids≠[] then [tyN t (JH t m 0)] else τ m
structure TA (t:Tr)(o:Lu)(τ:Nat->TL):Prop where
 nam:∀i,i<t.nodes.length->(nd t i).k=3->∀m:Nat,JD t o i=m->τ i=valT t τ m/\valT t τ m≠[]
 sets:∀s,s<t.nodes.length->(nd t s).k=41->(τ (Jh t s)).length=nB t s/\(∀k,k<nB t s->τ (JH t s k)=[(τ (Jh t s)).getD k .int])/\τ s=[]
 rule:∀i,i<t.nodes.length->(nd t i).k≠3->(nd t i).k≠41->∃l,Xa t (JD t o i).toNat (lisT t τ) i=some l/\(¬X6 t i->τ i=l)
 fine:∀i,i<t.nodes.length->Yq (τ i)=true
def bareN (t:Tr)(o:Lu)(i s:Nat):Prop:=(nd t i).k=3/\∃m:Nat,JD t o i=m/\X6 t m/\Kg t m=(s:Int)
def Acy (t:Tr)(o:Lu)(r:Nat->Nat):Prop:=∀s,s<t.nodes.length->(nd t s).k=41->∀i s',i<t.nodes.length->blw o i (Jh t s)->bareN t o i s'->r s' < r s
structure FT (t:Tr)(τ:Nat->TL)(S:FS):Prop where
 sub:∀i,i<t.nodes.length->JE S.got i≠[]->JE S.got i=τ i
 dne:∀i,i<t.nodes.length->S.dn.getD i false=true->¬X6 t i->JE S.got i=τ i
 ok:S.bad=none
def PreB (t:Tr)(o:Lu)(r:Nat->Nat)(S:FS)(i:Nat):Prop:=∀s,bareN t o i s->∀s0,J2 S.fg s0=true->r s<r s0
theorem FT.fields{S:FS}(h:FT t τ S)(h1:S'.got=S.got)(h2:S'.dn=S.dn)(h3:S'.bad=S.bad):FT t τ S':=⟨by rw[h1];exact h.sub,by rw[h1,h2];exact h.dne,by rw[h3];exact h.ok⟩
def GoT (t:Tr)(o:Lu)(τ:Nat->TL)(r:Nat->Nat)(f:Nat)(go:FS->Nat->FS):Prop:=∀S i,FI t S->FM t o S->FR t o S->FT t τ S->i<t.nodes.length->Jgn t o S i->PreB t o r S i->uf t S<f->FT t τ (go S i)
theorem span_ft(Bj:GoOk t o f go)(DT:GoR t o f go)(ER:GoT t o τ r f go){S:FS}(hI:FI t S)(hM:FM t o S)(hR:FR t o S)(hT:FT t τ S)(hu:uf t S<f){m:Nat}(Fx:a+m<=t.nodes.length)(hP:∀S' j,FG t S S'->j<m->(S'.bad=none->∀j',j' < j->S'.dn.getD (a+j') false=true)->Jgn t o S' (a+j))(hB:∀j,j<m->PreB t o r S (a+j)) :
  ∀k,k<=m->FT t τ ((KW a k).foldl go S)
 |0,_=>hT
 |k+1,hk=>by obtain⟨h1,h2,h3,h4⟩:=Jai Bj hI hM hu Fx hP k om;have ih:=span_ft Bj DT ER hI hM hR hT hu Fx hP hB k om;have ihr:=Jdy Bj DT hI hM hR hu Fx hP k om;rw[Jas,Gq];generalize (KW a k).foldl go S=S1 at *;refine ER S1 (a+k) h1 h2 ihr ih om (hP S1 k h3 om h4) (λs hs s0 h0=>hB k om s hs s0 ?_) (by rw[uf_eq h3];exact hu);rw[<-h3.fg];exact h0
section
variable(g:GoodT t o)(hA:TA t o τ)
include g hA
theorem settle_ft {S:FS}{s:Nat}(hI:FI t S)(hT:FT t τ S)(hs:s<t.nodes.length)(hk:(nd t s).k=41)(hd:S.dn.getD (Jh t s) false=true):FT t τ (J4 t s S):=by
 obtain⟨b1,b2,b3,b4⟩:=Kr g hs hk;obtain⟨a1,a2,a3⟩:=hA.sets s hs hk;have hl:JE S.got (Jh t s)=τ (Jh t s):=hT.dne _ om hd λh=>by have:=h.1;omega
 have e:J4 t s S = { S with got:=Ja6 t s (JE S.got (Jh t s)) S.got (nB t s),fd:=XX s true S.fd }:=by unfold J4;simp only;rw[if_pos (show (JE S.got (Jh t s)).length=(nd t s).n.toNat by rw[hl];exact a1)];rfl
 have AO:∀k,(nd t (JH t s k)).kids=[]->k<nB t s->JH t s k<S.got.length:=λk _ Am=>by have:=(b2 k Am).2;rw[hI.gl];omega
 have DZ:∀k j,k<nB t s->j<nB t s->JH t s k=JH t s j->k=j:=λk j h1 h2 he=>kid_inj g hs om om he
 have key:∀j,JE (Ja6 t s (JE S.got (Jh t s)) S.got (nB t s)) j=JE S.got j\/JE (Ja6 t s (JE S.got (Jh t s)) S.got (nB t s)) j=τ j/\X6 t j:=λj=>by
  by_cases hx:∃k,k<nB t s/\(nd t (JH t s k)).kids=[]/\JH t s k=j
  ·obtain⟨k,Am,hb,rfl⟩:=hx;refine .inr ⟨?_,(b2 k Am).1,hb⟩;rw[JhZ AO DZ (nB t s) (Gd _) k Am hb,hl,a2 k Am]
  ·exact .inl (JcV _ λk Am hb he=>hx ⟨k,Am,hb,he⟩)
 rw[e];refine⟨λi hi Ag=>?_,λi hi bH hb=>?_,hT.ok⟩
 ·rcases key i with h|⟨h,_⟩
  ·simp only at Ag|-;rw[h]at Ag|-;exact hT.sub i hi Ag
  ·exact h
 ·rcases key i with h|⟨h,h2⟩
  ·simp only;rw[h];exact hT.dne i hi bH hb
  ·exact absurd h2 hb
omit g in
theorem fin_ft {S:FS}{i:Nat}(hI:FI t S)(hT:FT t τ S)(hi:i<t.nodes.length)(hl:¬X6 t i->l=τ i)(eG:X6 t i->l=[])(h0:l=[]->¬X6 t i->JE S.got i=[]):FT t τ (S.fin i (some l)):=by
 have Mj:Yq l=true:=by
  by_cases hb:X6 t i
  ·rw[eG hb];rfl
  ·rw[hl hb];exact hA.fine i hi
 unfold FS.fin;simp only;rw[if_neg (by rw[hT.ok];simp),if_pos Mj];have ER:∀j,JE (if l=[] then S.got else S.got.set i l) j=if j=i/\l≠[] then l else JE S.got j:=λj=>by
  by_cases he:l=[]
  ·rw[if_pos he,if_neg (λh=>h.2 he)]
  ·rw[if_neg he,Jae (by rw[hI.gl];exact hi)];by_cases e:j=i
   ·rw[if_pos e,if_pos ⟨e,he⟩]
   ·rw[if_neg e,if_neg (λh=>e h.1)]
 refine⟨λj hj Ag=>?_,λj hj Bt hb=>?_,hT.ok⟩
 ·simp only at Ag|-;rw[ER]at Ag|-;by_cases e:j=i/\l≠[]
  ·rw[if_pos e,e.1];exact hl λhb=>e.2 (eG hb)
  ·rw[if_neg e]at Ag|-;exact hT.sub j hj Ag
 ·simp only at Bt|-;rw[ER];by_cases e:j=i
  ·subst e;by_cases he:l=[]
   ·rw[if_neg (λh=>h.2 he),h0 he hb,<-hl hb,he]
   ·rw[if_pos ⟨rfl,he⟩,hl hb]
  ·rw[if_neg (λh=>e h.1)];rw[JfF (by rw[hI.dl];exact hi),if_neg e]at Bt;exact hT.dne j hj Bt hb
theorem force_ft(hc:Acy t o r)(Bj:GoOk t o f go)(DT:GoR t o f go)(ER:GoT t o τ r f go){S:FS}{i m s:Nat}(hI:FI t S)(hM:FM t o S)(hR:FR t o S)(hT:FT t τ S)(hi:i<t.nodes.length)(hP:Jgn t o S i)(hB:PreB t o r S i)(hu:uf t S<f+1)(hs:s<t.nodes.length)(Bo:(nd t s).k=41)(hm:(m:Int)∈(nd t s).kids)(Cv:(nd t m).k=42)(AO:inS t o (m:Int) i)(ET:bareN t o i s):FT t τ (Xh t o go s i S):=by
 have Mk:J2 S.fg s=false:=by
  cases h:J2 S.fg s with
  |false=>rfl
  |true=>have:=hB s ET s h;omega
 unfold Xh;rw[Mk,if_neg sM];simp only;obtain⟨b1,b2,b3,b4⟩:=Kr g hs Bo;have bD:=Jgk g (a:=Jh t s) om;have FB:FI t { S with fg:=XX s true S.fg }:=⟨hI.gl,hI.dl,hI.emp,hI.unf,hI.fnd,hI.fine,hI.ini,hI.typ⟩;have OZ:=JeS hs Mk;obtain⟨a,ha⟩:∃a:Nat,fs o ((Jh t s:Nat):Int)=a:=⟨(fs o ((Jh t s:Nat):Int)).toNat,om⟩;rw[ha,Ga];have Bb:=Jde g hi hP hs Bo hm Cv AO ha;have jc:∀j,j<Jh t s+1-a->PreB t o r { S with fg:=XX s true S.fg } (a+j):=λj hj s' AC s0 h0=>by
  have h1:=hc s hs Bo (a+j) s' om ⟨om,om⟩ AC;rw[Xn]at h0
  split at h0
  ·rename_i he;rw[he];exact h1
  ·have:=hB s ET s0 h0;omega
 have El:=Jai Bj FB (S:={ S with fg:=XX s true S.fg }) (show FM t o _ from hM) om (a:=a) (m:=Jh t s+1-a) om Bb _ (Gd _);have Al:=span_ft Bj DT ER FB (S:={ S with fg:=XX s true S.fg }) (show FM t o _ from hM) (hR.fields rfl rfl rfl) (hT.fields rfl rfl rfl) om (a:=a) (m:=Jh t s+1-a) om Bb jc _ (Gd _);generalize (KW a (Jh t s+1-a)).foldl go { S with fg:=XX s true S.fg }=S1 at El Al|-;obtain⟨q1,q2,q3,q4⟩:=El;rw[Al.ok,if_neg sM];have Bh:=q4 Al.ok (Jh t s-a) om;rw[show a+(Jh t s-a)=Jh t s by omega]at Bh;exact(settle_ft g hA q1 Al hs Bo Bh).fields rfl rfl rfl
theorem doF_ft (hE:(QO t o).2=0)(hc:Acy t o r):∀f,GoT t o τ r f (doF t o (λi=>(JD t o i).toNat) f)
 |0=>λS i _ _ _ _ _ _ _ hu=>om
 |f+1=>λS i hI hM hR hT hi hP hB hu=>by
  unfold doF
  cases Dj:(S.bad.isSome || S.dn.getD i false) with
  |true=>rw[if_pos rfl];exact hT
  |false=>
   rw[if_neg sM];obtain⟨DF,EG⟩:=Gr.1 Dj;obtain⟨Cf,SG⟩:=hP hT.ok;by_cases h3:(nd t i).k=3
   ·rw[if_pos h3];simp only;obtain⟨m,hm⟩:∃m:Nat,JD t o i=m:=⟨(JD t o i).toNat,by have:=(YQ g hE hi h3).2.1;omega⟩;obtain⟨Ct,AO,Cv⟩:=Jaz g hE hi h3 hm;obtain⟨Mw,Ej⟩:=hA.nam i hi h3 m hm;rw[hm,Ga];have Iy:¬X6 t i:=λh=>by have:=h.1;omega
    have fin3:∀S':FS,FI t S'->FT t τ S'->FT t τ (S'.fin i (some (valT t τ m))):=λS' q1 q2=>fin_ft hA q1 q2 hi (λ_=>Mw.symm) (λh=>absurd h Iy) λh=>absurd h Ej
    unfold JbI;by_cases Bp:(nd t m).k=47
    ·rw[if_pos Bp];have:=fin3 S hI hT;unfold valT at this;rw[if_pos Bp]at this;exact this
    rw[if_neg Bp];by_cases BV:(nd t m).k=64\/(nd t m).k=42/\(nd t m).kids≠[]
    ·rw[if_pos BV];have:=fin3 S hI hT;unfold valT at this;rw[if_neg Bp,if_pos BV]at this;exact this
    rw[if_neg BV];have gZ:valT t τ m=τ m:=by unfold valT;rw[if_neg Bp,if_neg BV]
    rw[gZ]at fin3 Ej;by_cases Cg:(nd t m).k=42/\J2 S.fd (Kg t m).toNat=false
    ·rw[if_pos Cg];simp only;have DY:(nd t m).kids=[]:=Gt λh=>BV (.inr ⟨Cg.1,h⟩)
     rcases Cv with h|h|h|⟨_,s,k,s1,s2,s3,s4,s5,s6⟩
     ·exact absurd h Bp
     ·exact absurd (.inl h) BV
     ·have:=Cg.1;omega
     ·rw[s1,Ga];obtain⟨q1,q2,q3,q4⟩:=Jb6 g (Jaf g hE f) hI hM hi hP hu s2 s3 s4 Cg.1 AO;have qt:=force_ft g hA hc (Jaf g hE f) (Jhe g hE f) (doF_ft hE hc f) hI hM hR hT hi hP hB hu s2 s3 s4 Cg.1 AO ⟨h3,m,hm,⟨Cg.1,DY⟩,s1⟩;have M8:=(q1.fnd s (q4 qt.ok)).2.2.2 k s5 (by rw[s6];exact DY);rw[s6]at M8;have P9:=qt.sub m Ct (by rw[M8];simp);rw[P9];exact fin3 _ q1 qt
    ·rw[if_neg Cg];have P9:JE S.got m=τ m:=by
      rcases Cv with h|h|h|⟨Ck,s,k,s1,s2,s3,s4,s5,s6⟩
      ·exact absurd h Bp
      ·exact absurd (.inl h) BV
      ·obtain⟨u,a,hu,ha,D5,hd⟩:=AO;rcases (KS g hu).1 hd with ⟨_,s',h2,BO,h4,h5⟩|⟨h1,h2,BO⟩|⟨h1,h2,BO⟩|⟨h1,h2,BO⟩
       ·omega
       ·omega
       ·subst BO;omega
       ·rcases BO with ⟨BO,h4⟩|⟨_,s',BO,h4,h5,h6⟩
        ·have aI:=(JC g hu BO).1;refine hT.dne m Ct (SG m Ct h (Jb3 g hu BO ha D5 (λhe=>by subst he;exact h2 h4) (JaX g hu h1 BO h4 ha h2)) ?_) λhb=>by have:=hb.1;omega
         rw[aI,Ga];exact Kw g hu D5 (KE g hu ha)
        ·omega
      ·have DY:(nd t m).kids=[]:=Gt λh=>BV (.inr ⟨Ck,h⟩)
       have Ij:J2 S.fd s=true:=by
        cases hx:J2 S.fd s with
        |true=>rfl
        |false=>exact absurd ⟨Ck,by rw[s1,Ga];exact hx⟩ Cg
       have M8:=(hI.fnd s Ij).2.2.2 k s5 (by rw[s6];exact DY);rw[s6]at M8;exact hT.sub m Ct (by rw[M8];simp)
     rw[P9];exact fin3 S hI hT
   ·rw[if_neg h3];by_cases AQ:(nd t i).k=41
    ·rw[if_pos AQ];simp only;obtain⟨b1,b2,b3,b4⟩:=Kr g hi AQ;obtain⟨a1,a2,a3⟩:=hA.sets i hi AQ;have Bh:=Cf _ (JeD g hi AQ);have hS:FI t (Y9 t i S)/\FT t τ (Y9 t i S)/\(Y9 t i S).dn=S.dn:=by
      unfold Y9
      split
      ·exact⟨hI,hT,rfl⟩
      ·have:=Yb g hI hi AQ;exact⟨this.1,settle_ft g hA hI hT hi AQ Bh,this.2.2.2⟩
     obtain⟨q1,q2,q3⟩:=hS;generalize Y9 t i S=S1 at *;have A7:JE S1.got (Jh t i)=τ (Jh t i):=q2.dne _ om (by rw[q3];exact Bh) λh=>by have:=h.1;omega
     have Dk:Y1 t i (JE S1.got (Jh t i))=true:=by
      unfold Y1;rw[Gx];intro k hk;have Am:k<nB t i:=Gl.1 hk;obtain⟨k1,k2⟩:=b2 k Am
      cases DY:(nd t (JH t i k)).kids.isEmpty with
      |true=>rfl
      |false=>
       have Ag:(nd t (JH t i k)).kids≠[]:=λh=>by rw[h]at DY;cases DY
       obtain⟨l,r1,r2⟩:=hA.rule (JH t i k) om om om;have r3:=(JhN r1).2.2 k1 Ag;have r4:=r2 λh=>Ag h.2
       rw[r3,a2 k Am]at r4;rw[A7,Bool.false_or,beq_iff_eq];exact(List.cons.inj r4).1.symm
     rw[Dk,if_pos rfl];exact fin_ft hA q1 q2 hi (λ_=>a3.symm) (λ_=>rfl) λ_ hb=>q1.emp i (by rw[q3];exact EG) hb
    ·rw[if_neg AQ];obtain⟨l,r1,r2⟩:=hA.rule i hi h3 AQ;have AP:Xa t (JD t o i).toNat S.got i=Xa t (JD t o i).toNat (lisT t τ) i:=by
      refine JgD (λj hj=>?_) (λOT j dK hj=>?_) (λBC=>?_)
      ·have hm:=Jt g hi hj;have Ab:JH t i j<t.nodes.length:=om
       rw[YD Ab];exact hT.dne _ Ab (Cf _ hm.1) (kid_nb g hi AQ hm.1)
      ·have hm:=Jt g hi hj;have Ab:JH t i j<t.nodes.length:=om
       obtain⟨p1,p2,p3⟩:=JcW g Ab (JcX g hi OT dK hj);have BZ:=Jt g Ab (i:=(nd t (JH t i j)).kids.length-1) om;rw[YD (show Jh t (JH t i j)<t.nodes.length by omega)];exact hT.dne _ om (hR.clo _ Ab (Cf _ hm.1) _ BZ.1) λhb=>by have:=hb.1;omega
      ·have c:=Xp hE;have h5:=c.mean i hi (by unfold JN;rw[BC];rfl);obtain⟨m,hm⟩:∃m:Nat,JD t o i=m:=by
        have I8:JD t o i=Jay t i:=by unfold JD;rw[iN7,iN7,if_pos BC]
        rw[I8]at h5|-;unfold Jay at h5|-
        split
        ·rename_i x hf;have:=Kh.1 (List.mem_of_find?_eq_some hf);exact⟨x.toNat,om⟩
        ·rename_i hf;rw[hf]at h5;exact absurd rfl h5
       obtain⟨Ct,_,Cq,De⟩:=(Jc4 g c hi BC).1 hm;rw[hm,Ga,YD Ct];obtain⟨u,u1,u2,u3,u4⟩:=Ql g Ct om;obtain⟨u',v1,v2,v3,v4⟩:=Ql g hi om;obtain rfl:u=u':=om
       have aY:=init_loop g u2 u4 Cq;refine hT.dne m Ct (SG m Ct Cq (JaX g u2 aY u4 Cq v4 om) ?_) λhb=>by have:=hb.1;omega
       rw[u1,Ga];exact KE g u2 v4
     rw[AP,r1];refine fin_ft hA hI hT hi (λhb=>(r2 hb).symm) (λhb=>(JhN r1).1 hb) λ_ hb=>hI.emp i EG hb
end
def idxM:List (Nat×Bool)->Nat->Nat
 |[],_=>0
 |(j,_)::l,k=>if j=k then 0 else idxM l k+1
theorem idx_lt:∀{l:List (Nat×Bool)},J2 l k=true->idxM l k<l.length
 |[],h=>by simp[J2]at h
 |(j,c)::l,h=>by
  rw[idxM,Gh]
  split
  ·omega
  ·rename_i Ag;have h2:J2 l k=true:=by rw[J2,if_neg Ag]at h;exact h
   have:=idx_lt h2;omega
theorem idx_ins:∀{l:List (Nat×Bool)},J2 l x=true->idxM (XX k true l) x=idxM l x
 |[],h=>by simp[J2]at h
 |(j,c)::l,h=>by
  rw[XX];by_cases e:j=k
  ·subst e;rw[if_pos rfl,idxM,idxM]
  ·rw[if_neg e,idxM,idxM];by_cases e2:j=x
   ·rw[if_pos e2,if_pos e2]
   ·rw[if_neg e2,if_neg e2,idx_ins (by rw[J2,if_neg e2]at h;exact h)]
def allMT (l:List (Nat×Bool)):Prop:=∀p∈l,p.2=true
theorem idx_new:∀{l:List (Nat×Bool)},allMT l->J2 l k=false->idxM (XX k true l) k=l.length
 |[],_,_=>by simp[XX,idxM]
 |(j,c)::l,ha,h=>by
  have hc:c=true:=ha (j,c) sM;have Ag:j≠k:=λe=>by rw[J2,if_pos e,hc]at h;cases h
  rw[XX,if_neg Ag,idxM,if_neg Ag,idx_new (λp hp=>ha p (by simp[hp])) (by rw[J2,if_neg Ag]at h;exact h),Gh]
theorem all_ins:∀{l:List (Nat×Bool)},allMT l->allMT (XX k true l)
 |[],_=>λp hp=>by simp[XX]at hp;rw[hp]
 |(j,c)::l,ha=>by
  rw[XX]
  split
  ·intro p hp;rcases Gy.1 hp with rfl|hp
   ·rfl
   ·exact ha p (by simp[hp])
  ·intro p hp;rcases Gy.1 hp with rfl|hp
   ·exact ha _ sM
   ·exact all_ins (λq hq=>ha q (by simp[hq])) p hp
structure FO (t:Tr)(o:Lu)(S:FS):Prop where
 all:allMT S.fd
 ord:∀s,J2 S.fd s=true->∀i s',i<t.nodes.length->blw o i (Jh t s)->bareN t o i s'->J2 S.fd s'=true/\idxM S.fd s' < idxM S.fd s
 set0:∀s,s<t.nodes.length->(nd t s).k=41->JE S.got s=[]
theorem FO.fields{S:FS}(h:FO t o S)(h1:S'.got=S.got)(h3:S'.fd=S.fd):FO t o S':=⟨by rw[h3];exact h.all,by rw[h3];exact h.ord,by rw[h1];exact h.set0⟩
theorem FO.fin{S:FS}{i:Nat}{r:Option TL}(h:FO t o S)(hl:i<S.got.length)(hr:(nd t i).k=41->r=none\/r=some []):FO t o (S.fin i r):=by
 unfold FS.fin FS.fail
 cases r with
 |none=>simp only;split <;> exact h.fields rfl rfl
 |some l=>
  simp only
  split
  ·exact h
  ·split
   ·refine⟨h.all,h.ord,λs hs hk=>?_⟩;simp only
    split
    ·exact h.set0 s hs hk
    ·rename_i Ag;rw[Jae hl]
     split
     ·rename_i e;subst e;rcases hr hk with h|h
      ·cases h
      ·cases h;exact absurd rfl Ag
     ·exact h.set0 s hs hk
   ·first
    |exact h.fields rfl rfl
    |(split <;> exact h.fields rfl rfl)
section
variable(g:GoodT t o)
include g
theorem done_below {S:FS}(hR:FR t o S):∀(a i:Nat),a<t.nodes.length->blw o i a->S.dn.getD a false=true->S.dn.getD i false=true:=by
 intro a
 induction a using GI with
 |ind a ih=>
  intro i ha hb hd;rcases JbN g ha hb with rfl|⟨c,hc,Cb⟩
  ·exact hd
  ·have:=(JC g ha hc).2;exact ih c this i om Cb (hR.clo a ha hd c hc)
theorem bare_found {S:FS}(hI:FI t S)(hM:FM t o S){i s':Nat}(hE:(QO t o).2=0)(hi:i<t.nodes.length)(hd:S.dn.getD i false=true)(hb:bareN t o i s'):J2 S.fd s'=true:=by
 obtain⟨h3,m,hm,MI,hp⟩:=hb;obtain⟨h1,h2⟩:=hM i hi h3 hd m hm;obtain⟨Ct,AO,Cv⟩:=Jaz g hE hi h3 hm;have hv:JiF t S m=JE S.got m:=by unfold JiF;rw[if_neg (by rw[MI.1];omega),if_neg (λh=>by rcases h with h|h;(rw[MI.1]at h;omega);exact h.2 MI.2)]
 rw[hv]at h2;rcases Cv with h|h|h|⟨_,s,k,s1,s2,s3,s4,s5,s6⟩
 ·have:=MI.1;omega
 ·have:=MI.1;omega
 ·have:=MI.1;omega
 ·obtain rfl:s=s':=om
  cases hf:J2 S.fd s with
  |true=>rfl
  |false=>have:=hI.unf s s2 s3 hf k s5 (by rw[s6];exact MI.2);rw[s6]at this;exact absurd this h2
theorem settle_fo {S:FS}{s:Nat}(hE:(QO t o).2=0)(hI:FI t S)(hM:FM t o S)(hR:FR t o S)(hO:FO t o S)(hs:s<t.nodes.length)(hk:(nd t s).k=41)(hd:S.bad=none->S.dn.getD (Jh t s) false=true)(hb:S.bad=none):FO t o (J4 t s S):=by
 obtain⟨b1,b2,b3,b4⟩:=Kr g hs hk;unfold J4;simp only
 split
 case isFalse=>unfold FS.fail;split <;> exact hO.fields rfl rfl
 case isTrue hl=>
  change FO t o { S with got:=Ja6 t s (JE S.got (Jh t s)) S.got (nB t s),fd:=XX s true S.fd };refine⟨all_ins hO.all,λs0 h0 i s' hi Be ET=>?_,λu hu Ic=>?_⟩
  ·simp only at h0|-;rw[Xn]at h0;have fresh:∀x,J2 S.fd x=true->J2 (XX s true S.fd) x=true/\idxM (XX s true S.fd) x=idxM S.fd x:=λx hx=>⟨by rw[Xn];split;rfl;exact hx,idx_ins hx⟩
   cases hf:J2 S.fd s0 with
   |true=>obtain⟨h1,h2⟩:=hO.ord s0 hf i s' hi Be ET;obtain⟨f1,f2⟩:=fresh s' h1;rw[f2,(fresh s0 hf).2];exact⟨f1,h2⟩
   |false=>
    rw[hf]at h0
    split at h0
    ·rename_i he;subst he;have h1:=bare_found g hI hM hE hi (done_below g hR _ i om Be (hd hb)) ET;obtain⟨f1,f2⟩:=fresh s' h1;rw[f2,idx_new hO.all hf];exact⟨f1,idx_lt h1⟩
    ·cases h0
  ·rw[show JE (Ja6 t s (JE S.got (Jh t s)) S.got (nB t s)) u=JE S.got u from JcV _ λk Am U4 he=>by have:=(b2 k Am).1;rw[he]at this;omega];exact hO.set0 u hu Ic
def GoO (t:Tr)(o:Lu)(f:Nat)(go:FS->Nat->FS):Prop:=∀S i,FI t S->FM t o S->FR t o S->FO t o S->i<t.nodes.length->Jgn t o S i->uf t S<f->FO t o (go S i)
omit g in
theorem span_fo(Bj:GoOk t o f go)(DT:GoR t o f go)(Ra:GoO t o f go){S:FS}(hI:FI t S)(hM:FM t o S)(hR:FR t o S)(hO:FO t o S)(hu:uf t S<f){m:Nat}(Fx:a+m<=t.nodes.length)(hP:∀S' j,FG t S S'->j<m->(S'.bad=none->∀j',j' < j->S'.dn.getD (a+j') false=true)->Jgn t o S' (a+j)) :
  ∀k,k<=m->FO t o ((KW a k).foldl go S)
 |0,_=>hO
 |k+1,hk=>by obtain⟨h1,h2,h3,h4⟩:=Jai Bj hI hM hu Fx hP k om;have ih:=span_fo Bj DT Ra hI hM hR hO hu Fx hP k om;have ihr:=Jdy Bj DT hI hM hR hu Fx hP k om;rw[Jas,Gq];generalize (KW a k).foldl go S=S1 at *;exact Ra S1 (a+k) h1 h2 ihr ih om (hP S1 k h3 om h4) (by rw[uf_eq h3];exact hu)
theorem force_fo(hE:(QO t o).2=0)(Bj:GoOk t o f go)(DT:GoR t o f go)(Ra:GoO t o f go){S:FS}{i m s:Nat}(hI:FI t S)(hM:FM t o S)(hR:FR t o S)(hO:FO t o S)(hi:i<t.nodes.length)(hP:Jgn t o S i)(hu:uf t S<f+1)(hs:s<t.nodes.length)(Bo:(nd t s).k=41)(hm:(m:Int)∈(nd t s).kids)(Cv:(nd t m).k=42)(AO:inS t o (m:Int) i):FO t o (Xh t o go s i S):=by
 unfold Xh
 cases Mk:J2 S.fg s with
 |true=>
  rw[if_pos rfl];unfold FS.fail
  split
  ·exact hO
  ·exact hO.fields rfl rfl
 |false=>
  rw[if_neg sM];simp only;obtain⟨b1,b2,b3,b4⟩:=Kr g hs Bo;have bD:=Jgk g (a:=Jh t s) om;have FB:FI t { S with fg:=XX s true S.fg }:=⟨hI.gl,hI.dl,hI.emp,hI.unf,hI.fnd,hI.fine,hI.ini,hI.typ⟩;have OZ:=JeS hs Mk;obtain⟨a,ha⟩:∃a:Nat,fs o ((Jh t s:Nat):Int)=a:=⟨(fs o ((Jh t s:Nat):Int)).toNat,om⟩;rw[ha,Ga];have Bb:=Jde g hi hP hs Bo hm Cv AO ha;have El:=Jai Bj FB (S:={ S with fg:=XX s true S.fg }) (show FM t o _ from hM) om (a:=a) (m:=Jh t s+1-a) om Bb _ (Gd _);have IV:=Jdy Bj DT FB (S:={ S with fg:=XX s true S.fg }) (show FM t o _ from hM) (hR.fields rfl rfl rfl) om (a:=a) (m:=Jh t s+1-a) om Bb _ (Gd _);have RD:=span_fo Bj DT Ra FB (S:={ S with fg:=XX s true S.fg }) (show FM t o _ from hM) (hR.fields rfl rfl rfl) (hO.fields rfl rfl) om (a:=a) (m:=Jh t s+1-a) om Bb _ (Gd _);generalize (KW a (Jh t s+1-a)).foldl go { S with fg:=XX s true S.fg }=S1 at El IV RD|-;obtain⟨q1,q2,q3,q4⟩:=El;refine FO.fields (S:=if S1.bad.isSome=true then S1 else J4 t s S1) ?_ rfl rfl
  split
  ·exact RD
  ·rename_i hb;have ET:S1.bad=none:=by cases h:S1.bad with|none=>rfl|some x=>rw[h]at hb;exact absurd rfl hb
   refine settle_fo g hE q1 q2 IV RD hs Bo (λhb=>?_) ET;have:=q4 hb (Jh t s-a) om;rw[show a+(Jh t s-a)=Jh t s by omega]at this;exact this
theorem doF_fo (hE:(QO t o).2=0):∀f,GoO t o f (doF t o (λi=>(JD t o i).toNat) f)
 |0=>λS i _ _ _ _ _ _ hu=>om
 |f+1=>λS i hI hM hR hO hi hP hu=>by
  unfold doF
  cases Dj:(S.bad.isSome || S.dn.getD i false) with
  |true=>rw[if_pos rfl];exact hO
  |false=>
   rw[if_neg sM];obtain⟨DF,EG⟩:=Gr.1 Dj;have ET:S.bad=none:=by cases h:S.bad with|none=>rfl|some x=>rw[h]at DF;cases DF
   have Aj:i<S.got.length:=by rw[hI.gl];exact hi
   by_cases h3:(nd t i).k=3
   ·rw[if_pos h3];simp only;obtain⟨m,hm⟩:∃m:Nat,JD t o i=m:=⟨(JD t o i).toNat,by have:=(YQ g hE hi h3).2.1;omega⟩;obtain⟨Ct,AO,Cv⟩:=Jaz g hE hi h3 hm;rw[hm,Ga];have h0:(nd t i).k=41->∀r:Option TL,r=none\/r=some []:=λh=>om
    unfold JbI;by_cases Bp:(nd t m).k=47
    ·rw[if_pos Bp];exact hO.fin Aj λh=>h0 h _
    rw[if_neg Bp];by_cases BV:(nd t m).k=64\/(nd t m).k=42/\(nd t m).kids≠[]
    ·rw[if_pos BV];exact hO.fin Aj λh=>h0 h _
    rw[if_neg BV];by_cases Cg:(nd t m).k=42/\J2 S.fd (Kg t m).toNat=false
    ·rw[if_pos Cg];simp only;rcases Cv with h|h|h|⟨_,s,k,s1,s2,s3,s4,s5,s6⟩
     ·exact absurd h Bp
     ·exact absurd (.inl h) BV
     ·have:=Cg.1;omega
     ·rw[s1,Ga];obtain⟨q1,q2,q3,q4⟩:=Jb6 g (Jaf g hE f) hI hM hi hP hu s2 s3 s4 Cg.1 AO;have qo:=force_fo g hE (Jaf g hE f) (Jhe g hE f) (doF_fo hE f) hI hM hR hO hi hP hu s2 s3 s4 Cg.1 AO;exact qo.fin (by rw[q1.gl];exact hi) λh=>h0 h _
    ·rw[if_neg Cg];exact hO.fin Aj λh=>h0 h _
   ·rw[if_neg h3];by_cases AQ:(nd t i).k=41
    ·rw[if_pos AQ];simp only;have hS:FO t o (Y9 t i S)/\FI t (Y9 t i S):=by
      unfold Y9
      split
      ·exact⟨hO,hI⟩
      ·exact⟨settle_fo g hE hI hM hR hO hi AQ (λ_=>(hP ET).1 _ (JeD g hi AQ)) ET,(Yb g hI hi AQ).1⟩
     exact hS.1.fin (by rw[hS.2.gl];exact hi) λ_=>by
      split
      ·exact .inr rfl
      ·exact .inl rfl
    ·rw[if_neg AQ];exact hO.fin Aj λh=>absurd h AQ
end
section
variable(g:GoodT t o)
theorem Jbl {t:Tr}(j:Nat):JE (FS.start t).got j=[]:=by
 unfold FS.start JE;simp only[Gb,Gp]
 split <;> rfl
theorem JaN {t:Tr}(j:Nat):(FS.start t).dn.getD j false=false:=by
 unfold FS.start;simp only[Gb,Gp]
 split <;> rfl
theorem JhD {t:Tr}:FI t (FS.start t):=⟨by simp[FS.start],by simp[FS.start],λi _ _=>Jbl i,λs _ _ _ k _ _=>Jbl _,λs h=>by simp[FS.start,J2]at h,λi=>by rw[Jbl];rfl,λi _ h=>(by rw[JaN]at h;cases h),λi _ h=>(by rw[JaN]at h;cases h)⟩
theorem JhC {t:Tr}{o:Lu}:FM t o (FS.start t):=λi _ _ h=>by rw[JaN]at h;cases h
theorem JhB {t:Tr}{o:Lu}:FR t o (FS.start t):=⟨λi _ h=>(by rw[JaN]at h;cases h),λi _ h=>(by rw[JaN]at h;cases h),λi _ h=>(by rw[JaN]at h;cases h)⟩
theorem start_fo {t:Tr}{o:Lu}:FO t o (FS.start t):=⟨λp hp=>by simp[FS.start]at hp,λs h=>by simp[FS.start,J2]at h,λs _ _=>Jbl s⟩
theorem JhA {t:Tr}:uf t (FS.start t)<t.nodes.length+1:=by unfold uf;have:=GA (λs=>!J2 (FS.start t).fg s) (Gc t.nodes.length);rw[GD]at this;omega
theorem span_zero:KW 0 n=Gc n:=by
 unfold KW;refine GG sM λi h1 h2=>?_
 simp
include g
theorem JeY:∀S' j,FG t (FS.start t) S'->j<t.nodes.length->(S'.bad=none->∀j',j' < j->S'.dn.getD (0+j') false=true)->Jgn t o S' (0+j):=λS' j _ hj Bw hb=>by
 have Bt:=Bw hb;refine⟨λc hc=>?_,λv hv Cu OW _=>?_⟩
 ·have Ar:=(JC g (show 0+j<t.nodes.length by omega) hc).2;have:=Bt c om;rw[Gm]at this;exact this
 ·have:=Bt v om;rw[Gm]at this;exact this
theorem infer_inv (hE:(QO t o).2=0):FI t (JM t o)/\FM t o (JM t o)/\FR t o (JM t o)/\FO t o (JM t o)/\((JM t o).bad=none->∀j,j<t.nodes.length->(JM t o).dn.getD j false=true):=by obtain⟨h1,h2,_,h4⟩:=Jid g hE t.nodes.length (Gd _);have h5:=Jdy (Jaf g hE (t.nodes.length+1)) (Jhe g hE (t.nodes.length+1)) JhD JhC JhB JhA (a:=0) (m:=t.nodes.length) om (JeY g) t.nodes.length (Gd _);have h6:=span_fo (Jaf g hE (t.nodes.length+1)) (Jhe g hE (t.nodes.length+1)) (doF_fo g hE (t.nodes.length+1)) JhD JhC JhB start_fo JhA (a:=0) (m:=t.nodes.length) om (JeY g) t.nodes.length (Gd _);rw[span_zero]at h1 h2 h4 h5 h6;refine⟨h1,h2,h5,h6,λhb j hj=>?_⟩;have:=h4 hb j hj;rw[Gm]at this;exact this
theorem infer_ft (hE:(QO t o).2=0)(hA:TA t o τ)(hc:Acy t o r):FT t τ (JM t o):=by have h:=span_ft (Jaf g hE (t.nodes.length+1)) (Jhe g hE (t.nodes.length+1)) (doF_ft g hA hE hc (t.nodes.length+1)) JhD JhC JhB (τ:=τ) ⟨λi _ h=>absurd (Jbl i) h,λi _ h=>(by rw[JaN]at h;cases h),rfl⟩ JhA (a:=0) (m:=t.nodes.length) om (JeY g) (λj _ s _ s0 h0=>by simp[FS.start,J2]at h0) t.nodes.length (Gd _);rw[span_zero]at h;exact h
theorem typed_ta (hE:(QO t o).2=0)(hb:(JM t o).bad=none):TA t o (JE (JM t o).got)/\Acy t o (idxM (JM t o).fd):=by
 obtain⟨hI,hM,hR,hO,hd⟩:=infer_inv g hE;have hd:=hd hb;have hl:lisT t (JE (JM t o).got)=(JM t o).got:=by
  unfold lisT;refine GG (by simp[hI.gl]) λi h1 h2=>?_
  simp[JE,Gb,Gf h2]
 refine⟨⟨λi hi hk m hm=>hM i hi hk (hd i hi) m hm,λs hs hk=>?_,λi hi h3 AQ=>?_,λi _=>hI.fine i⟩,λs hs hk i s' hi Be hn=>?_⟩
 ·obtain⟨f1,f2⟩:=hR.sets s hs (hd s hs) hk;obtain⟨_,_,f3,f4⟩:=hI.fnd s f1;obtain⟨b1,b2,b3,b4⟩:=Kr g hs hk;refine⟨f3,λk Am=>?_,hO.set0 s hs hk⟩;by_cases he:(nd t (JH t s k)).kids=[]
  ·exact f4 k Am he
  ·have Aw:JH t s k<t.nodes.length:=by have:=(b2 k Am).2;omega
   rw[hI.typ _ Aw (hd _ Aw) (b2 k Am).1 he];unfold Y1 at f2;have:=Gx.1 f2 k (Gl.2 Am);rw[Bool.or_eq_true,List.isEmpty_iff]at this;rcases this with h|h
   ·exact absurd h he
   ·rw[eq_of_beq h]
 ·obtain⟨l,h1,h2⟩:=hR.rule i hi (hd i hi) h3 AQ;exact⟨l,by rw[hl];exact h1,h2⟩
 ·exact(hO.ord s (hR.sets s hs (hd s hs) hk).1 i s' hi Be hn).2
theorem typed_iff (hE:(QO t o).2=0):(JM t o).bad=none↔∃τ r,TA t o τ/\Acy t o r:=⟨λh=>⟨_,_,typed_ta g hE h⟩,λ⟨_,_,h1,h2⟩=>(infer_ft g hE h1 h2).ok⟩
theorem typed_eq (hE:(QO t o).2=0)(hA:TA t o τ)(hc:Acy t o r):∀i,i<t.nodes.length->JE (JM t o).got i=τ i:=λi hi=>by
 have hT:=infer_ft g hE hA hc;obtain⟨hI,hM,hR,hO,hd⟩:=infer_inv g hE;have hd:=hd hT.ok;by_cases hb:X6 t i
 ·refine hT.sub i hi ?_;obtain⟨s,s1,s2,s3,s4⟩:=Ql g hi (by have:=hb.1;omega);have Bo:=(Yg (Jcu g s2 s4)).2.2.1 (by rw[hb.1];rfl);obtain⟨b1,b2,b3,b4⟩:=Kr g s2 Bo;obtain⟨k,hk,Ig,_⟩:=JbB s4;have BL:k<nB t s:=Gs λCn=>by
   obtain rfl:k=(nd t s).kids.length-1:=om
   have e:Jh t s=i:=Ig;rw[e,hb.1]at b3;omega
  have:=(hI.fnd s (hR.sets s s2 (hd s s2) Bo).1).2.2.2 k BL (by rw[Ig];exact hb.2);rw[Ig]at this;rw[this];simp
 ·exact hT.dne i hi (hd i hi) hb
end
section
variable(g:GoodT t o)
include g
theorem JbA {i:Nat}(hi:i<t.nodes.length)(hk:(nd t i).k=25\/(62<=(nd t i).k/\(nd t i).k<=64)\/(nd t i).k=42/\(nd t i).kids≠[]):0<(nd t i).kids.length/\JH t i 0<i/\60<=(nd t (JH t i 0)).k/\(nd t (JH t i 0)).k<=63:=by
 have h:=JgV g hi;have e:lets t.nodes (nd t i)=[116]:=by
  by_cases Ck:(nd t i).k=42
  ·have Ag:lets t.nodes (nd t i)≠[]:=λe=>by
    have:=congrArg Gg e;rw[KP]at this;rcases hk with h1|h1|h1
    ·omega
    ·omega
    ·exact h1.2 (Gn this)
   rw[Ck]at h;generalize lets t.nodes (nd t i)=hv at *;rw[h];simp[Qo,Ag]
  ·rw[h];unfold Qo;simp only;rw[iN7,iN7,iP7]
 have hl:=congrArg Gg e;rw[KP]at hl;simp only[Gh,List.length_nil]at hl;have hg:=let_get g hi (j:=0) om;rw[e]at hg;have h2:=Jc6 (Option.some.inj hg).symm;exact⟨om,(Jt g hi (i:=0) om).2.1,h2.1,h2.2⟩
theorem tyF_fuel:∀(f f' i:Nat),i<t.nodes.length->60<=(nd t i).k->(nd t i).k<=63->i<f->i<f'->tyF t f i=tyF t f' i
 |0,_,_,_,_,_,h,_=>om
 |f+1,0,_,_,_,_,_,h=>om
 |f+1,f' + 1,i,hi,h1,h2,h3,h4=>by
  unfold tyF;by_cases e0:(nd t i).k=60
  ·rw[if_pos e0,if_pos e0]
  ·by_cases e1:(nd t i).k=61
   ·rw[if_neg e0,if_neg e0,if_pos e1,if_pos e1]
   ·obtain⟨k1,k2,k3,k4⟩:=JbA g hi (.inr (.inl ⟨om,om⟩));rw[tyF_fuel f f' (JH t i 0) om k3 k4 om om]
theorem tyN_eq {i:Nat}(hi:i<t.nodes.length)(h1:60<=(nd t i).k)(h2:(nd t i).k<=63):tyN t i=if (nd t i).k=60 then .int else if (nd t i).k=61 then .bool else if (nd t i).k=62 then .arr (tyN t (JH t i 0)) else .str (tyN t (JH t i 0)):=by
 show tyF t (i+1) i=_;unfold tyF;by_cases e0:(nd t i).k=60
 ·rw[if_pos e0,if_pos e0]
 ·by_cases e1:(nd t i).k=61
  ·rw[if_neg e0,if_neg e0,if_pos e1,if_pos e1]
  ·obtain⟨k1,k2,k3,k4⟩:=JbA g hi (.inr (.inl ⟨om,om⟩));rw[tyF_fuel g i (JH t i 0+1) (JH t i 0) om k3 k4 om om];rfl
end
section
variable{u:Tr}(gu:GoodT u p)(g:GoodT t o)(h:TMap u t ψ)
include gu g h
theorem tm_ty {j:Nat}(hj:j<u.nodes.length)(h1:60<=(nd u j).k)(h2:(nd u j).k<=63):tyN t (ψ j)=tyN u j:=by
 induction j using GI with
 |ind j ih=>
  have hk:=h.k j hj;rw[tyN_eq gu hj h1 h2,tyN_eq g (h.rng j hj) om om,hk];by_cases e0:(nd u j).k=60
  ·rw[if_pos e0,if_pos e0]
  ·by_cases e1:(nd u j).k=61
   ·rw[if_neg e0,if_neg e0,if_pos e1,if_pos e1]
   ·obtain⟨k1,k2,k3,k4⟩:=JbA gu hj (.inr (.inl ⟨om,om⟩));rw[<-h.pos j hj om om 0 k1,ih _ k2 om k3 k4]
theorem tm_ty0 {j:Nat}(hj:j<u.nodes.length)(hk:(nd u j).k=25\/(62<=(nd u j).k/\(nd u j).k<=64)\/(nd u j).k=42/\(nd u j).kids≠[]):tyN t (JH t (ψ j) 0)=tyN u (JH u j 0):=by obtain⟨k1,k2,k3,k4⟩:=JbA gu hj hk;rw[<-h.pos j hj om om 0 k1];exact tm_ty gu g h om k3 k4
theorem tm_sig (hn:∀j,j<u.nodes.length->(nd t (ψ j)).n=(nd u j).n)(hd:d<u.nodes.length)(hk:(nd u d).k=65):JaI t (ψ d)=JaI u d/\Jaj t (ψ d)=Jaj u d:=by
 obtain⟨a,a1,a2,a3,a4,a5⟩:=JeH gu hd hk;change (nd u d).n=a at a1;change a<(nd u d).kids.length at a2;unfold JaI Jaj;rw[hn d hd,h.len d hd,a1,Ga];refine⟨Gv λk Am=>?_,Gv λk Am=>?_⟩
 ·have Am:=Gl.1 Am;have hm:=Jt gu hd (i:=k) om;rw[<-h.pos d hd om om k om];have BV:(nd u (JH u d k)).k=64:=by rw[hm.2.2];exact a3 k Am
  exact tm_ty0 gu g h om (.inr (.inl ⟨om,om⟩))
 ·have Am:=Gl.1 Am;have hm:=Jt gu hd (i:=a+k) om;rw[<-h.pos d hd om om (a+k) om];have h6:=a4 (a+k) om (by show a+k+1<(nd u d).kids.length;omega);have e:(nd u (JH u d (a+k))).k=Jo u.nodes ((u.nodes.getD d default).kids.getD (a+k) 0):=hm.2.2;exact tm_ty gu g h om om om
end
def KK (t:Tr)(got:List TL)(i j:Nat):TL:=if j<(nd t i).kids.length then JE got (JH t i j) else []
def J9 (k:Nat)(ks:Lu)(n:Nat)(K L:Nat->TL)(ty:TyX)(sp sr si gm:TL):Option TL:=
 if k=1 then some [.int]
 else if k=2 then some [.bool]
 else if k=4 then match K 1 with
  |[.str a]=>if K 0=[a] then some [.str a] else none
  |_=>none
 else if k=5\/k=6 then if K 0=[.bool]/\K 1=[.bool] then some [.bool] else none
 else if k=7\/k=8 then if K 0=[.int]/\K 1=[.int]\/K 0=[.bool]/\K 1=[.bool] then some [.bool] else none
 else if 9<=k/\k<=12 then if K 0=[.int]/\K 1=[.int] then some [.bool] else none
 else if 13<=k/\k<=17 then if K 0=[.int]/\K 1=[.int] then some [.int] else none
 else if k=18 then match K 0 with
  |[.arr a]=>if K 1=[.int] then some [a] else none
  |_=>none
 else if k=19 then if K 0=[.bool] then some [.bool] else none
 else if k=20 then if K 0=[.int] then some [.int] else none
 else if k=21 then match K 0 with
  |[.str a]=>some [a]
  |_=>none
 else if k=22 then match K 0 with
  |[.str a]=>some [.str a]
  |_=>none
 else if k=23 then match K 0 with
  |[.str _]=>some [.bool]
  |_=>none
 else if k=24 then match K 0 with
  |[.arr _]=>some [.int]
  |_=>none
 else if k=25 then some [.str ty]
 else if k=26 then if ks.length=sp.length/\∀j,j<ks.length->K j=[sp.getD j .int] then some sr else none
 else if k=27 then if K 0=[.bool]/\K 1=K 2 then some (K 1) else none
 else if k=28 then if K n=[.bool] then some (K (ks.length-1)) else none
 else if k=29 then match L 1 with
  |[a]=>if ((Gc (ks.length-1)).all λj=>L (j+1) == [a])=true/\K 0=[.int] then some [.arr a] else none
  |_=>none
 else if k=40 then YV ((Gc (ks.length-n)).map λj=>K (n+j))
 else if k=45 then YV ((Gc ks.length).map K)
 else if k=42 then if ks=[] then some [] else some [ty]
 else if k=64 then some [ty]
 else if k=43 then if (K 0).length=1 then some (K 0) else none
 else if k=44 then if gm.length=1/\K 0=gm then some [] else none
 else if k=47 then some [.int]
 else if k=65 then if K (ks.length-1)=si then some [] else none
 else some []
theorem JY{m:Nat}{i:Nat}:Xa t m got i=J9 (nd t i).k (nd t i).kids (nd t i).n.toNat (KK t got i) (Jcz t got i) (tyN t (JH t i 0)) (JaI t m) (Jaj t m) (Jaj t i) (JE got m):=rfl
theorem Je7{ks ks':Lu}{K K' L L':Nat->TL}{ty ty':TyX}{sp sp' sr sr' si si' gm gm':TL}(hl:ks'.length=ks.length)(hK:k≠40->k≠28->K'=K)(DI:k=28->K' n=K n/\K' (ks.length-1)=K (ks.length-1))(D8:k=40->∀j,j<ks.length-n->K' (n+j)=K (n+j))(OT:k=29->∀j,L' (j+1)=L (j+1))(CJ:k=25\/k=64\/k=42/\ks≠[]->ty'=ty)(DJ:k=26->sp'=sp/\sr'=sr)(BC:k=44->gm'=gm)(BI:k=65->si'=si):J9 k ks' n K' L' ty' sp' sr' si' gm'=J9 k ks n K L ty sp sr si gm:=by
 by_cases e28:k=28
 ·subst e28;obtain⟨a,b⟩:=DI rfl;simp[J9,hl,a,b]
 by_cases e40:k=40
 ·subst e40;have:((Gc (ks.length-n)).map λj=>K' (n+j))=(Gc (ks.length-n)).map λj=>K (n+j):=Gv λj hj=>D8 rfl j (Gl.1 hj)
  simp[J9,hl,this]
 obtain rfl:=hK e40 e28;by_cases e29:k=29
 ·subst e29;have h1:=OT rfl 0;simp only[Gm]at h1;simp[J9,hl,h1,OT rfl]
 by_cases e25:k=25
 ·subst e25;simp[J9,CJ (.inl rfl)]
 by_cases e64:k=64
 ·subst e64;simp[J9,CJ (.inr (.inl rfl))]
 by_cases e42:k=42
 ·subst e42;by_cases he:ks=[]
  ·have Co:ks'=[]:=Gn (by rw[hl,he];rfl);simp[J9,he,Co]
  ·have Co:ks'≠[]:=λe=>he (Gn (by rw[<-hl,e];rfl))
   simp[J9,he,Co,CJ (.inr (.inr ⟨rfl,he⟩))]
 by_cases e26:k=26
 ·subst e26;obtain⟨rfl,rfl⟩:=DJ rfl;simp[J9,hl]
 by_cases e44:k=44
 ·subst e44;obtain rfl:=BC rfl;simp[J9]
 by_cases e65:k=65
 ·subst e65;obtain rfl:=BI rfl;simp[J9,hl]
 unfold J9;simp only[if_neg e28,if_neg e40,if_neg e29,if_neg e25,if_neg e64,if_neg e42,if_neg e26,if_neg e44,if_neg e65,hl]
structure TyM (u t:Tr)(p o:Lu)(ψ:Nat->Nat):Prop where
 n:∀j,j<u.nodes.length->(nd t (ψ j)).n=(nd u j).n
 pos:∀j,j<u.nodes.length->∀i,i<(nd u j).kids.length->(nd u (JH u j i)).k≠41->ψ (JH u j i)=JH t (ψ j) i
 of:∀j,j<u.nodes.length->JN u j=true->∃d:Nat,d<u.nodes.length/\JD u p j=d/\JD t o (ψ j)=(ψ d:Nat)/\((nd u j).k=26->(nd u d).k=65)
section
variable{u:Tr}(gu:GoodT u p)(g:GoodT t o)(h:TMap u t ψ)(M:TyM u t p o ψ)
theorem tm_nil {u t:Tr}{ψ:Nat->Nat}(h:TMap u t ψ){j:Nat}(hj:j<u.nodes.length):(nd t (ψ j)).kids=[]↔(nd u j).kids=[]:=by
 have hl:=h.len j hj
 constructor
 ·intro e;rw[e]at hl;exact Gn hl.symm
 ·intro e;rw[e]at hl;exact Gn hl
theorem tm_bare {u t:Tr}{ψ:Nat->Nat}(h:TMap u t ψ){j:Nat}(hj:j<u.nodes.length):X6 t (ψ j)↔X6 u j:=by unfold X6;rw[h.k j hj,tm_nil h hj]
include gu g h M
omit g in
theorem tm_last {j:Nat}(hj:j<u.nodes.length)(hl:0<(nd u j).kids.length)(hk:(nd u (Jh u j)).k≠41):ψ (Jh u j)=Jh t (ψ j)/\Jh u j<j:=by
 refine⟨?_,(Jt gu hj (i:=(nd u j).kids.length-1) om).2.1⟩;have e:=M.pos j hj ((nd u j).kids.length-1) om hk;have e2:Jh t (ψ j)=JH t (ψ j) ((nd u j).kids.length-1):=by show JH t (ψ j) ((nd t (ψ j)).kids.length-1)=_;rw[h.len j hj]
 rw[e2];exact e
theorem tm_rule{j:Nat}(hj:j<u.nodes.length):Xa t (JD t o (ψ j)).toNat (lisT t τ) (ψ j)=Xa u (JD u p j).toNat (lisT u λx=>τ (ψ x)) j:=by
 have hr:=h.rng j hj;have key:∀i,i<(nd u j).kids.length->ψ (JH u j i)=JH t (ψ j) i->KK t (lisT t τ) (ψ j) i=KK u (lisT u λx=>τ (ψ x)) j i:=λi hi e=>by have hm:=(Jt gu hj hi).2.1;unfold KK;rw[h.len j hj,if_pos hi,if_pos hi,<-e,YD (h.rng _ om),YD om]
 rw[JY,JY,h.k j hj,M.n j hj];refine Je7 (h.len j hj) (λh1 h2=>funext λi=>?_) (λe=>?_) (λe i hi=>?_) (λe i=>?_) (λe=>?_) (λe=>?_) (λe=>?_) (λe=>?_)
 ·by_cases hi:i<(nd u j).kids.length
  ·exact key i hi (h.pos j hj h1 h2 i hi)
  ·unfold KK;rw[h.len j hj,if_neg hi,if_neg hi]
 ·obtain⟨a,b,h1,h2,h3,h4,h5,h6,h7,h8⟩:=Yl gu hj e;change (nd u j).n=a at h1;change b<(nd u j).kids.length at h3;rw[h1,Ga];refine⟨key a om (M.pos j hj a om ?_),key _ om (M.pos j hj _ om ?_)⟩
  ·rw[(Jt gu hj (i:=a) om).2.2];have lS:1<=Jo u.nodes ((nd u j).kids.getD a 0)/\Jo u.nodes ((nd u j).kids.getD a 0)<=29:=h5;omega
  ·rw[(Jt gu hj (i:=(nd u j).kids.length-1) om).2.2];have lN:Jo u.nodes ((nd u j).kids.getD ((nd u j).kids.length-1) 0)=45:=h8;omega
 ·obtain⟨a,h1,h2,h3,h4⟩:=Jhj gu hj e;change (nd u j).n=a at h1;rw[h1,Ga]at hi|-;refine key _ om (M.pos j hj _ om ?_);rw[(Jt gu hj (i:=a+i) om).2.2];have h5:1<=Jo u.nodes ((nd u j).kids.getD (a+i) 0)/\Jo u.nodes ((nd u j).kids.getD (a+i) 0)<=29:=h4 (a+i) om (by show a+i<(nd u j).kids.length;omega);omega
 ·unfold Jcz;rw[h.len j hj];by_cases hi:i+1<(nd u j).kids.length
  ·rw[if_pos hi,if_pos hi];have hm:=(Jt gu hj hi).2.1;obtain⟨q1,q2,q3⟩:=JcW gu (u:=JH u j (i+1)) om (JcX gu hj e om hi);rw[<-h.pos j hj om om (i+1) hi,<-(tm_last gu h M om q1 om).1,YD (h.rng _ om),YD om]
  ·rw[if_neg hi,if_neg hi]
 ·exact tm_ty0 gu g h hj (by rcases e with e|e|e;exact .inl e;exact .inr (.inl om);exact .inr (.inr e))
 ·obtain⟨d,d1,d2,d3,d4⟩:=M.of j hj (by simp[JN,e]);rw[d2,d3,Ga,Ga];exact tm_sig gu g h M.n d1 (d4 e)
 ·obtain⟨d,d1,d2,d3,d4⟩:=M.of j hj (by simp[JN,e]);rw[d2,d3,Ga,Ga,YD (h.rng _ d1),YD d1]
 ·exact(tm_sig gu g h M.n hj e).2
theorem tm_ta(hA:TA t o τ):TA u p (λx=>τ (ψ x)) where
 nam j hj hk m hm:=by
  obtain⟨d,d1,d2,d3,d4⟩:=M.of j hj (by simp[JN,hk]);obtain rfl:m=d:=om
  have h1:=hA.nam (ψ j) (h.rng j hj) (by rw[h.k j hj];exact hk) (ψ m) d3;have e:valT t τ (ψ m)=valT u (λx=>τ (ψ x)) m:=by
   unfold valT;rw[h.k m d1];by_cases Bp:(nd u m).k=47
   ·rw[if_pos Bp,if_pos Bp]
   ·rw[if_neg Bp,if_neg Bp];have hn:=tm_nil h d1;by_cases hc:(nd u m).k=64\/(nd u m).k=42/\(nd u m).kids≠[]
    ·rw[if_pos hc,if_pos (by rw[Ne,hn];exact hc),tm_ty0 gu g h d1 (by rcases hc with hc|hc;exact .inr (.inl om);exact .inr (.inr hc))]
    ·rw[if_neg hc,if_neg (by rw[Ne,hn];exact hc)]
  rw[e]at h1;exact h1
 sets s hs hk:=by
  obtain⟨b1,b2,b3,b4⟩:=Kr gu hs hk;have hl:=(tm_last gu h M hs om om).1;have hn:nB t (ψ s)=nB u s:=by unfold nB;rw[M.n s hs]
  obtain⟨a1,a2,a3⟩:=hA.sets (ψ s) (h.rng s hs) (by rw[h.k s hs];exact hk);rw[<-hl,hn]at a1;refine⟨a1,λk Am=>?_,a3⟩;have h2:=a2 k om;rw[<-h.pos s hs om om k om,<-hl]at h2;exact h2
 rule j hj h3 AQ:=by obtain⟨l,h1,h2⟩:=hA.rule (ψ j) (h.rng j hj) (by rw[h.k j hj];exact h3) (by rw[h.k j hj];exact AQ);rw[tm_rule gu g h M hj]at h1;exact⟨l,h1,λhb=>h2 λCb=>hb ((tm_bare h hj).1 Cb)⟩
 fine j hj:=hA.fine (ψ j) (h.rng j hj)
theorem tm_acy(hc:Acy t o r):Acy u p (λx=>r (ψ x)):=λs hs hk i s' hi hb hn=>by
 obtain⟨b1,b2,b3,b4⟩:=Kr gu hs hk;have hl:=(tm_last gu h M hs om om).1;obtain⟨n1,m,n2,n3,n4⟩:=hn;obtain⟨d,d1,d2,d3,_⟩:=M.of i hi (by simp[JN,n1]);obtain rfl:m=d:=om
 refine hc (ψ s) (h.rng s hs) (by rw[h.k s hs];exact hk) (ψ i) (ψ s') (h.rng i hi) (by rw[<-hl];exact tm_blw gu g h om hb) ⟨by rw[h.k i hi];exact n1,ψ m,d3,(tm_bare h d1).2 n3,(tm_par gu g h d1 n4).1⟩
theorem Jes (hU:(QO u p).2=0)(hE:(QO t o).2=0)(hb:(JM t o).bad=none):(JM u p).bad=none/\∀j,j<u.nodes.length->JE (JM u p).got j=JE (JM t o).got (ψ j):=by obtain⟨h1,h2⟩:=typed_ta g hE hb;have h3:=tm_ta gu g h M h1;have h4:=tm_acy gu g h M h2;exact⟨(typed_iff gu hU).2 ⟨_,_,h3,h4⟩,typed_eq gu hU h3 h4⟩
end
section
variable(g:GoodT t o)
include g
end
section
variable(g:GoodT t o)
include g
theorem def_res(hd:d<t.nodes.length)(hk:(nd t d).k=65):(nd t d).n.toNat+1<(nd t d).kids.length:=by
 have h:=g.nds (nd t d) (by unfold nd;rw[Gb,Gf hd];exact Gi hd);have hl:=KP (l:=t.nodes) (x:=nd t d);unfold ndI Kb at h;rw[hk]at h;generalize lets t.nodes (nd t d)=hv at *;simp only[Gz,beq_iff_eq]at h;obtain⟨⟨⟨⟨_,h1⟩,_⟩,_,h3⟩,h4⟩:=h;have e:hv.length=QD 80 hv+QD 116 hv+1:=by have:=congrArg Gg h1;simp[Qo]at this;omega
 simp[Xf]at h3;simp[Q9,inI]at h4;omega
end
end Go.Cm
end
end
