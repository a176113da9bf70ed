/-
  A part of the proof. Conditions: none.
-/
import Derived.Test.YtejfnfphmkjffaaGreatDoorVP50
set_option linter.unusedSimpArgs false
set_option linter.unusedVariables false
open List renaming getD_eq_getElem?_getD->Ga,getElem?_eq_getElem->Gf,range->Gb,length_cons->Gi,getElem?_replicate->Gn,getElem_mem->Gj,filter_cons->Gl,length->Gh,eq_nil_of_length_eq_zero->Gp,pairwise_iff_getElem->Gq,length_eq_one_iff->Gr,getElem?_set->Gs,foldl_append->Gt,length_nil->Gu,mem_range->Gv,mem_cons->Gw,length_filter_le->GA,length_append->GD,length_range->GG,ext_getElem->GH,all_eq_true->GI,replicate->GJ
open Bool renaming or_eq_false_iff->Gx,and_eq_true->Gy
open Nat renaming le_refl->Gd,zero_add->Gm,lt_of_not_le->Gz
open Int renaming toNat_natCast->Gc
open Option.some renaming inj->Gg
noncomputable section
section
set_option maxRecDepth 100000
open Go.Proofs
namespace Go.Cm
inductive TyX where
 |int
 |bool
 |arr (a:TyX)
 |str (a:TyX)
 deriving DecidableEq,Inhabited
def QD:List UInt8:=[115,116,114,101,97,109,32]
def tyT:TyX->List UInt8
 |.int=>[105,110,116]
 |.bool=>[98,111,111,108]
 |.arr a=>91::(tyT a++[93])
 |.str a=>QD++tyT a
def tyP:TyX->Nat
 |.int=>1
 |.bool=>1
 |.arr a=>tyP a+1
 |.str a=>tyP a+1
theorem Jd8:∀{a b:TyX},tyT a=tyT b->a=b
 |.int,.int,_=>rfl
 |.bool,.bool,_=>rfl
 |.arr a,.arr b,h=>by
  simp only[tyT,List.cons.injEq,true_and]at h;rw[Jd8 (List.append_cancel_right h)]
 |.str a,.str b,h=>by
  simp only[tyT]at h;rw[Jd8 (List.append_cancel_left h)]
 |.int,.bool,h=>by simp[tyT]at h
 |.int,.arr _,h=>by simp[tyT]at h
 |.int,.str _,h=>by simp[tyT,QD]at h
 |.bool,.int,h=>by simp[tyT]at h
 |.bool,.arr _,h=>by simp[tyT]at h
 |.bool,.str _,h=>by simp[tyT,QD]at h
 |.arr _,.int,h=>by simp[tyT]at h
 |.arr _,.bool,h=>by simp[tyT]at h
 |.arr _,.str _,h=>by simp[tyT,QD]at h
 |.str _,.int,h=>by simp[tyT,QD]at h
 |.str _,.bool,h=>by simp[tyT,QD]at h
 |.str _,.arr _,h=>by simp[tyT,QD]at h
theorem tyT_eq {a b:TyX}:(tyT a == tyT b)=(a == b):=by
 rw[Bool.eq_iff_iff,beq_iff_eq,beq_iff_eq];exact⟨Jd8,λh=>by rw[h]⟩
theorem Jd7 {a:TyX}:tyT a≠[]:=by cases a <;> simp[tyT,QD]
abbrev TL:=List TyX
def tyF (t:Tr):Nat->Nat->TyX
 |0,_=>.int
 |f+1,i=>if (nd t i).k=60 then .int else if (nd t i).k=61 then .bool else if (nd t i).k=62 then .arr (tyF t f (JG t i 0)) else .str (tyF t f (JG t i 0))
def tyN (t:Tr)(i:Nat):TyX:=tyF t (i+1) i
def JaF (t:Tr)(d:Nat):TL:=(Gb (nd t d).n.toNat).map λk=>tyN t (JG t (JG t d k) 0)
def YA (t:Tr)(d:Nat):TL:=(Gb ((nd t d).kids.length-1-(nd t d).n.toNat)).map λk=>tyN t (JG t d ((nd t d).n.toNat+k))
def Ju (got:List TL)(i:Nat):TL:=got.getD i []
def Yt (ls:List TL):Option TL:=match ls with
 |[l]=>some l
 |_=>if ls.all (λl=>l.length == 1) then some (ls.map λl=>l.headD .int) else none
def Jcp (t:Tr)(got:List TL)(i j:Nat):TL:=if j<(nd t i).kids.length then Ju got (Ji t (JG t i j)) else []
def Xa (t:Tr)(m:Nat)(got:List TL)(i:Nat):Option TL:=
 let k:=(nd t i).k
 let K:=λj=>if j<(nd t i).kids.length then Ju got (JG t i j) else []
 if k=1 then some [.int]
 else if k=2 then some [.bool]
 else if k=4 then match K 1 with
  |[.str a]=>if K 0=[a] then some [.str a] else none
  |_=>none
 else if k=5\/k=6 then if K 0=[.bool]/\K 1=[.bool] then some [.bool] else none
 else if k=7\/k=8 then if K 0=[.int]/\K 1=[.int]\/K 0=[.bool]/\K 1=[.bool] then some [.bool] else none
 else if 9<=k/\k<=12 then if K 0=[.int]/\K 1=[.int] then some [.bool] else none
 else if 13<=k/\k<=17 then if K 0=[.int]/\K 1=[.int] then some [.int] else none
 else if k=18 then match K 0 with
  |[.arr a]=>if K 1=[.int] then some [a] else none
  |_=>none
 else if k=19 then if K 0=[.bool] then some [.bool] else none
 else if k=20 then if K 0=[.int] then some [.int] else none
 else if k=21 then match K 0 with
  |[.str a]=>some [a]
  |_=>none
 else if k=22 then match K 0 with
  |[.str a]=>some [.str a]
  |_=>none
 else if k=23 then match K 0 with
  |[.str _]=>some [.bool]
  |_=>none
 else if k=24 then match K 0 with
  |[.arr _]=>some [.int]
  |_=>none
 else if k=25 then some [.str (tyN t (JG t i 0))]
 else if k=26 then if (nd t i).kids.length=(JaF t m).length/\∀j,j<(nd t i).kids.length->K j=[(JaF t m).getD j .int] then some (YA t m) else none
 else if k=27 then if K 0=[.bool]/\K 1=K 2 then some (K 1) else none
 else if k=28 then if K (nd t i).n.toNat=[.bool] then some (K ((nd t i).kids.length-1)) else none
 else if k=29 then match Jcp t got i 1 with
  |[a]=>if ((Gb ((nd t i).kids.length-1)).all λj=>Jcp t got i (j+1) == [a])=true/\K 0=[.int] then some [.arr a] else none
  |_=>none
 else if k=40 then Yt ((Gb ((nd t i).kids.length-(nd t i).n.toNat)).map λj=>K ((nd t i).n.toNat+j))
 else if k=45 then Yt ((Gb (nd t i).kids.length).map K)
 else if k=42 then if (nd t i).kids=[] then some [] else some [tyN t (JG t i 0)]
 else if k=64 then some [tyN t (JG t i 0)]
 else if k=43 then if (K 0).length=1 then some (K 0) else none
 else if k=44 then if (Ju got m).length=1/\K 0=Ju got m then some [] else none
 else if k=47 then some [.int]
 else if k=65 then if K ((nd t i).kids.length-1)=YA t i then some [] else none
 else some []
def X4 (k:Nat)(b:Bool):List (Nat×Bool)->List (Nat×Bool)
 |[]=>[(k,b)]
 |(j,c)::l=>if j=k then(k,b)::l else(j,c)::X4 k b l
def J7 (l:List (Nat×Bool))(k:Nat):Bool:=match l with
 |[]=>false
 |(j,c)::l=>if j=k then c else J7 l k
theorem Xi {k j:Nat}{b:Bool}:∀{l:List (Nat×Bool)},J7 (X4 k b l) j=if j=k then b else J7 l j
 |[]=>by
  show (if k=j then b else J7 [] j)=if j=k then b else J7 [] j
  by_cases h:j=k
  ·rw[if_pos h,if_pos h.symm]
  ·rw[if_neg h,if_neg (λe:k=j=>h e.symm)]
 |(a,c)::l=>by
  rw[X4];by_cases h:a=k
  ·subst h;rw[if_pos rfl,J7,J7];by_cases e:j=a
   ·subst e;simp
   ·rw[if_neg (λx=>e x.symm),if_neg e,if_neg (λx=>e x.symm)]
  ·rw[if_neg h,J7,J7,Xi];by_cases e:a=j
   ·subst e;rw[if_pos rfl,if_pos rfl,if_neg h]
   ·rw[if_neg e,if_neg e]
structure FS where
 got:List TL
 dn:List Bool
 fd:List (Nat×Bool)
 fg:List (Nat×Bool)
 bad:Option Nat
def FS.fail (S:FS)(i:Nat):FS:=if S.bad.isSome then S else { S with bad:=some i }
def X6 (l:TL):Bool:=l.all λa=>decide (tyP a<=20)
def FS.fin (S:FS)(i:Nat)(r:Option TL):FS:=match r with
 |none=>S.fail i
 |some l=>if S.bad.isSome then S else if X6 l=true then { S with got:=if l=[] then S.got else S.got.set i l,dn:=S.dn.set i true } else S.fail i
def JaW (t:Tr)(s:Nat)(l:TL)(got:List TL):Nat->List TL
 |0=>got
 |k+1=>if (nd t (JG t s k)).kids=[] then(JaW t s l got k).set (JG t s k) [l.getD k .int] else JaW t s l got k
def J5 (t:Tr)(s:Nat)(S:FS):FS:=
 let l:=Ju S.got (Ji t s)
 if l.length=(nd t s).n.toNat then { S with got:=JaW t s l S.got (nd t s).n.toNat,fd:=X4 s true S.fd } else S.fail s
def KQ (a n:Nat):List Nat:=(Gb n).map λj=>a+j
def Xd (t:Tr)(o:List Int)(go:FS->Nat->FS)(s i:Nat)(S:FS):FS:=
 if J7 S.fg s=true then S.fail i
 else
  let e:=Ji t s
  let S1:=(KQ (fs o e).toNat (e+1-(fs o e).toNat)).foldl go { S with fg:=X4 s true S.fg }
  let S2:=if S1.bad.isSome then S1 else J5 t s S1
  { S2 with fg:=X4 s false S2.fg }
def JbF (t:Tr)(o:List Int)(go:FS->Nat->FS)(m i:Nat)(S:FS):FS×Option TL:=
 if (nd t m).k=47 then(S,some [.int])
 else if (nd t m).k=64\/(nd t m).k=42/\(nd t m).kids≠[] then(S,some [tyN t (JG t m 0)])
 else if (nd t m).k=42/\J7 S.fd (Kk t m).toNat=false then
  let S':=Xd t o go (Kk t m).toNat i S
  (S',some (Ju S'.got m))
 else(S,some (Ju S.got m))
def Jab (t:Tr)(s:Nat)(l:TL):Bool:=(Gb (nd t s).n.toNat).all λk=>(nd t (JG t s k)).kids.isEmpty || tyN t (JG t (JG t s k) 0) == l.getD k .int
def Jag (t:Tr)(s:Nat)(S:FS):FS:=if J7 S.fd s=true then S else J5 t s S
def doF (t:Tr)(o:List Int)(mean:Nat->Nat):Nat->FS->Nat->FS
 |0,S,_=>S
 |f+1,S,i=>
  if S.bad.isSome || S.dn.getD i false then S
  else if (nd t i).k=3 then
   let r:=JbF t o (doF t o mean f) (mean i) i S
   r.1.fin i r.2
  else if (nd t i).k=41 then
   let S':=Jag t i S
   S'.fin i (if Jab t i (Ju S'.got (Ji t i))=true then some [] else none)
  else S.fin i (Xa t (mean i) S.got i)
def FS.start (t:Tr):FS:=⟨GJ t.nodes.length [],GJ t.nodes.length false,[],[],none⟩
def JX (t:Tr)(o:List Int):FS:=(Gb t.nodes.length).foldl (doF t o (λi=>(JN t o i).toNat) (t.nodes.length+1)) (FS.start t)
section
theorem getD_setB {l:List Bool}{i j:Nat}{b:Bool}(h:i<l.length):(l.set i b).getD j false=if j=i then b else l.getD j false:=by
 simp only[Ga,Gs];by_cases e:j=i
 ·subst e;simp[h]
 ·rw[if_neg (λx=>e x.symm),if_neg e]
theorem Jas {got:List TL}{i j:Nat}{x:TL}(h:i<got.length):Ju (got.set i x) j=if j=i then x else Ju got j:=by
 unfold Ju;simp only[Ga,Gs];by_cases e:j=i
 ·subst e;simp[h]
 ·rw[if_neg (λx=>e x.symm),if_neg e]
def Jay (t:Tr)(i:Nat):Prop:=(nd t i).k=42/\(nd t i).kids=[]
def nB (t:Tr)(s:Nat):Nat:=(nd t s).n.toNat
theorem Jak {t:Tr}{s:Nat}{l:TL}{got:List TL}:∀m,(JaW t s l got m).length=got.length
 |0=>rfl
 |m+1=>by
  rw[JaW]
  split
  ·rw[List.length_set,Jak m]
  ·exact Jak m
theorem JdO {t:Tr}{s:Nat}{l:TL}{got:List TL}{j:Nat}:∀m,(∀k,k<m->(nd t (JG t s k)).kids=[]->JG t s k≠j)->Ju (JaW t s l got m) j=Ju got j
 |0,_=>rfl
 |m+1,h=>by
  have ih:=JdO (t:=t) (s:=s) (l:=l) (got:=got) m λk hk=>h k (by omega)
  rw[JaW]
  split
  ·rename_i hb;have Ai:=h m (by omega) hb;unfold Ju at ih|-;rw[Ga,List.getElem?_set_ne Ai,<-Ga];exact ih
  ·exact ih
theorem putB_in {t:Tr}{s:Nat}{l:TL}{got:List TL}(AQ:∀k,(nd t (JG t s k)).kids=[]->k<nB t s->JG t s k<got.length)(FY:∀k j,k<nB t s->j<nB t s->JG t s k=JG t s j->k=j):∀m,m<=nB t s->∀k,k<m->(nd t (JG t s k)).kids=[]->Ju (JaW t s l got m) (JG t s k)=[l.getD k .int]
 |0,_,k,hk,_=>by omega
 |m+1,hm,k,hk,hb=>by
  rw[JaW];by_cases he:k=m
  ·subst he;rw[if_pos hb,Jas (by rw[Jak];exact AQ k hb (by omega)),if_pos rfl]
  ·have ih:=putB_in (l:=l) (got:=got) AQ FY m (by omega) k (by omega) hb
   split
   ·rename_i Cr;rw[Jas (by rw[Jak];exact AQ m Cr (by omega)),if_neg (λe=>he (FY _ _ (by omega) (by omega) e))];exact ih
   ·exact ih
structure FI (t:Tr)(S:FS):Prop where
 gl:S.got.length=t.nodes.length
 dl:S.dn.length=t.nodes.length
 emp:∀i,S.dn.getD i false=false->¬Jay t i->Ju S.got i=[]
 unf:∀s,s<t.nodes.length->(nd t s).k=41->J7 S.fd s=false->∀k,k<nB t s->(nd t (JG t s k)).kids=[]->Ju S.got (JG t s k)=[]
 fnd:∀s,J7 S.fd s=true->s<t.nodes.length/\(nd t s).k=41/\(Ju S.got (Ji t s)).length=nB t s/\∀k,k<nB t s->(nd t (JG t s k)).kids=[]->Ju S.got (JG t s k)=[(Ju S.got (Ji t s)).getD k .int]
 fine:∀i,X6 (Ju S.got i)=true
 ini:∀i,i<t.nodes.length->S.dn.getD i false=true->(nd t i).k=43->(Ju S.got i).length=1
 typ:∀i,i<t.nodes.length->S.dn.getD i false=true->(nd t i).k=42->(nd t i).kids≠[]->Ju S.got i=[tyN t (JG t i 0)]
structure FG (t:Tr)(S S':FS):Prop where
 keep:∀i,Ju S.got i≠[]->Ju S'.got i=Ju S.got i
 dn:∀i,S.dn.getD i false=true->S'.dn.getD i false=true
 dk:∀i,S.dn.getD i false=true->¬Jay t i->Ju S'.got i=Ju S.got i
 fd:∀s,J7 S.fd s=true->J7 S'.fd s=true
 fg:∀s,J7 S'.fg s=J7 S.fg s
 bad:S.bad.isSome=true->S'.bad=S.bad
theorem FG.refl {t:Tr}{S:FS}:FG t S S:=⟨λ_ _=>rfl,λ_ h=>h,λ_ _ _=>rfl,λ_ h=>h,λ_=>rfl,λ_=>rfl⟩
theorem FG.trans {t:Tr}{A B C:FS}(h:FG t A B)(k:FG t B C):FG t A C where
 keep i hi:=by
  have h1:=h.keep i hi;rw[k.keep i (by rw[h1];exact hi),h1]
 dn i hi:=k.dn i (h.dn i hi)
 dk i hi hb:=(k.dk i (h.dn i hi) hb).trans (h.dk i hi hb)
 fd s hs:=k.fd s (h.fd s hs)
 fg s:=(k.fg s).trans (h.fg s)
 bad hb:=(k.bad (by rw[h.bad hb];exact hb)).trans (h.bad hb)
theorem FI.fail {t:Tr}{S:FS}(h:FI t S)(i:Nat):FI t (S.fail i)/\FG t S (S.fail i)/\(S.fail i).bad.isSome=true:=by
 unfold FS.fail
 split
 ·rename_i hb;exact⟨h,.refl,hb⟩
 ·rename_i hb;exact⟨⟨h.gl,h.dl,h.emp,h.unf,h.fnd,h.fine,h.ini,h.typ⟩,⟨λ_ _=>rfl,λ_ h=>h,λ_ _ _=>rfl,λ_ h=>h,λ_=>rfl,λCr=>absurd Cr hb⟩,rfl⟩
section
variable {t:Tr}{o:List Int}(g:GoodT t o)
include g
theorem KF {s:Nat}(hs:s<t.nodes.length)(hk:(nd t s).k=41):(nd t s).kids.length=nB t s+1/\(∀k,k<nB t s->(nd t (JG t s k)).k=42/\JG t s k<s)/\(1<=(nd t (Ji t s)).k/\(nd t (Ji t s)).k<=29)/\Ji t s<s:=by
 obtain⟨a,h1,h2,h3,h4⟩:=YH g hs hk;change (nd t s).n=a at h1;change (nd t s).kids.length=a+1 at h2;have hn:nB t s=a:=by unfold nB;omega
 have hm:=Jz g hs (i:=(nd t s).kids.length-1) (by omega);refine⟨by omega,λk Av=>?_,?_,hm.2.1⟩
 ·have h5:=Jz g hs (i:=k) (by omega);exact⟨by rw[h5.2.2];exact h3 k (by omega),h5.2.1⟩
 ·change (1<=(nd t (JG t s ((nd t s).kids.length-1))).k)/\_;show _/\(nd t (JG t s ((nd t s).kids.length-1))).k<=29;rw[hm.2.2,h2,show a+1-1=a by omega];exact h4
theorem set_ge1 {s:Nat}(hs:s<t.nodes.length)(hk:(nd t s).k=41):1<=nB t s:=by
 have hn:=g.nds (nd t s) (by unfold nd;rw[Ga,Gf hs];exact Gj hs);rw[ndI_R]at hn;simp only[Gy]at hn;have h:=hn.2;unfold Qf at h;rw[hk]at h;simp[inI]at h;unfold nB;omega
theorem kid_inj {s i j:Nat}(hs:s<t.nodes.length)(hi:i<(nd t s).kids.length)(hj:j<(nd t s).kids.length)(he:JG t s i=JG t s j):i=j:=by
 have ha:=Jg0 g hs;have h1:=g.kid hs (Gj hi);have h2:=g.kid hs (Gj hj);unfold JG at he;rw[Ga,Ga,Gf hi,Gf hj]at he;simp only[Option.getD_some]at he;rcases Nat.lt_trichotomy i j with h|h|h
 ·have:=Gq.1 ha i j hi hj h;omega
 ·exact h
 ·have:=Gq.1 ha j i hj hi h;omega
theorem kid_one2 {s u i j:Nat}(hs:s<t.nodes.length)(hu:u<t.nodes.length)(hi:i<(nd t s).kids.length)(hj:j<(nd t u).kids.length)(he:JG t s i=JG t u j):s=u:=by
 have h1:=(JR g hs (Jz g hs hi).1).1;have h2:=(JR g hu (Jz g hu hj).1).1;rw[he]at h1;omega
theorem settle_ok {S:FS}{s:Nat}(h:FI t S)(hs:s<t.nodes.length)(hk:(nd t s).k=41)(hf:J7 S.fd s=false):FI t (J5 t s S)/\FG t S (J5 t s S)/\((J5 t s S).bad=none->J7 (J5 t s S).fd s=true):=by
 obtain⟨b1,b2,b3,b4⟩:=KF g hs hk;unfold J5;simp only
 split
 case isFalse=>
  obtain⟨f1,f2,f3⟩:=h.fail s;exact⟨f1,f2,λhb=>by rw[hb]at f3;cases f3⟩
 case isTrue hl=>
  have hl:(Ju S.got (Ji t s)).length=nB t s:=hl;have AQ:∀k,(nd t (JG t s k)).kids=[]->k<nB t s->JG t s k<S.got.length:=λk _ Av=>by have:=(b2 k Av).2;rw[h.gl];omega
  have FY:∀k j,k<nB t s->j<nB t s->JG t s k=JG t s j->k=j:=λk j h1 h2 he=>kid_inj g hs (by omega) (by omega) he
  have pin:=putB_in (l:=Ju S.got (Ji t s)) (got:=S.got) AQ FY (nB t s) (Gd _);have pout:∀j,(∀k,k<nB t s->(nd t (JG t s k)).kids=[]->JG t s k≠j)->Ju (JaW t s (Ju S.got (Ji t s)) S.got (nB t s)) j=Ju S.got j:=λj hj=>JdO _ hj
  have pnb:∀j,¬Jay t j->Ju (JaW t s (Ju S.got (Ji t s)) S.got (nB t s)) j=Ju S.got j:=λj hj=>pout j λk Av hb he=>hj ⟨by rw[<-he];exact(b2 k Av).1,by rw[<-he];exact hb⟩
  have Fh:Ju (JaW t s (Ju S.got (Ji t s)) S.got (nB t s)) (Ji t s)=Ju S.got (Ji t s):=pnb _ λhb=>by have:=hb.1;omega
  change FI t { S with got:=JaW t s (Ju S.got (Ji t s)) S.got (nB t s),fd:=X4 s true S.fd }/\FG t S { S with got:=JaW t s (Ju S.got (Ji t s)) S.got (nB t s),fd:=X4 s true S.fd }/\(_->J7 (X4 s true S.fd) s=true);have AU:∀u,u<t.nodes.length->(nd t u).k=41->u≠s->∀k,k<nB t u->Ju (JaW t s (Ju S.got (Ji t s)) S.got (nB t s)) (JG t u k)=Ju S.got (JG t u k):=λu hu Ic Ai k Av=>by
   obtain⟨c1,_⟩:=KF g hu Ic;exact pout _ λk' AA _ he=>Ai (kid_one2 g hs hu (by omega) (by omega) he).symm
  refine⟨⟨by rw[Jak];exact h.gl,h.dl,λi hi hb=>?_,λu hu Ic Oa k Av hb=>?_,λu Oa=>?_,λi=>?_,λi hi hd Cy=>?_,λi hi hd Ck Ai=>?_⟩,⟨λi hi=>?_,λ_ h=>h,λi _ hb=>pnb i hb,λu hu=>?_,λ_=>rfl,λ_=>rfl⟩,λ_=>by rw[Xi,if_pos rfl]⟩
  ·rw[pnb i hb];exact h.emp i hi hb
  ·rw[Xi]at Oa
   split at Oa
   ·cases Oa
   ·rename_i Ai;rw[AU u hu Ic Ai k Av];exact h.unf u hu Ic Oa k Av hb
  ·rw[Xi]at Oa;by_cases he:u=s
   ·subst he;exact⟨hs,hk,by rw[Fh];exact hl,λk Av hb=>by rw[Fh];exact pin k Av hb⟩
   ·rw[if_neg he]at Oa;obtain⟨q1,q2,q3,q4⟩:=h.fnd u Oa;obtain⟨c1,c2,c3,c4⟩:=KF g q1 q2;have bL:Ju (JaW t s (Ju S.got (Ji t s)) S.got (nB t s)) (Ji t u)=Ju S.got (Ji t u):=pnb _ λhb=>by have:=hb.1;omega
    refine⟨q1,q2,by rw[bL];exact q3,λk Av hb=>?_⟩;rw[bL,AU u q1 q2 he k Av];exact q4 k Av hb
  ·by_cases hx:∃k,k<nB t s/\(nd t (JG t s k)).kids=[]/\JG t s k=i
   ·obtain⟨k,Av,hb,rfl⟩:=hx;rw[pin k Av hb];have I8:=h.fine (Ji t s);unfold X6 at I8|-;rw[GI]at I8;have:=I8 ((Ju S.got (Ji t s)).getD k .int) (by rw[Ga,Gf (by omega)];exact Gj _);rw[List.all_cons,this];rfl
   ·rw[pout i λk Av hb he=>hx ⟨k,Av,hb,he⟩];exact h.fine i
  ·rw[pnb i λhb=>by have:=hb.1;omega];exact h.ini i hi hd Cy
  ·rw[pnb i λhb=>Ai hb.2];exact h.typ i hi hd Ck Ai
  ·by_cases hx:∃k,k<nB t s/\(nd t (JG t s k)).kids=[]/\JG t s k=i
   ·obtain⟨k,Av,hb,rfl⟩:=hx;exact absurd (h.unf s hs hk hf k Av hb) hi
   ·exact pout i λk Av hb he=>hx ⟨k,Av,hb,he⟩
  ·rw[Xi];split
   ·rfl
   ·exact hu
theorem Jf4 {S:FS}{i:Nat}{r:Option TL}(h:FI t S)(hi:i<t.nodes.length)(hd:S.dn.getD i false=false)(hr:∀l,r=some l->(Jay t i->l=[])/\((nd t i).k=43->l.length=1)/\((nd t i).k=42->(nd t i).kids≠[]->l=[tyN t (JG t i 0)])):FI t (S.fin i r)/\FG t S (S.fin i r)/\((S.fin i r).bad=none->(S.fin i r).dn.getD i false=true):=by
 unfold FS.fin
 cases r with
 |none=>
  obtain⟨f1,f2,f3⟩:=h.fail i;exact⟨f1,f2,λhb=>by simp only at hb;rw[hb]at f3;cases f3⟩
 |some l=>
  obtain⟨r1,r2,r3⟩:=hr l rfl;simp only
  split
  ·rename_i hb;exact⟨h,.refl,λh2=>by rw[h2]at hb;cases hb⟩
  split
  case isFalse=>
   obtain⟨f1,f2,f3⟩:=h.fail i;exact⟨f1,f2,λhb=>by rw[hb]at f3;cases f3⟩
  case isTrue I4 RU=>
   have OX:∀j,(S.dn.set i true).getD j false=if j=i then true else S.dn.getD j false:=λj=>getD_setB (by rw[h.dl];exact hi)
   have Po:∀j,Ju (if l=[] then S.got else S.got.set i l) j=if j=i/\l≠[] then l else Ju S.got j:=λj=>by
    by_cases hl:l=[]
    ·rw[if_pos hl,if_neg (λh=>h.2 hl)]
    ·rw[if_neg hl,Jas (by rw[h.gl];exact hi)];by_cases e:j=i
     ·rw[if_pos e,if_pos ⟨e,hl⟩]
     ·rw[if_neg e,if_neg (λh=>e h.1)]
   have A7:(if l=[] then S.got else S.got.set i l).length=t.nodes.length:=by split <;> simp[h.gl]
   generalize hG:(if l=[] then S.got else S.got.set i l)=G at Po A7;have AR:∀j,j≠i->Ju G j=Ju S.got j:=λj hj=>by rw[Po,if_neg (λh=>hj h.1)]
   have M8:¬Jay t i->Ju S.got i=[]:=h.emp i hd;have aF:Jay t i->Ju G i=Ju S.got i:=λhb=>by rw[Po,if_neg (λh=>h.2 (r1 hb))]
   have CR:∀j,Ju S.got j≠[]->Ju G j=Ju S.got j:=λj hj=>by
    by_cases e:j=i
    ·subst e;by_cases hb:Jay t j
     ·exact aF hb
     ·exact absurd (M8 hb) hj
    ·exact AR j e
   have Oe:∀j,Jay t j->Ju G j=Ju S.got j:=λj hb=>by
    by_cases e:j=i
    ·subst e;exact aF hb
    ·exact AR j e
   have aP:¬Jay t i->Ju G i=l:=λhb=>by
    rw[Po];by_cases hl:l=[]
    ·rw[if_neg (λh=>h.2 hl),M8 hb,hl]
    ·rw[if_pos ⟨rfl,hl⟩]
   refine⟨⟨A7,by simp[h.dl],λj hj hb=>?_,λs hs hk hf k Av hb=>?_,λs hf=>?_,λj=>?_,λj hj BF Cy=>?_,λj hj BF Ck Ai=>?_⟩,⟨CR,λj hj=>by rw[OX];split <;> first|rfl|exact hj,λj hj hb=>?_,λ_ h=>h,λ_=>rfl,λhb=>absurd hb I4⟩,λ_=>by rw[OX,if_pos rfl]⟩
   ·rw[OX]at hj
    split at hj
    ·cases hj
    ·rename_i e;rw[AR j e];exact h.emp j hj hb
   ·obtain⟨b1,b2,_⟩:=KF g hs hk;rw[Oe _ ⟨(b2 k Av).1,hb⟩];exact h.unf s hs hk hf k Av hb
   ·obtain⟨q1,q2,q3,q4⟩:=h.fnd s hf;obtain⟨b1,b2,b3,b4⟩:=KF g q1 q2;have Ai:Ju S.got (Ji t s)=Ju G (Ji t s)\/nB t s=0:=by
     by_cases hz:Ju S.got (Ji t s)=[]
     ·exact .inr (by rw[hz]at q3;simpa using q3.symm)
     ·exact .inl (CR _ hz).symm
    rcases Ai with Ai|Ai
    ·exact⟨q1,q2,by rw[<-Ai];exact q3,λk Av hb=>by rw[<-Ai,Oe _ ⟨(b2 k Av).1,hb⟩];exact q4 k Av hb⟩
    ·have:=set_ge1 g q1 q2;omega
   ·by_cases e:j=i
    ·subst e;by_cases hb:Jay t j
     ·rw[aF hb];exact h.fine j
     ·rw[aP hb];exact RU
    ·rw[AR j e];exact h.fine j
   ·by_cases e:j=i
    ·subst e;rw[aP λhb=>by have:=hb.1;omega];exact r2 Cy
    ·rw[OX,if_neg e]at BF;rw[AR j e];exact h.ini j hj BF Cy
   ·by_cases e:j=i
    ·subst e;rw[aP λhb=>Ai hb.2];exact r3 Ck Ai
    ·rw[OX,if_neg e]at BF;rw[AR j e];exact h.typ j hj BF Ck Ai
   ·by_cases e:j=i
    ·subst e;rw[hd]at hj;cases hj
    ·exact AR j e
end
end
section
theorem FI.ext {t:Tr}{S S':FS}(h:FI t S)(h1:S'.got.length=S.got.length)(h2:S'.dn.length=S.dn.length)(h3:∀j,Ju S'.got j=Ju S.got j)(h4:∀j,S'.dn.getD j false=S.dn.getD j false)(h5:∀s,J7 S'.fd s=J7 S.fd s):FI t S':=
 ⟨h1.trans h.gl,h2.trans h.dl,λi hi hb=>by rw[h3];rw[h4]at hi;exact h.emp i hi hb,λs hs hk hf k Av hb=>by rw[h5]at hf;rw[h3];exact h.unf s hs hk hf k Av hb,λs hf=>by
  rw[h5]at hf;obtain⟨q1,q2,q3,q4⟩:=h.fnd s hf;exact⟨q1,q2,by rw[h3];exact q3,λk hk hb=>by rw[h3,h3];exact q4 k hk hb⟩,λi=>by rw[h3];exact h.fine i,λi hi hd hk=>by rw[h4]at hd;rw[h3];exact h.ini i hi hd hk,λi hi hd hk hn=>by rw[h4]at hd;rw[h3];exact h.typ i hi hd hk hn⟩
theorem FG.ext {t:Tr}{S S':FS}(h3:∀j,Ju S'.got j=Ju S.got j)(h4:∀j,S'.dn.getD j false=S.dn.getD j false)(h5:∀s,J7 S'.fd s=J7 S.fd s)(h6:∀s,J7 S'.fg s=J7 S.fg s)(h7:S.bad.isSome=true->S'.bad=S.bad):FG t S S':=
 ⟨λi _=>h3 i,λi hi=>by rw[h4];exact hi,λi _ _=>h3 i,λs hs=>by rw[h5];exact hs,h6,h7⟩
def JhB (t:Tr)(S:FS)(m:Nat):TL:=if (nd t m).k=47 then [.int] else if (nd t m).k=64\/(nd t m).k=42/\(nd t m).kids≠[] then [tyN t (JG t m 0)] else Ju S.got m
def FM (t:Tr)(o:List Int)(S:FS):Prop:=∀i,i<t.nodes.length->(nd t i).k=3->S.dn.getD i false=true->∀m:Nat,JN t o i=m->Ju S.got i=JhB t S m/\JhB t S m≠[]
theorem valN_keep {t:Tr}{S S':FS}{m:Nat}(h:FG t S S')(hv:JhB t S m≠[]):JhB t S' m=JhB t S m:=by
 unfold JhB at hv|-;by_cases h1:(nd t m).k=47
 ·rw[if_pos h1,if_pos h1]
 ·rw[if_neg h1]at hv|-;rw[if_neg h1];by_cases h2:(nd t m).k=64\/(nd t m).k=42/\(nd t m).kids≠[]
  ·rw[if_pos h2,if_pos h2]
  ·rw[if_neg h2]at hv|-;rw[if_neg h2];exact h.keep m hv
theorem FM.step {t:Tr}{o:List Int}{S S':FS}(h:FM t o S)(hg:FG t S S')(hn:∀i,i<t.nodes.length->(nd t i).k=3->S'.dn.getD i false=true->S.dn.getD i false=false->∀m:Nat,JN t o i=m->Ju S'.got i=JhB t S' m/\JhB t S' m≠[]):FM t o S':=λi hi hk hd m hm=>by
 cases hs:S.dn.getD i false with
 |false=>exact hn i hi hk hd hs m hm
 |true=>
  obtain⟨h1,h2⟩:=h i hi hk hs m hm;have h3:=valN_keep hg h2;refine⟨?_,by rw[h3];exact h2⟩;rw[h3,<-h1];exact hg.dk i hs λhb=>by have:=hb.1;omega
def uf (t:Tr)(S:FS):Nat:=((Gb t.nodes.length).filter λs=>!J7 S.fg s).length
theorem uf_eq {t:Tr}{S S':FS}(h:FG t S S'):uf t S'=uf t S:=by
 unfold uf;exact congrArg Gh (List.filter_congr λs _=>by rw[h.fg])
theorem JeU {p q:Nat->Bool}{s:Nat}:∀{l:List Nat},s∈l->(∀x,q x=true->p x=true)->p s=true->q s=false->(l.filter q).length<(l.filter p).length
 |a::l,hs,Iy,hp,hq=>by
  have A9:∀m:List Nat,(m.filter q).length<=(m.filter p).length:=λm=>by
   induction m with
   |nil=>exact Gd _
   |cons x m ih=>
    rw[Gl,Gl]
    cases hx:q x with
    |true=>rw[if_pos rfl,Iy x hx,if_pos rfl];simpa using ih
    |false=>
     rw[if_neg (by simp)]
     split
     ·rw[Gi];omega
     ·exact ih
  rcases Gw.1 hs with rfl|h
  ·rw[Gl,Gl,hq,hp,if_neg (by simp),if_pos rfl,Gi];have:=A9 l;omega
  ·have ih:=JeU h Iy hp hq;rw[Gl,Gl]
   cases hx:q a with
   |true=>rw[if_pos rfl,Iy a hx,if_pos rfl];simpa using ih
   |false=>
    rw[if_neg (by simp)]
    split
    ·rw[Gi];omega
    ·exact ih
theorem Jgp {t:Tr}{S:FS}{s:Nat}(hs:s<t.nodes.length)(h:J7 S.fg s=false):uf t { S with fg:=X4 s true S.fg } < uf t S:=by
 refine JeU (Gv.2 hs) (λx hx=>?_) (by rw[h];rfl) (by rw[Xi,if_pos rfl];rfl);rw[Xi]at hx
 split at hx
 ·cases hx
 ·exact hx
def JhE (t:Tr)(o:List Int)(S:FS)(i:Nat):Prop:=S.bad=none->(∀c:Nat,(c:Int)∈(nd t i).kids->S.dn.getD c false=true)/\∀v,v<t.nodes.length->(nd t v).k=43->v<i->blw o i (Kk t v).toNat->S.dn.getD v false=true
def GoOk (t:Tr)(o:List Int)(f:Nat)(go:FS->Nat->FS):Prop:=∀S i,FI t S->FM t o S->i<t.nodes.length->JhE t o S i->uf t S<f->FI t (go S i)/\FM t o (go S i)/\FG t S (go S i)/\((go S i).bad=none->(go S i).dn.getD i false=true)
theorem Jhz {t:Tr}{S S':FS}(h:FG t S S')(hb:S'.bad=none):S.bad=none:=by
 cases hs:S.bad with
 |none=>rfl
 |some x=>rw[h.bad (by rw[hs];rfl),hs]at hb;cases hb
theorem JaN {a k:Nat}:KQ a (k+1)=KQ a k++[a+k]:=by
 unfold KQ;rw[List.range_succ,List.map_append];rfl
theorem JaO {t:Tr}{o:List Int}{f:Nat}{go:FS->Nat->FS}(Ca:GoOk t o f go){S:FS}(hI:FI t S)(hM:FM t o S)(hu:uf t S<f){a m:Nat}(Md:a+m<=t.nodes.length)(hP:∀S' j,FG t S S'->j<m->(S'.bad=none->∀j',j' < j->S'.dn.getD (a+j') false=true)->JhE t o S' (a+j)) :
  ∀k,k<=m->FI t ((KQ a k).foldl go S)/\FM t o ((KQ a k).foldl go S)/\FG t S ((KQ a k).foldl go S)/\(((KQ a k).foldl go S).bad=none->∀j,j<k->((KQ a k).foldl go S).dn.getD (a+j) false=true)
 |0,_=>⟨hI,hM,.refl,λ_ j hj=>by omega⟩
 |k+1,hk=>by
  obtain⟨h1,h2,h3,h4⟩:=JaO Ca hI hM hu Md hP k (by omega);rw[JaN,Gt];generalize (KQ a k).foldl go S=S1 at *;obtain⟨q1,q2,q3,q4⟩:=Ca S1 (a+k) h1 h2 (by omega) (hP S1 k h3 (by omega) h4) (by rw[uf_eq h3];exact hu);simp only[List.foldl_cons,List.foldl_nil];refine⟨q1,q2,h3.trans q3,λhb j hj=>?_⟩;by_cases e:j=k
  ·subst e;exact q4 hb
  ·exact q3.dn _ (h4 (Jhz q3 hb) j (by omega))
section
variable {t:Tr}{o:List Int}(g:GoodT t o)
include g
theorem Jc7 {w v a x:Nat}(hw:w<t.nodes.length)(hv:(v:Int)∈(nd t w).kids)(ha:(a:Int)∈(nd t w).kids)(hx:blw o x a)(Ai:v≠a)(h:v<a):v<x:=by
 have h1:=λh1 h2=>kid_one g hw hv ha (j:=v) h1 h2
 have FD:=(JR g hw hv).2;have h2:¬blw o v a:=λhb=>Ai (h1 (Jbw g (by omega)) hb)
 have h3:=hx.2;have h4:¬fs o (a:Int)<=(v:Int):=λh5=>h2 ⟨by omega,h5⟩
 omega
theorem JeE {w v a:Nat}(hw:w<t.nodes.length)(hk:(nd t w).k=28)(hv:(v:Int)∈(nd t w).kids)(Cj:(nd t v).k=43)(ha:(a:Int)∈(nd t w).kids)(DD:(nd t a).k≠43):v<a:=by
 obtain⟨N,M,h1,h2,h3,h4,h5,h6,h7,h8⟩:=XZ g hw hk;obtain⟨i,hi,Di,Z5⟩:=Jcr hv;obtain⟨j,hj,Co,Ea⟩:=Jcr ha;have MC:∀x:Nat,Jt t.nodes (x:Int)=(nd t x).k:=λx=>by unfold Jt nd;rw[Gc]
 change ∀i,i<N->Jt t.nodes ((nd t w).kids.getD i 0)=43 at h4;change 1<=Jt t.nodes ((nd t w).kids.getD N 0)/\Jt t.nodes ((nd t w).kids.getD N 0)<=29 at h5;change ∀i,N+1<=i->i<M->Jt t.nodes ((nd t w).kids.getD i 0)=41 at h6;change ∀i,M<=i->i+1<(nd t w).kids.length->Jt t.nodes ((nd t w).kids.getD i 0)=44 at h7;change Jt t.nodes ((nd t w).kids.getD ((nd t w).kids.length-1) 0)=45 at h8;have jq:N<=j:=by
  refine Nat.le_of_not_lt λAb=>DD ?_
  have:=h4 j Ab;rw[Ea,MC]at this;exact this
 have Pn:i<N:=by
  refine Gz λCb=>?_
  have RI:Jt t.nodes ((nd t w).kids.getD i 0)=43:=by rw[Z5,MC];exact Cj
  rcases (show i=N\/(N+1<=i/\i<M)\/(M<=i/\i+1<(nd t w).kids.length)\/i=(nd t w).kids.length-1 by omega) with e|⟨e1,e2⟩|⟨e1,e2⟩|e
  ·rw[e]at RI;omega
  ·have:=h6 i e1 e2;omega
  ·have:=h7 i e1 e2;omega
  ·rw[e]at RI;omega
 have Dl:=Jg0 g hw;have h9:=Gq.1 Dl i j hi hj (by omega);rw[Ga,Gf hi]at Z5;rw[Ga,Gf hj]at Ea;simp only[Option.getD_some]at Z5 Ea;omega
theorem init_loop {w v:Nat}(hw:w<t.nodes.length)(hv:(v:Int)∈(nd t w).kids)(hk:(nd t v).k=43):(nd t w).k=28:=(Yu (JcY g hw hv)).2.1 (by rw[hk];rfl)
theorem Jee {i m s x v:Nat}(hs:s<t.nodes.length)(BH:(nd t s).k=41)(hm:(m:Int)∈(nd t s).kids)(Cv:(nd t m).k=42)(AQ:inS t o (m:Int) i)(hi:i<t.nodes.length)(hx:blw o x (Ji t s))(hv:v<t.nodes.length)(Cj:(nd t v).k=43)(Ol:v<x)(OY:blw o x (Kk t v).toNat)(AV:¬fs o ((Ji t s:Nat):Int)<=(v:Int)):v<i/\blw o i (Kk t v).toNat:=by
 obtain⟨b1,b2,b3,b4⟩:=KF g hs BH;have A9:=Jz g hs (i:=(nd t s).kids.length-1) (by omega);change ((Ji t s:Nat):Int)∈(nd t s).kids/\_ at A9;obtain⟨w,w1,w2,w3,w4⟩:=QV g hv (by omega);rw[w1,Gc]at OY|-;obtain⟨u,a,hu,ha,Eb,hd⟩:=AQ;have R9:=JR g hu ha;have Ou:(s:Int)∈(nd t u).kids/\((nd t u).k=40\/(nd t u).k=28/\(nd t a).k≠43):=by
  have same:∀s':Nat,(s':Int)∈(nd t u).kids->(m:Int)∈(nd t s').kids->(s:Int)∈(nd t u).kids:=λs' h1 h2=>by
   have h3:=(JR g hu h1).2;have h4:=(JR g (show s' < t.nodes.length by omega) h2).1;have h5:=(JR g hs hm).1;obtain rfl:s'=s:=by omega
   exact h1
  rcases (Qy g hu).1 hd with ⟨h1,s',h2,h3,h4,h5⟩|⟨h1,h2,h3⟩|⟨h1,h2,h3⟩|⟨h1,h2,h3⟩
  ·exact⟨same s' h2 h4,.inl h1⟩
  ·omega
  ·subst h3;omega
  ·rcases h3 with ⟨h3,h4⟩|⟨_,s',h3,h4,h5,h6⟩
   ·omega
   ·exact⟨same s' h3 h5,.inr ⟨h1,h2⟩⟩
 obtain⟨Ou,Ic⟩:=Ou;have eG:=(JR g hu Ou).2;have dR:blw o (Ji t s) w:=by
  have h1:=hx.1;have h2:=hx.2;have h3:=OY.1;have h4:=OY.2
  rcases Nat.lt_or_ge (Ji t s) w with h5|h5
  ·refine anO ?_;have:=g.ord.nest w x (by rw[Qs];exact w2) (by omega) h4 (by omega);omega
  ·exfalso;have h6:=g.ord.nest (Ji t s) w (by rw[Qs];omega) (by omega) (by omega) (by omega);have h7:=(Qt g w2 w4).2;omega
 have SH:=(Qt g w2 w4).2;have Mq:Ji t s≠w:=λhe=>AV (by rw[he];exact SH)
 obtain⟨m1,p1,_,_,p4,_⟩:=XN g w2 dR Mq;have p5:=(JR g hs A9.1).1;obtain rfl:m1=s:=by omega
 have Mk:=init_loop g w2 w4 Cj;obtain⟨m2,q1,_,_,q4,_⟩:=XN g w2 p4 (λhe=>by rw[he]at BH;omega);have q5:=(JR g hu Ou).1;obtain rfl:m2=u:=by omega
 have ZJ:=Qn g hu Eb (Qt g hu ha);by_cases UI:m2=w
 ·subst UI;rcases Ic with h|⟨_,h⟩
  ·omega
  ·exact⟨Jc7 g hu w4 ha Eb (λhe=>by subst he;exact h Cj) (JeE g hu Mk w4 Cj ha h),ZJ⟩
 ·rcases Jb4 g w2 q4 with h|⟨a',AX,Uo⟩
  ·exact absurd h UI
  ·have jf:x<=a':=by
    have:=hx.1;have:=Uo.1;omega
   exact⟨Jc7 g w2 w4 AX (Qn g (show a' < t.nodes.length by have:=(JR g w2 AX).2;omega) ZJ Uo) (by omega) (by omega),Qn g w2 ZJ q4⟩
theorem Yj {S:FS}{s:Nat}(h:FI t S)(hs:s<t.nodes.length)(hk:(nd t s).k=41):FI t (J5 t s S)/\FG t S (J5 t s S)/\((J5 t s S).bad=none->J7 (J5 t s S).fd s=true)/\(J5 t s S).dn=S.dn:=by
 have OX:(J5 t s S).dn=S.dn:=by
  unfold J5;simp only
  split
  ·rfl
  ·unfold FS.fail;split <;> rfl
 cases hf:J7 S.fd s with
 |false=>
  obtain⟨h1,h2,h3⟩:=settle_ok g h hs hk hf;exact⟨h1,h2,h3,OX⟩
 |true=>
  obtain⟨b1,b2,b3,b4⟩:=KF g hs hk;obtain⟨_,_,q3,q4⟩:=h.fnd s hf;have e:J5 t s S = { S with got:=JaW t s (Ju S.got (Ji t s)) S.got (nB t s),fd:=X4 s true S.fd }:=by
   unfold J5;simp only;rw[if_pos (show (Ju S.got (Ji t s)).length=(nd t s).n.toNat from q3)];rfl
  have AQ:∀k,(nd t (JG t s k)).kids=[]->k<nB t s->JG t s k<S.got.length:=λk _ Av=>by have:=(b2 k Av).2;rw[h.gl];omega
  have FY:∀k j,k<nB t s->j<nB t s->JG t s k=JG t s j->k=j:=λk j h1 h2 he=>kid_inj g hs (by omega) (by omega) he
  have AR:∀j,Ju (JaW t s (Ju S.got (Ji t s)) S.got (nB t s)) j=Ju S.got j:=λj=>by
   by_cases hx:∃k,k<nB t s/\(nd t (JG t s k)).kids=[]/\JG t s k=j
   ·obtain⟨k,Av,hb,rfl⟩:=hx;rw[putB_in AQ FY (nB t s) (Gd _) k Av hb,q4 k Av hb]
   ·exact JdO _ λk Av hb he=>hx ⟨k,Av,hb,he⟩
  have af:∀u,J7 (X4 s true S.fd) u=J7 S.fd u:=λu=>by
   rw[Xi]
   split
   ·rename_i he;rw[he,hf]
   ·rfl
  rw[e];exact⟨h.ext (Jak _) rfl AR (λ_=>rfl) af,FG.ext AR (λ_=>rfl) af (λ_=>rfl) (λ_=>rfl),λ_=>by rw[af];exact hf,rfl⟩
omit g in
theorem FM.same {t:Tr}{o:List Int}{S S':FS}(h:FM t o S)(hg:FG t S S')(hd:S'.dn=S.dn):FM t o S':=h.step hg λi _ _ h1 h2=>by rw[hd,h2]at h1;cases h1
theorem Jcv {f:Nat}{go:FS->Nat->FS}(Ca:GoOk t o f go){S:FS}{i m s:Nat}(hI:FI t S)(hM:FM t o S)(hi:i<t.nodes.length)(hP:JhE t o S i)(hu:uf t S<f+1)(hs:s<t.nodes.length)(BH:(nd t s).k=41)(hm:(m:Int)∈(nd t s).kids)(Cv:(nd t m).k=42)(AQ:inS t o (m:Int) i) :
  FI t (Xd t o go s i S)/\FM t o (Xd t o go s i S)/\FG t S (Xd t o go s i S)/\((Xd t o go s i S).bad=none->J7 (Xd t o go s i S).fd s=true):=by
 unfold Xd
 cases Oc:J7 S.fg s with
 |true=>
  rw[if_pos rfl];obtain⟨f1,f2,f3⟩:=hI.fail i;have hd:(S.fail i).dn=S.dn:=by unfold FS.fail;split <;> rfl
  exact⟨f1,hM.same f2 hd,f2,λhb=>by rw[hb]at f3;cases f3⟩
 |false=>
  rw[if_neg (by simp)];simp only;obtain⟨b1,b2,b3,b4⟩:=KF g hs BH;have Em:Ji t s<t.nodes.length:=by omega
  have bT:=fs_le g (a:=Ji t s) Em;have Mg:FI t { S with fg:=X4 s true S.fg }:=⟨hI.gl,hI.dl,hI.emp,hI.unf,hI.fnd,hI.fine,hI.ini,hI.typ⟩;have Pi:=Jgp hs Oc;obtain⟨a,ha⟩:∃a:Nat,fs o ((Ji t s:Nat):Int)=a:=⟨(fs o ((Ji t s:Nat):Int)).toNat,by omega⟩;rw[ha,Gc];have Ez:=JaO Ca Mg (S:={ S with fg:=X4 s true S.fg }) (show FM t o _ from hM) (by omega) (a:=a) (m:=Ji t s+1-a) (by omega) (λS' j I7 hj Ce hb=>?_) _ (Gd _)
  ·generalize (KQ a (Ji t s+1-a)).foldl go { S with fg:=X4 s true S.fg }=S1 at Ez|-;obtain⟨q1,q2,q3,q4⟩:=Ez;have Al:=Yj g (S:=S1) q1 hs BH;have h2:FI t (if S1.bad.isSome=true then S1 else J5 t s S1)/\FM t o (if S1.bad.isSome=true then S1 else J5 t s S1)/\FG t S1 (if S1.bad.isSome=true then S1 else J5 t s S1)/\((if S1.bad.isSome=true then S1 else J5 t s S1).bad=none->J7 (if S1.bad.isSome=true then S1 else J5 t s S1).fd s=true):=by
    split
    ·rename_i hb;exact⟨q1,q2,.refl,λh=>by rw[h]at hb;cases hb⟩
    ·exact⟨Al.1,q2.same Al.2.1 Al.2.2.2,Al.2.1,Al.2.2.1⟩
   generalize (if S1.bad.isSome=true then S1 else J5 t s S1)=S2 at h2|-;obtain⟨r1,r2,r3,r4⟩:=h2;have Ak:=q3.trans r3;refine⟨⟨r1.gl,r1.dl,r1.emp,r1.unf,r1.fnd,r1.fine,r1.ini,r1.typ⟩,r2,⟨Ak.keep,Ak.dn,Ak.dk,Ak.fd,λx=>?_,Ak.bad⟩,r4⟩;rw[Xi]
   split
   ·rename_i he;rw[he,Oc]
   ·rename_i he;rw[Ak.fg x,Xi,if_neg he]
  ·have BF:=Ce hb;have PG:blw o (a+j) (Ji t s):=⟨by omega,by omega⟩;have Ab:a+j<t.nodes.length:=by omega
   refine⟨λc hc=>?_,λv hv Cj Ol OY=>?_⟩
   ·have Fz:=Qn g Em (Qt g Ab hc) PG;have Ay:=(JR g Ab hc).2;have Dj:=Fz.2;have:=BF (c-a) (by omega);rw[show a+(c-a)=c by omega]at this;exact this
   ·by_cases OQ:fs o ((Ji t s:Nat):Int)<=(v:Int)
    ·have:=BF (v-a) (by omega);rw[show a+(v-a)=v by omega]at this;exact this
    ·obtain⟨h1,h2⟩:=Jee g hs BH hm Cv AQ hi PG hv Cj Ol OY OQ;have aL:S.bad=none:=show ({ S with fg:=X4 s true S.fg }:FS).bad=none from Jhz I7 hb
     exact I7.dn v ((hP aL).2 v hv Cj h1 h2)
omit g in
theorem rule_ok {m i:Nat}{got:List TL}{l:TL}(h:Xa t m got i=some l):(Jay t i->l=[])/\((nd t i).k=43->l.length=1)/\((nd t i).k=42->(nd t i).kids≠[]->l=[tyN t (JG t i 0)]):=by
 refine⟨λhb=>?_,λhk=>?_,λhk hn=>?_⟩
 ·unfold Xa at h;simp only[hb.1,hb.2]at h;simpa using h.symm
 ·unfold Xa at h;simp only[hk]at h;simp at h;obtain⟨h1,h2⟩:=h;rw[<-h2];exact h1
 ·unfold Xa at h;simp only[hk]at h;simp[hn]at h;exact h.symm
omit g in
theorem Jf5 {S:FS}{i j:Nat}{r:Option TL}(hj:j≠i):(S.fin i r).dn.getD j false=S.dn.getD j false:=by
 unfold FS.fin FS.fail
 cases r with
 |none=>simp only;split <;> rfl
 |some l=>
  simp only
  split
  ·rfl
  ·split
   ·simp only[Ga,Gs];rw[if_neg (λh=>hj h.symm)]
   ·rfl
omit g in
theorem fin_new {S:FS}{i:Nat}{l:TL}(hd:S.dn.getD i false=false)(hn:(S.fin i (some l)).dn.getD i false=true):S.bad=none/\(i<S.got.length->l≠[]->Ju (S.fin i (some l)).got i=l):=by
 unfold FS.fin FS.fail at hn|-;simp only at hn|-
 split at hn
 ·rw[hd]at hn;cases hn
 ·rename_i hb;have F6:S.bad=none:=by cases h:S.bad with|none=>rfl|some x=>rw[h]at hb;exact absurd rfl hb
  split at hn
  ·rename_i hf;refine⟨F6,λhl he=>?_⟩;rw[if_neg hb,if_pos hf];simp only;rw[if_neg he,Jas hl,if_pos rfl]
  ·simp only at hn;rw[hd]at hn;cases hn
omit g in
theorem fin_again {S:FS}{i:Nat}{l:TL}(hI:FI t S)(hM:FM t o S)(hi:i<t.nodes.length)(hd:S.dn.getD i false=true)(hl:Ju S.got i=l):FI t (S.fin i (some l))/\FM t o (S.fin i (some l))/\FG t S (S.fin i (some l))/\(S.fin i (some l)).dn.getD i false=true/\∀j,(S.fin i (some l)).dn.getD j false=S.dn.getD j false:=by
 have AL:X6 l=true:=by rw[<-hl];exact hI.fine i
 unfold FS.fin;simp only
 split
 ·exact⟨hI,hM,.refl,hd,λ_=>rfl⟩
 ·rename_i hb;have h3:∀j,Ju (if l=[] then S.got else S.got.set i l) j=Ju S.got j:=λj=>by
   split
   ·rfl
   ·rw[Jas (by rw[hI.gl];exact hi)]
    split
    ·rename_i e;rw[e,hl]
    ·rfl
  have h4:∀j,(S.dn.set i true).getD j false=S.dn.getD j false:=λj=>by
   rw[getD_setB (by rw[hI.dl];exact hi)]
   split
   ·rename_i e;rw[e,hd]
   ·rfl
  have hg:FG t S { S with got:=if l=[] then S.got else S.got.set i l,dn:=S.dn.set i true }:=FG.ext h3 h4 (λ_=>rfl) (λ_=>rfl) (λh=>absurd h hb);exact⟨hI.ext (by simp only;split <;> simp) (by simp) h3 h4 (λ_=>rfl),hM.step hg λj _ _ q1 q2=>(by rw[h4]at q1;rw[q2]at q1;cases q1),hg,by simp only;rw[h4];exact hd,h4⟩
theorem Ja8 (hE:(XL t o).2=0):∀f,GoOk t o f (doF t o (λi=>(JN t o i).toNat) f)
 |0=>λS i _ _ _ _ hu=>by omega
 |f+1=>λS i hI hM hi hP hu=>by
  unfold doF
  cases Dy:(S.bad.isSome || S.dn.getD i false) with
  |true=>
   rw[if_pos rfl];refine⟨hI,hM,.refl,λhb=>?_⟩;rw[hb]at Dy;simpa using Dy
  |false=>
   rw[if_neg (by simp)];obtain⟨DY,Fy⟩:=Gx.1 Dy;have F6:S.bad=none:=by cases h:S.bad with|none=>rfl|some x=>rw[h]at DY;cases DY
   by_cases h3:(nd t i).k=3
   ·rw[if_pos h3];simp only;obtain⟨Ib,Cq,MX,_,OI⟩:=Y4 g hE hi h3;obtain⟨m,hm⟩:∃m:Nat,JN t o i=m:=⟨(JN t o i).toNat,by omega⟩;rw[hm]at Ib MX OI|-;rw[Gc]at OI|-;have C8:m<t.nodes.length:=by omega
    have AQ:inS t o (m:Int) i:=((mem_sight g hi).1 Ib).2;have I4:¬Jay t i:=λh=>by have:=h.1;omega
    have fin3:∀(S':FS) (l:TL),FI t S'->FM t o S'->FG t S S'->l=JhB t S' m->(S'.bad=none->l≠[])->FI t (S'.fin i (some l))/\FM t o (S'.fin i (some l))/\FG t S (S'.fin i (some l))/\((S'.fin i (some l)).bad=none->(S'.fin i (some l)).dn.getD i false=true):=λS' l q1 q2 q3 hl Ai=>by
     cases hd:S'.dn.getD i false with
     |false=>
      obtain⟨r1,r2,r3⟩:=Jf4 g (r:=some l) q1 hi hd λl' _=>⟨λh=>absurd h I4,λh=>by omega,λh=>by omega⟩
      refine⟨r1,q2.step r2 λj hj hk BF CL m' bJ=>?_,q3.trans r2,r3⟩;by_cases Fq:j=i
      ·subst Fq;obtain rfl:m=m':=by omega
       obtain⟨n1,n2⟩:=fin_new hd BF;have Mq:=Ai n1;have h5:JhB t S' m≠[]:=by rw[<-hl];exact Mq
       rw[valN_keep r2 h5];exact⟨by rw[n2 (by rw[q1.gl];exact hi) Mq,hl],h5⟩
      ·rw[Jf5 Fq,CL]at BF;cases BF
     |true=>
      obtain⟨h5,h6⟩:=q2 i hi h3 hd m hm;obtain⟨r1,r2,r3,r4,_⟩:=fin_again (o:=o) q1 q2 hi hd (h5.trans hl.symm);exact⟨r1,r2,q3.trans r3,λ_=>r4⟩
    have Cv:(nd t m).k=47\/(nd t m).k=64\/(nd t m).k=42\/((nd t m).k=43/\m<i/\blw o i (Kk t m).toNat):=by
     obtain⟨u,a,hu,ha,Eb,hd⟩:=AQ;have R9:=JR g hu ha;rcases (Qy g hu).1 hd with ⟨_,s',h2,CP,h4,h5⟩|⟨h1,h2,CP⟩|⟨h1,h2,CP⟩|⟨h1,h2,CP⟩
     ·exact .inr (.inr (.inl h5))
     ·exact .inr (.inl CP)
     ·exact .inl (by rw[CP];exact h1)
     ·rcases CP with ⟨CP,h4⟩|⟨_,s',CP,h4,h5,h6⟩
      ·have fE:=(JR g hu CP).1;refine .inr (.inr (.inr ⟨h4,?_,by rw[fE,Gc];exact Qn g hu Eb (Qt g hu ha)⟩));exact Jc7 g hu CP ha Eb (λhe=>by subst he;exact h2 h4) (JeE g hu h1 CP h4 ha h2)
      ·exact .inr (.inr (.inl h6))
    have BB:(nd t m).k=42->∃s k:Nat,(Kk t m)=s/\s<t.nodes.length/\(nd t s).k=41/\(m:Int)∈(nd t s).kids/\k<nB t s/\JG t s k=m:=λCk=>by
     obtain⟨s,s1,s2,s3,s4⟩:=QV g C8 (by omega);have BH:=(Yu (JcY g s2 s4)).2.2.1 (by rw[Ck];rfl);obtain⟨b1,b2,b3,b4⟩:=KF g s2 BH;obtain⟨k,hk,MB,_⟩:=Jcr s4;refine⟨s,k,s1,s2,BH,s4,?_,MB⟩;refine Gz λCb=>?_
     obtain rfl:k=(nd t s).kids.length-1:=by omega
     have:Ji t s=m:=MB;rw[this]at b3;omega
    have IP:∀S':FS,FI t S'->(nd t m).k=42->(nd t m).kids=[]->J7 S'.fd (Kk t m).toNat=true->Ju S'.got m≠[]:=λS' q1 Ck MC hf=>by
     obtain⟨s,k,s1,s2,s3,s4,s5,s6⟩:=BB Ck;rw[s1,Gc]at hf;have:=(q1.fnd s hf).2.2.2 k s5 (by rw[s6];exact MC);rw[s6]at this;rw[this];simp
    unfold JbF;by_cases BV:(nd t m).k=47
    ·rw[if_pos BV];exact fin3 S _ hI hM .refl (by unfold JhB;rw[if_pos BV]) λ_=>by simp
    rw[if_neg BV];by_cases CO:(nd t m).k=64\/(nd t m).k=42/\(nd t m).kids≠[]
    ·rw[if_pos CO];exact fin3 S _ hI hM .refl (by unfold JhB;rw[if_neg BV,if_pos CO]) λ_=>by simp
    rw[if_neg CO];by_cases CS:(nd t m).k=42/\J7 S.fd (Kk t m).toNat=false
    ·rw[if_pos CS];simp only;obtain⟨s,k,s1,s2,s3,s4,s5,s6⟩:=BB CS.1;have MC:(nd t m).kids=[]:=Classical.byContradiction λh=>CO (.inr ⟨CS.1,h⟩)
     rw[s1,Gc];obtain⟨q1,q2,q3,q4⟩:=Jcv g (Ja8 hE f) hI hM hi hP hu s2 s3 s4 CS.1 AQ;refine fin3 _ _ q1 q2 q3 (by unfold JhB;rw[if_neg BV,if_neg CO]) λhb=>IP _ q1 CS.1 MC (by rw[s1,Gc];exact q4 hb)
    ·rw[if_neg CS];refine fin3 S _ hI hM .refl (by unfold JhB;rw[if_neg BV,if_neg CO]) λ_=>?_
     rcases Cv with h|h|h|⟨h,h1,h2⟩
     ·exact absurd h BV
     ·exact absurd (.inl h) CO
     ·refine IP S hI h (Classical.byContradiction λhx=>CO (.inr ⟨h,hx⟩)) ?_
      cases hx:J7 S.fd (Kk t m).toNat with
      |true=>rfl
      |false=>exact absurd ⟨h,hx⟩ CS
     ·intro he;have:=hI.ini m C8 ((hP F6).2 m C8 h h1 h2) h;rw[he]at this;simp at this
   ·rw[if_neg h3];by_cases Bg:(nd t i).k=41
    ·rw[if_pos Bg];simp only;have hS:FI t (Jag t i S)/\FG t S (Jag t i S)/\(Jag t i S).dn=S.dn:=by
      unfold Jag
      split
      ·exact⟨hI,.refl,rfl⟩
      ·have:=Yj g hI hi Bg;exact⟨this.1,this.2.1,this.2.2.2⟩
     obtain⟨q1,q2,q3⟩:=hS;have iL:=hM.same q2 q3;obtain⟨r1,r2,r3⟩:=Jf4 g (r:=if Jab t i (Ju (Jag t i S).got (Ji t i))=true then some [] else none) q1 hi (by rw[q3];exact Fy) λl hl=>by
      split at hl
      ·cases hl;exact⟨λ_=>rfl,λh=>by omega,λh=>by omega⟩
      ·cases hl
     refine⟨r1,iL.step r2 λj hj hk BF CL=>?_,q2.trans r2,r3⟩;rw[Jf5 (λh=>by subst h;omega),CL]at BF;cases BF
    ·rw[if_neg Bg];obtain⟨r1,r2,r3⟩:=Jf4 g (r:=Xa t (JN t o i).toNat S.got i) hI hi Fy λl hl=>rule_ok hl
     refine⟨r1,hM.step r2 λj hj hk BF CL=>?_,r2,r3⟩;rw[Jf5 (λh=>by subst h;omega),CL]at BF;cases BF
theorem Jg4 (hE:(XL t o).2=0):∀k,k<=t.nodes.length->FI t ((KQ 0 k).foldl (doF t o (λi=>(JN t o i).toNat) (t.nodes.length+1)) (FS.start t))/\FM t o ((KQ 0 k).foldl (doF t o (λi=>(JN t o i).toNat) (t.nodes.length+1)) (FS.start t))/\FG t (FS.start t) ((KQ 0 k).foldl (doF t o (λi=>(JN t o i).toNat) (t.nodes.length+1)) (FS.start t))/\(((KQ 0 k).foldl (doF t o (λi=>(JN t o i).toNat) (t.nodes.length+1)) (FS.start t)).bad=none->∀j,j<k->((KQ 0 k).foldl (doF t o (λi=>(JN t o i).toNat) (t.nodes.length+1)) (FS.start t)).dn.getD (0+j) false=true):=by
 have Fv:∀j,Ju (FS.start t).got j=[]:=λj=>by
  unfold FS.start Ju;simp only[Ga,Gn]
  split <;> rfl
 have Fy:∀j,(FS.start t).dn.getD j false=false:=λj=>by
  unfold FS.start;simp only[Ga,Gn]
  split <;> rfl
 refine JaO (Ja8 g hE (t.nodes.length+1)) ⟨by simp[FS.start],by simp[FS.start],λi _ _=>Fv i,λs _ _ _ k _ _=>Fv _,λs h=>by simp[FS.start,J7]at h,λi=>by rw[Fv];rfl,λi _ h=>(by rw[Fy]at h;cases h),λi _ h=>(by rw[Fy]at h;cases h)⟩ (λi _ _ h=>by rw[Fy]at h;cases h) ?_ (by omega) λS' j I7 hj Ce hb=>?_
 ·unfold uf;have:=GA (λs=>!J7 (FS.start t).fg s) (Gb t.nodes.length);rw[GG]at this;omega
 ·have BF:=Ce hb;refine⟨λc hc=>?_,λv hv Cj Ol _=>?_⟩
  ·have Ay:=(JR g (show 0+j<t.nodes.length by omega) hc).2;have:=BF c (by omega);rw[Gm]at this;exact this
  ·have:=BF v (by omega);rw[Gm]at this;exact this
end
end
section
theorem rule_congr {t:Tr}{m i:Nat}{got got':List TL}(h1:∀j,j<(nd t i).kids.length->Ju got' (JG t i j)=Ju got (JG t i j))(h2:(nd t i).k=29->∀j,1<=j->j<(nd t i).kids.length->Ju got' (Ji t (JG t i j))=Ju got (Ji t (JG t i j)))(h3:(nd t i).k=44->Ju got' m=Ju got m):Xa t m got' i=Xa t m got i:=by
 have hK:∀j,(if j<(nd t i).kids.length then Ju got' (JG t i j) else [])=if j<(nd t i).kids.length then Ju got (JG t i j) else []:=λj=>by
  split
  ·rename_i h;exact h1 j h
  ·rfl
 have hL:(nd t i).k=29->∀j,Jcp t got' i (j+1)=Jcp t got i (j+1):=λhk j=>by
  unfold Jcp
  split
  ·rename_i h;exact h2 hk (j+1) (by omega) h
  ·rfl
 unfold Xa;simp only[hK];by_cases e1:(nd t i).k=29
 ·have dC:Jcp t got' i 1=Jcp t got i 1:=hL e1 0;simp only[e1,hL e1];simp
 ·by_cases e2:(nd t i).k=44
  ·simp only[e2,h3 e2];simp
  ·simp only[if_neg e1,if_neg e2]
structure FR (t:Tr)(o:List Int)(S:FS):Prop where
 clo:∀i,i<t.nodes.length->S.dn.getD i false=true->∀c:Nat,(c:Int)∈(nd t i).kids->S.dn.getD c false=true
 rule:∀i,i<t.nodes.length->S.dn.getD i false=true->(nd t i).k≠3->(nd t i).k≠41->∃l,Xa t (JN t o i).toNat S.got i=some l/\(¬Jay t i->Ju S.got i=l)
 sets:∀s,s<t.nodes.length->S.dn.getD s false=true->(nd t s).k=41->J7 S.fd s=true/\Jab t s (Ju S.got (Ji t s))=true
section
variable {t:Tr}{o:List Int}(g:GoodT t o)
include g
theorem JfQ {i:Nat}(hi:i<t.nodes.length):lets t.nodes (nd t i)=K7 (nd t i).k (lets t.nodes (nd t i)):=by
 have hn:=g.nds (nd t i) (by unfold nd;rw[Ga,Gf hi];exact Gj hi);unfold ndI J6 at hn;simp only[Gy,beq_iff_eq]at hn;exact hn.1.1.1.2
theorem let_get {i j:Nat}(hi:i<t.nodes.length)(hj:j<(nd t i).kids.length):(lets t.nodes (nd t i))[j]? = some (Jdz (nd t (JG t i j)).k):=by
 have hm:=Jz g hi hj;unfold lets;rw[List.getElem?_map,Gf hj,Option.map_some,hm.2.2,Ga,Gf hj];rfl
theorem Jaq {i:Nat}(hi:i<t.nodes.length)(hk:4<=(nd t i).k/\(nd t i).k<=18):(nd t i).kids.length=2:=by
 have h:=JfQ g hi;have hl:=congrArg Gh h;rw[Kv]at hl;unfold K7 at hl;rw[if_pos hk]at hl;exact hl
theorem Qz {i:Nat}(hi:i<t.nodes.length)(hk:(19<=(nd t i).k/\(nd t i).k<=25)\/(nd t i).k=43\/(nd t i).k=44\/(62<=(nd t i).k/\(nd t i).k<=64)):(nd t i).kids.length=1:=by
 have h:=JfQ g hi;have hl:=congrArg Gh h;rw[Kv]at hl;unfold K7 at hl;rw[iN7]at hl;by_cases h2:(19<=(nd t i).k/\(nd t i).k<=24)\/(nd t i).k=43\/(nd t i).k=44
 ·rw[if_pos h2]at hl;exact hl
 ·rw[if_neg h2,iP7]at hl;exact hl
theorem kids_if {i:Nat}(hi:i<t.nodes.length)(hk:(nd t i).k=27):(nd t i).kids.length=3:=by
 have h:=JfQ g hi;have hl:=congrArg Gh h;rw[Kv]at hl;unfold K7 at hl;rw[hk]at hl;simpa using hl
theorem part_kind {i j:Nat}(hi:i<t.nodes.length)(hk:(nd t i).k=29)(hj:1<=j)(Bc:j<(nd t i).kids.length):(nd t (JG t i j)).k=46\/(nd t (JG t i j)).k=47:=by
 have h:=JfQ g hi;have hg:=let_get g hi Bc;rw[h]at hg;unfold K7 at hg;rw[hk]at hg;simp only at hg;rw[iN7,iN7,iN7,iN7,iN7,iN7,if_pos trivial,List.getElem?_append_right (by simpa using hj),Gn]at hg
 split at hg
 ·have Mh:=(Gg hg).symm;unfold Jdz letter at Mh;by_cases a1:1<=(nd t (JG t i j)).k/\(nd t (JG t i j)).k<=29
  ·rw[if_pos a1]at Mh;exact absurd Mh (by decide)
  rw[if_neg a1]at Mh;by_cases a2:60<=(nd t (JG t i j)).k/\(nd t (JG t i j)).k<=63
  ·rw[if_pos a2]at Mh;exact absurd Mh (by decide)
  rw[if_neg a2]at Mh;by_cases a3:(nd t (JG t i j)).k=46\/(nd t (JG t i j)).k=47
  ·exact a3
  exfalso;rw[if_neg a3]at Mh
  repeat' (split at Mh)
  all_goals exact absurd Mh (by decide)
 ·cases hg
theorem part_last {u:Nat}(hu:u<t.nodes.length)(hk:(nd t u).k=46\/(nd t u).k=47):0<(nd t u).kids.length/\(1<=(nd t (Ji t u)).k/\(nd t (Ji t u)).k<=29)/\Ji t u<u:=by
 have h:=JfQ g hu;have hl:=congrArg Gh h;rw[Kv]at hl;have Ad:(nd t u).kids.length=2\/(nd t u).kids.length=3:=by
  unfold K7 at hl;rcases hk with hk|hk <;> rw[hk]at hl <;> simp at hl <;> omega
 have hm:=Jz g hu (i:=(nd t u).kids.length-1) (by omega);have hg:=let_get g hu (j:=(nd t u).kids.length-1) (by omega);refine⟨by omega,Ja1 ?_,hm.2.1⟩;rw[h]at hg;unfold K7 at hg;rcases hk with hk|hk
 ·rw[hk]at hl hg;simp[K7]at hl hg;rw[hl]at hg;simp at hg;show Jdz (nd t (JG t u ((nd t u).kids.length-1))).k=101;rw[hl];exact hg.symm
 ·rw[hk]at hl hg;simp[K7]at hl hg;rw[hl]at hg;simp at hg;show Jdz (nd t (JG t u ((nd t u).kids.length-1))).k=101;rw[hl];exact hg.symm
theorem kid_nb {i c:Nat}(hi:i<t.nodes.length)(hk:(nd t i).k≠41)(hc:(c:Int)∈(nd t i).kids):¬Jay t c:=λhb=>hk ((Yu (JcY g hi hc)).2.2.1 (by rw[hb.1];rfl))
theorem rule_keep {S S':FS}{i:Nat}{l:TL}(h:FR t o S)(hg:FG t S S')(hi:i<t.nodes.length)(hk:(nd t i).k≠41)(hd:∀c:Nat,(c:Int)∈(nd t i).kids->S.dn.getD c false=true)(hl:Xa t (JN t o i).toNat S.got i=some l):Xa t (JN t o i).toNat S'.got i=some l:=by
 rw[<-hl];refine rule_congr (λj hj=>?_) (λPz j jc hj=>?_) (λBO=>?_)
 ·have hm:=(Jz g hi hj).1;exact hg.dk _ (hd _ hm) (kid_nb g hi hk hm)
 ·have hm:=Jz g hi hj;have Ab:JG t i j<t.nodes.length:=by omega
  obtain⟨p1,p2,p3⟩:=part_last g Ab (part_kind g hi Pz jc hj);have Cq:=Jz g Ab (i:=(nd t (JG t i j)).kids.length-1) (by omega);exact hg.dk _ (h.clo _ Ab (hd _ hm.1) _ Cq.1) λhb=>by have:=hb.1;omega
 ·have h1:(Ju S.got (JN t o i).toNat).length=1:=by
   unfold Xa at hl;simp only[BO]at hl;simp at hl;exact hl.1.1
  exact hg.keep _ λhe=>by rw[he]at h1;simp at h1
theorem JgZ {s:Nat}(hs:s<t.nodes.length)(hk:(nd t s).k=41):((Ji t s:Nat):Int)∈(nd t s).kids:=by
 obtain⟨b1,_⟩:=KF g hs hk;exact(Jz g hs (i:=(nd t s).kids.length-1) (by omega)).1
theorem FR.step {S S':FS}(h:FR t o S)(hg:FG t S S')(hn:∀i,i<t.nodes.length->S'.dn.getD i false=true->S.dn.getD i false=false->(∀c:Nat,(c:Int)∈(nd t i).kids->S'.dn.getD c false=true)/\((nd t i).k≠3->(nd t i).k≠41->∃l,Xa t (JN t o i).toNat S'.got i=some l/\(¬Jay t i->Ju S'.got i=l))/\((nd t i).k=41->J7 S'.fd i=true/\Jab t i (Ju S'.got (Ji t i))=true)):FR t o S':=by
 refine⟨λi hi hd c hc=>?_,λi hi hd h3 Bg=>?_,λi hi hd Bg=>?_⟩
 ·cases hs:S.dn.getD i false with
  |false=>exact(hn i hi hd hs).1 c hc
  |true=>exact hg.dn c (h.clo i hi hs c hc)
 ·cases hs:S.dn.getD i false with
  |false=>exact(hn i hi hd hs).2.1 h3 Bg
  |true=>
   obtain⟨l,h1,h2⟩:=h.rule i hi hs h3 Bg;exact⟨l,rule_keep g h hg hi Bg (h.clo i hi hs) h1,λhb=>(hg.dk i hs hb).trans (h2 hb)⟩
 ·cases hs:S.dn.getD i false with
  |false=>exact(hn i hi hd hs).2.2 Bg
  |true=>
   obtain⟨h1,h2⟩:=h.sets i hi hs Bg;obtain⟨b1,b2,b3,b4⟩:=KF g hi Bg;refine⟨hg.fd i h1,?_⟩;rw[hg.dk (Ji t i) (h.clo i hi hs _ (JgZ g hi Bg)) λhb=>by have:=hb.1;omega];exact h2
theorem FR.same {S S':FS}(h:FR t o S)(hg:FG t S S')(hd:∀j,S'.dn.getD j false=S.dn.getD j false):FR t o S':=h.step g hg λi _ h1 h2=>by rw[hd,h2]at h1;cases h1
omit g in
theorem FR.fields {S S':FS}(h:FR t o S)(h1:S'.got=S.got)(h2:S'.dn=S.dn)(h3:S'.fd=S.fd):FR t o S':=⟨by rw[h2];exact h.clo,by rw[h1,h2];exact h.rule,by rw[h1,h2,h3];exact h.sets⟩
omit g in
def GoR (t:Tr)(o:List Int)(f:Nat)(go:FS->Nat->FS):Prop:=∀S i,FI t S->FM t o S->FR t o S->i<t.nodes.length->JhE t o S i->uf t S<f->FR t o (go S i)
omit g in
theorem Jed {f:Nat}{go:FS->Nat->FS}(Ca:GoOk t o f go)(Ei:GoR t o f go){S:FS}(hI:FI t S)(hM:FM t o S)(hR:FR t o S)(hu:uf t S<f){a m:Nat}(Md:a+m<=t.nodes.length)(hP:∀S' j,FG t S S'->j<m->(S'.bad=none->∀j',j' < j->S'.dn.getD (a+j') false=true)->JhE t o S' (a+j)) :
  ∀k,k<=m->FR t o ((KQ a k).foldl go S)
 |0,_=>hR
 |k+1,hk=>by
  obtain⟨h1,h2,h3,h4⟩:=JaO Ca hI hM hu Md hP k (by omega);have ih:=Jed Ca Ei hI hM hR hu Md hP k (by omega);rw[JaN,Gt];generalize (KQ a k).foldl go S=S1 at *;exact Ei S1 (a+k) h1 h2 ih (by omega) (hP S1 k h3 (by omega) h4) (by rw[uf_eq h3];exact hu)
theorem JeK {S:FS}{i m s:Nat}(hi:i<t.nodes.length)(hP:JhE t o S i)(hs:s<t.nodes.length)(BH:(nd t s).k=41)(hm:(m:Int)∈(nd t s).kids)(Cv:(nd t m).k=42)(AQ:inS t o (m:Int) i){a:Nat}(ha:fs o ((Ji t s:Nat):Int)=a):∀S' j,FG t { S with fg:=X4 s true S.fg } S'->j<Ji t s+1-a->(S'.bad=none->∀j',j' < j->S'.dn.getD (a+j') false=true)->JhE t o S' (a+j):=λS' j I7 hj Ce hb=>by
 obtain⟨b1,b2,b3,b4⟩:=KF g hs BH;have Em:Ji t s<t.nodes.length:=by omega
 have BF:=Ce hb;have PG:blw o (a+j) (Ji t s):=⟨by omega,by omega⟩;have Ab:a+j<t.nodes.length:=by omega
 refine⟨λc hc=>?_,λv hv Cj Ol OY=>?_⟩
 ·have Fz:=Qn g Em (Qt g Ab hc) PG;have Ay:=(JR g Ab hc).2;have Dj:=Fz.2;have:=BF (c-a) (by omega);rw[show a+(c-a)=c by omega]at this;exact this
 ·by_cases OQ:fs o ((Ji t s:Nat):Int)<=(v:Int)
  ·have:=BF (v-a) (by omega);rw[show a+(v-a)=v by omega]at this;exact this
  ·obtain⟨h1,h2⟩:=Jee g hs BH hm Cv AQ hi PG hv Cj Ol OY OQ;have aL:S.bad=none:=show ({ S with fg:=X4 s true S.fg }:FS).bad=none from Jhz I7 hb
   exact I7.dn v ((hP aL).2 v hv Cj h1 h2)
theorem force_fr {f:Nat}{go:FS->Nat->FS}(Ca:GoOk t o f go)(Ei:GoR t o f go){S:FS}{i m s:Nat}(hI:FI t S)(hM:FM t o S)(hR:FR t o S)(hi:i<t.nodes.length)(hP:JhE t o S i)(hu:uf t S<f+1)(hs:s<t.nodes.length)(BH:(nd t s).k=41)(hm:(m:Int)∈(nd t s).kids)(Cv:(nd t m).k=42)(AQ:inS t o (m:Int) i):FR t o (Xd t o go s i S):=by
 unfold Xd
 cases Oc:J7 S.fg s with
 |true=>
  rw[if_pos rfl];unfold FS.fail
  split
  ·exact hR
  ·exact hR.fields rfl rfl rfl
 |false=>
  rw[if_neg (by simp)];simp only;obtain⟨b1,b2,b3,b4⟩:=KF g hs BH;have bT:=fs_le g (a:=Ji t s) (by omega);have Mg:FI t { S with fg:=X4 s true S.fg }:=⟨hI.gl,hI.dl,hI.emp,hI.unf,hI.fnd,hI.fine,hI.ini,hI.typ⟩;have Pi:=Jgp hs Oc;obtain⟨a,ha⟩:∃a:Nat,fs o ((Ji t s:Nat):Int)=a:=⟨(fs o ((Ji t s:Nat):Int)).toNat,by omega⟩;rw[ha,Gc];have Bl:=JeK g hi hP hs BH hm Cv AQ ha;have Ez:=JaO Ca Mg (S:={ S with fg:=X4 s true S.fg }) (show FM t o _ from hM) (by omega) (a:=a) (m:=Ji t s+1-a) (by omega) Bl _ (Gd _);have Ip:=Jed Ca Ei Mg (S:={ S with fg:=X4 s true S.fg }) (show FM t o _ from hM) (hR.fields rfl rfl rfl) (by omega) (a:=a) (m:=Ji t s+1-a) (by omega) Bl _ (Gd _);generalize (KQ a (Ji t s+1-a)).foldl go { S with fg:=X4 s true S.fg }=S1 at Ez Ip|-;obtain⟨q1,q2,q3,q4⟩:=Ez;refine FR.fields (S:=if S1.bad.isSome=true then S1 else J5 t s S1) ?_ rfl rfl rfl
  split
  ·exact Ip
  ·have Al:=Yj g (S:=S1) q1 hs BH;exact Ip.same g Al.2.1 λj=>by rw[Al.2.2.2]
end
end
section
section
variable {t:Tr}{o:List Int}(g:GoodT t o)
include g
theorem Y5 (hE:(XL t o).2=0){i m:Nat}(hi:i<t.nodes.length)(h3:(nd t i).k=3)(hm:JN t o i=m):m<t.nodes.length/\inS t o (m:Int) i/\((nd t m).k=47\/(nd t m).k=64\/(nd t m).k=43\/((nd t m).k=42/\∃s k:Nat,Kk t m=s/\s<t.nodes.length/\(nd t s).k=41/\(m:Int)∈(nd t s).kids/\k<nB t s/\JG t s k=m)):=by
 obtain⟨Ib,Cq,MX,_,OI⟩:=Y4 g hE hi h3;rw[hm]at Ib MX OI;rw[Gc]at OI;have C8:m<t.nodes.length:=by omega
 have AQ:inS t o (m:Int) i:=((mem_sight g hi).1 Ib).2;refine⟨C8,AQ,?_⟩;have Cv:(nd t m).k=47\/(nd t m).k=64\/(nd t m).k=43\/(nd t m).k=42:=by
  obtain⟨u,a,hu,ha,Eb,hd⟩:=AQ;rcases (Qy g hu).1 hd with ⟨_,s',h2,CP,h4,h5⟩|⟨h1,h2,CP⟩|⟨h1,h2,CP⟩|⟨h1,h2,CP⟩
  ·exact .inr (.inr (.inr h5))
  ·exact .inr (.inl CP)
  ·exact .inl (by rw[CP];exact h1)
  ·rcases CP with ⟨CP,h4⟩|⟨_,s',CP,h4,h5,h6⟩
   ·exact .inr (.inr (.inl h4))
   ·exact .inr (.inr (.inr h6))
 rcases Cv with h|h|h|Ck
 ·exact .inl h
 ·exact .inr (.inl h)
 ·exact .inr (.inr (.inl h))
 ·obtain⟨s,s1,s2,s3,s4⟩:=QV g C8 (by omega);have BH:=(Yu (JcY g s2 s4)).2.2.1 (by rw[Ck];rfl);obtain⟨b1,b2,b3,b4⟩:=KF g s2 BH;obtain⟨k,hk,MB,_⟩:=Jcr s4;refine .inr (.inr (.inr ⟨Ck,s,k,s1,s2,BH,s4,?_,MB⟩));refine Gz λCb=>?_
  obtain rfl:k=(nd t s).kids.length-1:=by omega
  have:Ji t s=m:=MB;rw[this]at b3;omega
theorem doF_fr (hE:(XL t o).2=0):∀f,GoR t o f (doF t o (λi=>(JN t o i).toNat) f)
 |0=>λS i _ _ _ _ _ hu=>by omega
 |f+1=>λS i hI hM hR hi hP hu=>by
  unfold doF
  cases Dy:(S.bad.isSome || S.dn.getD i false) with
  |true=>rw[if_pos rfl];exact hR
  |false=>
   rw[if_neg (by simp)];obtain⟨DY,Fy⟩:=Gx.1 Dy;have F6:S.bad=none:=by cases h:S.bad with|none=>rfl|some x=>rw[h]at DY;cases DY
   have AJ:=(hP F6).1;by_cases h3:(nd t i).k=3
   ·rw[if_pos h3];simp only;obtain⟨m,hm⟩:∃m:Nat,JN t o i=m:=⟨(JN t o i).toNat,by have:=(Y4 g hE hi h3).2.1;omega⟩;obtain⟨C8,AQ,Cv⟩:=Y5 g hE hi h3 hm;rw[hm,Gc];have I4:¬Jay t i:=λh=>by have:=h.1;omega
    have fin3:∀(S':FS) (l:TL),FI t S'->FM t o S'->FR t o S'->FG t S S'->(S'.dn.getD i false=true->l=JhB t S' m)->FR t o (S'.fin i (some l)):=λS' l q1 q2 qr q3 hl=>by
     cases hd:S'.dn.getD i false with
     |false=>
      obtain⟨r1,r2,r3⟩:=Jf4 g (r:=some l) q1 hi hd λl' _=>⟨λh=>absurd h I4,λh=>by omega,λh=>by omega⟩
      refine qr.step g r2 λj hj BF CL=>?_
      by_cases Fq:j=i
      ·subst Fq;exact⟨λc hc=>r2.dn c (q3.dn c (AJ c hc)),λh=>absurd h3 h,λh=>by omega⟩
      ·rw[Jf5 Fq,CL]at BF;cases BF
     |true=>
      obtain⟨h5,h6⟩:=q2 i hi h3 hd m hm;obtain⟨_,_,r3,_,r5⟩:=fin_again (o:=o) q1 q2 hi hd (h5.trans (hl hd).symm);exact qr.same g r3 r5
    unfold JbF;by_cases BV:(nd t m).k=47
    ·rw[if_pos BV];exact fin3 S _ hI hM hR .refl λh=>by rw[Fy]at h;cases h
    rw[if_neg BV];by_cases CO:(nd t m).k=64\/(nd t m).k=42/\(nd t m).kids≠[]
    ·rw[if_pos CO];exact fin3 S _ hI hM hR .refl λh=>by rw[Fy]at h;cases h
    rw[if_neg CO];by_cases CS:(nd t m).k=42/\J7 S.fd (Kk t m).toNat=false
    ·rw[if_pos CS];simp only;rcases Cv with h|h|h|⟨_,s,k,s1,s2,s3,s4,s5,s6⟩
     ·exact absurd h BV
     ·exact absurd (.inl h) CO
     ·have:=CS.1;omega
     ·rw[s1,Gc];obtain⟨q1,q2,q3,q4⟩:=Jcv g (Ja8 g hE f) hI hM hi hP hu s2 s3 s4 CS.1 AQ;have qr:=force_fr g (Ja8 g hE f) (doF_fr hE f) hI hM hR hi hP hu s2 s3 s4 CS.1 AQ;exact fin3 _ _ q1 q2 qr q3 λ_=>by unfold JhB;rw[if_neg BV,if_neg CO]
    ·rw[if_neg CS];exact fin3 S _ hI hM hR .refl λh=>by rw[Fy]at h;cases h
   ·rw[if_neg h3];by_cases Bg:(nd t i).k=41
    ·rw[if_pos Bg];simp only;obtain⟨b1,b2,b3,b4⟩:=KF g hi Bg;have hS:FI t (Jag t i S)/\FG t S (Jag t i S)/\(Jag t i S).dn=S.dn/\((Jag t i S).bad=none->J7 (Jag t i S).fd i=true):=by
      unfold Jag
      split
      ·rename_i h;exact⟨hI,.refl,rfl,λ_=>h⟩
      ·have:=Yj g hI hi Bg;exact⟨this.1,this.2.1,this.2.2.2,this.2.2.1⟩
     obtain⟨q1,q2,q3,q4⟩:=hS;have hr:=Jf4 g (r:=if Jab t i (Ju (Jag t i S).got (Ji t i))=true then some [] else none) q1 hi (by rw[q3];exact Fy) λl hl=>by
      split at hl
      ·cases hl;exact⟨λ_=>rfl,λh=>by omega,λh=>by omega⟩
      ·cases hl
     have cO:=hR.same g q2 λj=>by rw[q3]
     generalize Jag t i S=S1 at *
     cases BN:Jab t i (Ju S1.got (Ji t i)) with
     |false=>
      rw[BN,if_neg (by simp)]at hr;rw[if_neg (by simp)];refine cO.same g hr.2.1 λj=>?_
      unfold FS.fin FS.fail;simp only
      split <;> rfl
     |true=>
      rw[BN,if_pos rfl]at hr;rw[if_pos rfl];refine cO.step g hr.2.1 λj hj BF CL=>?_
      by_cases Fq:j=i
      ·subst Fq;refine⟨λc hc=>hr.2.1.dn c (by rw[q3];exact AJ c hc),λ_ h=>absurd Bg h,λ_=>⟨hr.2.1.fd j (q4 (fin_new CL BF).1),?_⟩⟩;rw[hr.2.1.dk (Ji t j) (by rw[q3];exact AJ _ (JgZ g hj Bg)) λhb=>by have:=hb.1;omega];exact BN
      ·rw[Jf5 Fq,CL]at BF;cases BF
    ·rw[if_neg Bg];obtain⟨r1,r2,r3⟩:=Jf4 g (r:=Xa t (JN t o i).toNat S.got i) hI hi Fy λl hl=>rule_ok hl
     cases hr:Xa t (JN t o i).toNat S.got i with
     |none=>
      rw[hr]at r2;refine hR.same g r2 λj=>?_
      unfold FS.fin FS.fail;simp only
      split <;> rfl
     |some l=>
      rw[hr]at r2;refine hR.step g r2 λj hj BF CL=>?_
      by_cases Fq:j=i
      ·subst Fq;obtain⟨n1,n2⟩:=fin_new CL BF;refine⟨λc hc=>r2.dn c (AJ c hc),λ_ _=>⟨l,rule_keep g hR r2 hj Bg AJ hr,λhb=>?_⟩,λh=>absurd h Bg⟩;by_cases hl:l=[]
       ·subst hl;have h0:=hI.emp j Fy hb;unfold FS.fin FS.fail;simp only
        split
        ·exact h0
        ·split
         ·simp only[if_true];exact h0
         ·exact h0
       ·exact n2 (by rw[hI.gl];exact hj) hl
      ·rw[Jf5 Fq,CL]at BF;cases BF
end
end
section
def lisT (t:Tr)(τ:Nat->TL):List TL:=(Gb t.nodes.length).map τ
theorem JdS {t:Tr}{τ:Nat->TL}{i:Nat}(h:i<t.nodes.length):Ju (lisT t τ) i=τ i:=by
 unfold Ju lisT;simp[Ga,h]
def valT (t:Tr)(τ:Nat->TL)(m:Nat):TL:=if (nd t m).k=47 then [.int] else if (nd t m).k=64\/(nd t m).k=42/\(nd t m).kids≠[] then [tyN t (JG t m 0)] else τ m
structure TA (t:Tr)(o:List Int)(τ:Nat->TL):Prop where
 nam:∀i,i<t.nodes.length->(nd t i).k=3->∀m:Nat,JN t o i=m->τ i=valT t τ m/\valT t τ m≠[]
 sets:∀s,s<t.nodes.length->(nd t s).k=41->(τ (Ji t s)).length=nB t s/\(∀k,k<nB t s->τ (JG t s k)=[(τ (Ji t s)).getD k .int])/\τ s=[]
 rule:∀i,i<t.nodes.length->(nd t i).k≠3->(nd t i).k≠41->∃l,Xa t (JN t o i).toNat (lisT t τ) i=some l/\(¬Jay t i->τ i=l)
 fine:∀i,i<t.nodes.length->X6 (τ i)=true
def bareN (t:Tr)(o:List Int)(i s:Nat):Prop:=(nd t i).k=3/\∃m:Nat,JN t o i=m/\Jay t m/\Kk t m=(s:Int)
def Acy (t:Tr)(o:List Int)(r:Nat->Nat):Prop:=∀s,s<t.nodes.length->(nd t s).k=41->∀i s',i<t.nodes.length->blw o i (Ji t s)->bareN t o i s'->r s' < r s
section
variable {t:Tr}{o:List Int}(g:GoodT t o){τ:Nat->TL}{r:Nat->Nat}(hA:TA t o τ)
include g hA
end
end
section
def idxM:List (Nat×Bool)->Nat->Nat
 |[],_=>0
 |(j,_)::l,k=>if j=k then 0 else idxM l k+1
theorem idx_lt {k:Nat}:∀{l:List (Nat×Bool)},J7 l k=true->idxM l k<l.length
 |[],h=>by simp[J7]at h
 |(j,c)::l,h=>by
  rw[idxM,Gi]
  split
  ·omega
  ·rename_i Ai;have h2:J7 l k=true:=by rw[J7,if_neg Ai]at h;exact h
   have:=idx_lt h2;omega
theorem idx_ins {k x:Nat}:∀{l:List (Nat×Bool)},J7 l x=true->idxM (X4 k true l) x=idxM l x
 |[],h=>by simp[J7]at h
 |(j,c)::l,h=>by
  rw[X4];by_cases e:j=k
  ·subst e;rw[if_pos rfl,idxM,idxM]
  ·rw[if_neg e,idxM,idxM];by_cases e2:j=x
   ·rw[if_pos e2,if_pos e2]
   ·rw[if_neg e2,if_neg e2,idx_ins (by rw[J7,if_neg e2]at h;exact h)]
def allMT (l:List (Nat×Bool)):Prop:=∀p∈l,p.2=true
theorem idx_new {k:Nat}:∀{l:List (Nat×Bool)},allMT l->J7 l k=false->idxM (X4 k true l) k=l.length
 |[],_,_=>by simp[X4,idxM]
 |(j,c)::l,ha,h=>by
  have hc:c=true:=ha (j,c) (by simp);have Ai:j≠k:=λe=>by rw[J7,if_pos e,hc]at h;cases h
  rw[X4,if_neg Ai,idxM,if_neg Ai,idx_new (λp hp=>ha p (by simp[hp])) (by rw[J7,if_neg Ai]at h;exact h),Gi]
theorem all_ins {k:Nat}:∀{l:List (Nat×Bool)},allMT l->allMT (X4 k true l)
 |[],_=>λp hp=>by simp[X4]at hp;rw[hp]
 |(j,c)::l,ha=>by
  rw[X4]
  split
  ·intro p hp;rcases Gw.1 hp with rfl|hp
   ·rfl
   ·exact ha p (by simp[hp])
  ·intro p hp;rcases Gw.1 hp with rfl|hp
   ·exact ha _ (by simp)
   ·exact all_ins (λq hq=>ha q (by simp[hq])) p hp
structure FO (t:Tr)(o:List Int)(S:FS):Prop where
 all:allMT S.fd
 ord:∀s,J7 S.fd s=true->∀i s',i<t.nodes.length->blw o i (Ji t s)->bareN t o i s'->J7 S.fd s'=true/\idxM S.fd s' < idxM S.fd s
 set0:∀s,s<t.nodes.length->(nd t s).k=41->Ju S.got s=[]
theorem FO.fields {t:Tr}{o:List Int}{S S':FS}(h:FO t o S)(h1:S'.got=S.got)(h3:S'.fd=S.fd):FO t o S':=⟨by rw[h3];exact h.all,by rw[h3];exact h.ord,by rw[h1];exact h.set0⟩
theorem FO.fin {t:Tr}{o:List Int}{S:FS}{i:Nat}{r:Option TL}(h:FO t o S)(hl:i<S.got.length)(hr:(nd t i).k=41->r=none\/r=some []):FO t o (S.fin i r):=by
 unfold FS.fin FS.fail
 cases r with
 |none=>simp only;split <;> exact h.fields rfl rfl
 |some l=>
  simp only
  split
  ·exact h
  ·split
   ·refine⟨h.all,h.ord,λs hs hk=>?_⟩;simp only
    split
    ·exact h.set0 s hs hk
    ·rename_i Ai;rw[Jas hl]
     split
     ·rename_i e;subst e;rcases hr hk with h|h
      ·cases h
      ·cases h;exact absurd rfl Ai
     ·exact h.set0 s hs hk
   ·first
    |exact h.fields rfl rfl
    |(split <;> exact h.fields rfl rfl)
section
variable {t:Tr}{o:List Int}(g:GoodT t o)
include g
theorem done_below {S:FS}(hR:FR t o S):∀(a i:Nat),a<t.nodes.length->blw o i a->S.dn.getD a false=true->S.dn.getD i false=true:=by
 intro a
 induction a using Nat.strongRecOn with
 |ind a ih=>
  intro i ha hb hd;rcases Jb4 g ha hb with rfl|⟨c,hc,Cr⟩
  ·exact hd
  ·have:=(JR g ha hc).2;exact ih c this i (by omega) Cr (hR.clo a ha hd c hc)
theorem bare_found {S:FS}(hI:FI t S)(hM:FM t o S){i s':Nat}(hE:(XL t o).2=0)(hi:i<t.nodes.length)(hd:S.dn.getD i false=true)(hb:bareN t o i s'):J7 S.fd s'=true:=by
 obtain⟨h3,m,hm,MJ,hp⟩:=hb;obtain⟨h1,h2⟩:=hM i hi h3 hd m hm;obtain⟨C8,AQ,Cv⟩:=Y5 g hE hi h3 hm;have hv:JhB t S m=Ju S.got m:=by
  unfold JhB;rw[if_neg (by rw[MJ.1];omega),if_neg (λh=>by rcases h with h|h;(rw[MJ.1]at h;omega);exact h.2 MJ.2)]
 rw[hv]at h2;rcases Cv with h|h|h|⟨_,s,k,s1,s2,s3,s4,s5,s6⟩
 ·have:=MJ.1;omega
 ·have:=MJ.1;omega
 ·have:=MJ.1;omega
 ·obtain rfl:s=s':=by omega
  cases hf:J7 S.fd s with
  |true=>rfl
  |false=>
   have:=hI.unf s s2 s3 hf k s5 (by rw[s6];exact MJ.2);rw[s6]at this;exact absurd this h2
theorem settle_fo {S:FS}{s:Nat}(hE:(XL t o).2=0)(hI:FI t S)(hM:FM t o S)(hR:FR t o S)(hO:FO t o S)(hs:s<t.nodes.length)(hk:(nd t s).k=41)(hd:S.bad=none->S.dn.getD (Ji t s) false=true)(hb:S.bad=none):FO t o (J5 t s S):=by
 obtain⟨b1,b2,b3,b4⟩:=KF g hs hk;unfold J5;simp only
 split
 case isFalse=>unfold FS.fail;split <;> exact hO.fields rfl rfl
 case isTrue hl=>
  change FO t o { S with got:=JaW t s (Ju S.got (Ji t s)) S.got (nB t s),fd:=X4 s true S.fd };refine⟨all_ins hO.all,λs0 h0 i s' hi Bt F6=>?_,λu hu Ic=>?_⟩
  ·simp only at h0|-;rw[Xi]at h0;have fresh:∀x,J7 S.fd x=true->J7 (X4 s true S.fd) x=true/\idxM (X4 s true S.fd) x=idxM S.fd x:=λx hx=>⟨by rw[Xi];split;rfl;exact hx,idx_ins hx⟩
   cases hf:J7 S.fd s0 with
   |true=>
    obtain⟨h1,h2⟩:=hO.ord s0 hf i s' hi Bt F6;obtain⟨f1,f2⟩:=fresh s' h1;rw[f2,(fresh s0 hf).2];exact⟨f1,h2⟩
   |false=>
    rw[hf]at h0
    split at h0
    ·rename_i he;subst he;have h1:=bare_found g hI hM hE hi (done_below g hR _ i (by omega) Bt (hd hb)) F6;obtain⟨f1,f2⟩:=fresh s' h1;rw[f2,idx_new hO.all hf];exact⟨f1,idx_lt h1⟩
    ·cases h0
  ·rw[show Ju (JaW t s (Ju S.got (Ji t s)) S.got (nB t s)) u=Ju S.got u from JdO _ λk Av jA he=>by have:=(b2 k Av).1;rw[he]at this;omega];exact hO.set0 u hu Ic
def GoO (t:Tr)(o:List Int)(f:Nat)(go:FS->Nat->FS):Prop:=∀S i,FI t S->FM t o S->FR t o S->FO t o S->i<t.nodes.length->JhE t o S i->uf t S<f->FO t o (go S i)
omit g in
theorem span_fo {f:Nat}{go:FS->Nat->FS}(Ca:GoOk t o f go)(Ei:GoR t o f go)(Pp:GoO t o f go){S:FS}(hI:FI t S)(hM:FM t o S)(hR:FR t o S)(hO:FO t o S)(hu:uf t S<f){a m:Nat}(Md:a+m<=t.nodes.length)(hP:∀S' j,FG t S S'->j<m->(S'.bad=none->∀j',j' < j->S'.dn.getD (a+j') false=true)->JhE t o S' (a+j)) :
  ∀k,k<=m->FO t o ((KQ a k).foldl go S)
 |0,_=>hO
 |k+1,hk=>by
  obtain⟨h1,h2,h3,h4⟩:=JaO Ca hI hM hu Md hP k (by omega);have ih:=span_fo Ca Ei Pp hI hM hR hO hu Md hP k (by omega);have ihr:=Jed Ca Ei hI hM hR hu Md hP k (by omega);rw[JaN,Gt];generalize (KQ a k).foldl go S=S1 at *;exact Pp S1 (a+k) h1 h2 ihr ih (by omega) (hP S1 k h3 (by omega) h4) (by rw[uf_eq h3];exact hu)
theorem force_fo {f:Nat}{go:FS->Nat->FS}(hE:(XL t o).2=0)(Ca:GoOk t o f go)(Ei:GoR t o f go)(Pp:GoO t o f go){S:FS}{i m s:Nat}(hI:FI t S)(hM:FM t o S)(hR:FR t o S)(hO:FO t o S)(hi:i<t.nodes.length)(hP:JhE t o S i)(hu:uf t S<f+1)(hs:s<t.nodes.length)(BH:(nd t s).k=41)(hm:(m:Int)∈(nd t s).kids)(Cv:(nd t m).k=42)(AQ:inS t o (m:Int) i):FO t o (Xd t o go s i S):=by
 unfold Xd
 cases Oc:J7 S.fg s with
 |true=>
  rw[if_pos rfl];unfold FS.fail
  split
  ·exact hO
  ·exact hO.fields rfl rfl
 |false=>
  rw[if_neg (by simp)];simp only;obtain⟨b1,b2,b3,b4⟩:=KF g hs BH;have bT:=fs_le g (a:=Ji t s) (by omega);have Mg:FI t { S with fg:=X4 s true S.fg }:=⟨hI.gl,hI.dl,hI.emp,hI.unf,hI.fnd,hI.fine,hI.ini,hI.typ⟩;have Pi:=Jgp hs Oc;obtain⟨a,ha⟩:∃a:Nat,fs o ((Ji t s:Nat):Int)=a:=⟨(fs o ((Ji t s:Nat):Int)).toNat,by omega⟩;rw[ha,Gc];have Bl:=JeK g hi hP hs BH hm Cv AQ ha;have Ez:=JaO Ca Mg (S:={ S with fg:=X4 s true S.fg }) (show FM t o _ from hM) (by omega) (a:=a) (m:=Ji t s+1-a) (by omega) Bl _ (Gd _);have Ip:=Jed Ca Ei Mg (S:={ S with fg:=X4 s true S.fg }) (show FM t o _ from hM) (hR.fields rfl rfl rfl) (by omega) (a:=a) (m:=Ji t s+1-a) (by omega) Bl _ (Gd _);have PW:=span_fo Ca Ei Pp Mg (S:={ S with fg:=X4 s true S.fg }) (show FM t o _ from hM) (hR.fields rfl rfl rfl) (hO.fields rfl rfl) (by omega) (a:=a) (m:=Ji t s+1-a) (by omega) Bl _ (Gd _);generalize (KQ a (Ji t s+1-a)).foldl go { S with fg:=X4 s true S.fg }=S1 at Ez Ip PW|-;obtain⟨q1,q2,q3,q4⟩:=Ez;refine FO.fields (S:=if S1.bad.isSome=true then S1 else J5 t s S1) ?_ rfl rfl
  split
  ·exact PW
  ·rename_i hb;have F6:S1.bad=none:=by cases h:S1.bad with|none=>rfl|some x=>rw[h]at hb;exact absurd rfl hb
   refine settle_fo g hE q1 q2 Ip PW hs BH (λhb=>?_) F6;have:=q4 hb (Ji t s-a) (by omega);rw[show a+(Ji t s-a)=Ji t s by omega]at this;exact this
theorem doF_fo (hE:(XL t o).2=0):∀f,GoO t o f (doF t o (λi=>(JN t o i).toNat) f)
 |0=>λS i _ _ _ _ _ _ hu=>by omega
 |f+1=>λS i hI hM hR hO hi hP hu=>by
  unfold doF
  cases Dy:(S.bad.isSome || S.dn.getD i false) with
  |true=>rw[if_pos rfl];exact hO
  |false=>
   rw[if_neg (by simp)];obtain⟨DY,Fy⟩:=Gx.1 Dy;have F6:S.bad=none:=by cases h:S.bad with|none=>rfl|some x=>rw[h]at DY;cases DY
   have Af:i<S.got.length:=by rw[hI.gl];exact hi
   by_cases h3:(nd t i).k=3
   ·rw[if_pos h3];simp only;obtain⟨m,hm⟩:∃m:Nat,JN t o i=m:=⟨(JN t o i).toNat,by have:=(Y4 g hE hi h3).2.1;omega⟩;obtain⟨C8,AQ,Cv⟩:=Y5 g hE hi h3 hm;rw[hm,Gc];have h0:(nd t i).k=41->∀r:Option TL,r=none\/r=some []:=λh=>by omega
    unfold JbF;by_cases BV:(nd t m).k=47
    ·rw[if_pos BV];exact hO.fin Af λh=>h0 h _
    rw[if_neg BV];by_cases CO:(nd t m).k=64\/(nd t m).k=42/\(nd t m).kids≠[]
    ·rw[if_pos CO];exact hO.fin Af λh=>h0 h _
    rw[if_neg CO];by_cases CS:(nd t m).k=42/\J7 S.fd (Kk t m).toNat=false
    ·rw[if_pos CS];simp only;rcases Cv with h|h|h|⟨_,s,k,s1,s2,s3,s4,s5,s6⟩
     ·exact absurd h BV
     ·exact absurd (.inl h) CO
     ·have:=CS.1;omega
     ·rw[s1,Gc];obtain⟨q1,q2,q3,q4⟩:=Jcv g (Ja8 g hE f) hI hM hi hP hu s2 s3 s4 CS.1 AQ;have qo:=force_fo g hE (Ja8 g hE f) (doF_fr g hE f) (doF_fo hE f) hI hM hR hO hi hP hu s2 s3 s4 CS.1 AQ;exact qo.fin (by rw[q1.gl];exact hi) λh=>h0 h _
    ·rw[if_neg CS];exact hO.fin Af λh=>h0 h _
   ·rw[if_neg h3];by_cases Bg:(nd t i).k=41
    ·rw[if_pos Bg];simp only;have hS:FO t o (Jag t i S)/\FI t (Jag t i S):=by
      unfold Jag
      split
      ·exact⟨hO,hI⟩
      ·exact⟨settle_fo g hE hI hM hR hO hi Bg (λ_=>(hP F6).1 _ (JgZ g hi Bg)) F6,(Yj g hI hi Bg).1⟩
     exact hS.1.fin (by rw[hS.2.gl];exact hi) λ_=>by
      split
      ·exact .inr rfl
      ·exact .inl rfl
    ·rw[if_neg Bg];exact hO.fin Af λh=>absurd h Bg
end
end
section
section
variable {t:Tr}{o:List Int}(g:GoodT t o)
theorem Jca {t:Tr}(j:Nat):Ju (FS.start t).got j=[]:=by
 unfold FS.start Ju;simp only[Ga,Gn]
 split <;> rfl
theorem Jbj {t:Tr}(j:Nat):(FS.start t).dn.getD j false=false:=by
 unfold FS.start;simp only[Ga,Gn]
 split <;> rfl
theorem start_fi {t:Tr}:FI t (FS.start t):=⟨by simp[FS.start],by simp[FS.start],λi _ _=>Jca i,λs _ _ _ k _ _=>Jca _,λs h=>by simp[FS.start,J7]at h,λi=>by rw[Jca];rfl,λi _ h=>(by rw[Jbj]at h;cases h),λi _ h=>(by rw[Jbj]at h;cases h)⟩
theorem start_fm {t:Tr}{o:List Int}:FM t o (FS.start t):=λi _ _ h=>by rw[Jbj]at h;cases h
theorem start_fr {t:Tr}{o:List Int}:FR t o (FS.start t):=⟨λi _ h=>(by rw[Jbj]at h;cases h),λi _ h=>(by rw[Jbj]at h;cases h),λi _ h=>(by rw[Jbj]at h;cases h)⟩
theorem start_fo {t:Tr}{o:List Int}:FO t o (FS.start t):=⟨λp hp=>by simp[FS.start]at hp,λs h=>by simp[FS.start,J7]at h,λs _ _=>Jca s⟩
theorem start_uf {t:Tr}:uf t (FS.start t)<t.nodes.length+1:=by
 unfold uf;have:=GA (λs=>!J7 (FS.start t).fg s) (Gb t.nodes.length);rw[GG]at this;omega
theorem span_zero {n:Nat}:KQ 0 n=Gb n:=by
 unfold KQ;refine GH (by simp) λi h1 h2=>?_
 simp
include g
theorem start_pre:∀S' j,FG t (FS.start t) S'->j<t.nodes.length->(S'.bad=none->∀j',j' < j->S'.dn.getD (0+j') false=true)->JhE t o S' (0+j):=λS' j _ hj Ce hb=>by
 have BF:=Ce hb;refine⟨λc hc=>?_,λv hv Cj Ol _=>?_⟩
 ·have Ay:=(JR g (show 0+j<t.nodes.length by omega) hc).2;have:=BF c (by omega);rw[Gm]at this;exact this
 ·have:=BF v (by omega);rw[Gm]at this;exact this
theorem infer_inv (hE:(XL t o).2=0):FI t (JX t o)/\FM t o (JX t o)/\FR t o (JX t o)/\FO t o (JX t o)/\((JX t o).bad=none->∀j,j<t.nodes.length->(JX t o).dn.getD j false=true):=by
 obtain⟨h1,h2,_,h4⟩:=Jg4 g hE t.nodes.length (Gd _);have h5:=Jed (Ja8 g hE (t.nodes.length+1)) (doF_fr g hE (t.nodes.length+1)) start_fi start_fm start_fr start_uf (a:=0) (m:=t.nodes.length) (by omega) (start_pre g) t.nodes.length (Gd _);have h6:=span_fo (Ja8 g hE (t.nodes.length+1)) (doF_fr g hE (t.nodes.length+1)) (doF_fo g hE (t.nodes.length+1)) start_fi start_fm start_fr start_fo start_uf (a:=0) (m:=t.nodes.length) (by omega) (start_pre g) t.nodes.length (Gd _);rw[span_zero]at h1 h2 h4 h5 h6;refine⟨h1,h2,h5,h6,λhb j hj=>?_⟩;have:=h4 hb j hj;rw[Gm]at this;exact this
theorem typed_ta (hE:(XL t o).2=0)(hb:(JX t o).bad=none):TA t o (Ju (JX t o).got)/\Acy t o (idxM (JX t o).fd):=by
 obtain⟨hI,hM,hR,hO,hd⟩:=infer_inv g hE;have hd:=hd hb;have hl:lisT t (Ju (JX t o).got)=(JX t o).got:=by
  unfold lisT;refine GH (by simp[hI.gl]) λi h1 h2=>?_
  simp[Ju,Ga,Gf h2]
 refine⟨⟨λi hi hk m hm=>hM i hi hk (hd i hi) m hm,λs hs hk=>?_,λi hi h3 Bg=>?_,λi _=>hI.fine i⟩,λs hs hk i s' hi Bt hn=>?_⟩
 ·obtain⟨f1,f2⟩:=hR.sets s hs (hd s hs) hk;obtain⟨_,_,f3,f4⟩:=hI.fnd s f1;obtain⟨b1,b2,b3,b4⟩:=KF g hs hk;refine⟨f3,λk Av=>?_,hO.set0 s hs hk⟩;by_cases he:(nd t (JG t s k)).kids=[]
  ·exact f4 k Av he
  ·have Aw:JG t s k<t.nodes.length:=by have:=(b2 k Av).2;omega
   rw[hI.typ _ Aw (hd _ Aw) (b2 k Av).1 he];unfold Jab at f2;have:=GI.1 f2 k (Gv.2 Av);rw[Bool.or_eq_true,List.isEmpty_iff]at this;rcases this with h|h
   ·exact absurd h he
   ·rw[eq_of_beq h]
 ·obtain⟨l,h1,h2⟩:=hR.rule i hi (hd i hi) h3 Bg;exact⟨l,by rw[hl];exact h1,h2⟩
 ·exact(hO.ord s (hR.sets s hs (hd s hs) hk).1 i s' hi Bt hn).2
end
end
section
section
variable {t:Tr}{o:List Int}(g:GoodT t o)
include g
theorem Jcq {i:Nat}(hi:i<t.nodes.length)(hk:(nd t i).k=25\/(62<=(nd t i).k/\(nd t i).k<=64)\/(nd t i).k=42/\(nd t i).kids≠[]):0<(nd t i).kids.length/\JG t i 0<i/\60<=(nd t (JG t i 0)).k/\(nd t (JG t i 0)).k<=63:=by
 have h:=JfQ g hi;have e:lets t.nodes (nd t i)=[116]:=by
  by_cases Ck:(nd t i).k=42
  ·have Ai:lets t.nodes (nd t i)≠[]:=λe=>by
    have:=congrArg Gh e;rw[Kv]at this;rcases hk with h1|h1|h1
    ·omega
    ·omega
    ·exact h1.2 (Gp this)
   rw[Ck]at h;generalize lets t.nodes (nd t i)=hv at *;rw[h];simp[K7,Ai]
  ·rw[h];unfold K7;simp only;rw[iN7,iN7,iP7]
 have hl:=congrArg Gh e;rw[Kv]at hl;simp only[Gi,Gu]at hl;have hg:=let_get g hi (j:=0) (by omega);rw[e]at hg;have h2:=Jcn (Gg hg).symm;exact⟨by omega,(Jz g hi (i:=0) (by omega)).2.1,h2.1,h2.2⟩
theorem tyF_fuel:∀(f f' i:Nat),i<t.nodes.length->60<=(nd t i).k->(nd t i).k<=63->i<f->i<f'->tyF t f i=tyF t f' i
 |0,_,_,_,_,_,h,_=>by omega
 |f+1,0,_,_,_,_,_,h=>by omega
 |f+1,f' + 1,i,hi,h1,h2,h3,h4=>by
  unfold tyF;by_cases e0:(nd t i).k=60
  ·rw[if_pos e0,if_pos e0]
  ·by_cases e1:(nd t i).k=61
   ·rw[if_neg e0,if_neg e0,if_pos e1,if_pos e1]
   ·obtain⟨k1,k2,k3,k4⟩:=Jcq g hi (.inr (.inl ⟨by omega,by omega⟩));rw[tyF_fuel f f' (JG t i 0) (by omega) k3 k4 (by omega) (by omega)]
theorem tyN_eq {i:Nat}(hi:i<t.nodes.length)(h1:60<=(nd t i).k)(h2:(nd t i).k<=63):tyN t i=if (nd t i).k=60 then .int else if (nd t i).k=61 then .bool else if (nd t i).k=62 then .arr (tyN t (JG t i 0)) else .str (tyN t (JG t i 0)):=by
 show tyF t (i+1) i=_;unfold tyF;by_cases e0:(nd t i).k=60
 ·rw[if_pos e0,if_pos e0]
 ·by_cases e1:(nd t i).k=61
  ·rw[if_neg e0,if_neg e0,if_pos e1,if_pos e1]
  ·obtain⟨k1,k2,k3,k4⟩:=Jcq g hi (.inr (.inl ⟨by omega,by omega⟩));rw[tyF_fuel g i (JG t i 0+1) (JG t i 0) (by omega) k3 k4 (by omega) (by omega)];rfl
end
section
variable {u t:Tr}{p o:List Int}{ψ:Nat->Nat}(gu:GoodT u p)(g:GoodT t o)(h:TMap u t ψ)
include gu g h
end
end
def KK (t:Tr)(got:List TL)(i j:Nat):TL:=if j<(nd t i).kids.length then Ju got (JG t i j) else []
def JI (k:Nat)(ks:List Int)(n:Nat)(K L:Nat->TL)(ty:TyX)(sp sr si gm:TL):Option TL:=
 if k=1 then some [.int]
 else if k=2 then some [.bool]
 else if k=4 then match K 1 with
  |[.str a]=>if K 0=[a] then some [.str a] else none
  |_=>none
 else if k=5\/k=6 then if K 0=[.bool]/\K 1=[.bool] then some [.bool] else none
 else if k=7\/k=8 then if K 0=[.int]/\K 1=[.int]\/K 0=[.bool]/\K 1=[.bool] then some [.bool] else none
 else if 9<=k/\k<=12 then if K 0=[.int]/\K 1=[.int] then some [.bool] else none
 else if 13<=k/\k<=17 then if K 0=[.int]/\K 1=[.int] then some [.int] else none
 else if k=18 then match K 0 with
  |[.arr a]=>if K 1=[.int] then some [a] else none
  |_=>none
 else if k=19 then if K 0=[.bool] then some [.bool] else none
 else if k=20 then if K 0=[.int] then some [.int] else none
 else if k=21 then match K 0 with
  |[.str a]=>some [a]
  |_=>none
 else if k=22 then match K 0 with
  |[.str a]=>some [.str a]
  |_=>none
 else if k=23 then match K 0 with
  |[.str _]=>some [.bool]
  |_=>none
 else if k=24 then match K 0 with
  |[.arr _]=>some [.int]
  |_=>none
 else if k=25 then some [.str ty]
 else if k=26 then if ks.length=sp.length/\∀j,j<ks.length->K j=[sp.getD j .int] then some sr else none
 else if k=27 then if K 0=[.bool]/\K 1=K 2 then some (K 1) else none
 else if k=28 then if K n=[.bool] then some (K (ks.length-1)) else none
 else if k=29 then match L 1 with
  |[a]=>if ((Gb (ks.length-1)).all λj=>L (j+1) == [a])=true/\K 0=[.int] then some [.arr a] else none
  |_=>none
 else if k=40 then Yt ((Gb (ks.length-n)).map λj=>K (n+j))
 else if k=45 then Yt ((Gb ks.length).map K)
 else if k=42 then if ks=[] then some [] else some [ty]
 else if k=64 then some [ty]
 else if k=43 then if (K 0).length=1 then some (K 0) else none
 else if k=44 then if gm.length=1/\K 0=gm then some [] else none
 else if k=47 then some [.int]
 else if k=65 then if K (ks.length-1)=si then some [] else none
 else some []
theorem JL {t:Tr}{m:Nat}{got:List TL}{i:Nat}:Xa t m got i=JI (nd t i).k (nd t i).kids (nd t i).n.toNat (KK t got i) (Jcp t got i) (tyN t (JG t i 0)) (JaF t m) (YA t m) (YA t i) (Ju got m):=rfl
theorem ruleK_congr {k n:Nat}{ks ks':List Int}{K K' L L':Nat->TL}{ty ty':TyX}{sp sp' sr sr' si si' gm gm':TL}(hl:ks'.length=ks.length)(hK:k≠40->k≠28->K'=K)(DZ:k=28->K' n=K n/\K' (ks.length-1)=K (ks.length-1))(Ec:k=40->∀j,j<ks.length-n->K' (n+j)=K (n+j))(Pz:k=29->∀j,L' (j+1)=L (j+1))(Cs:k=25\/k=64\/k=42/\ks≠[]->ty'=ty)(Cz:k=26->sp'=sp/\sr'=sr)(BO:k=44->gm'=gm)(BG:k=65->si'=si):JI k ks' n K' L' ty' sp' sr' si' gm'=JI k ks n K L ty sp sr si gm:=by
 by_cases e28:k=28
 ·subst e28;obtain⟨a,b⟩:=DZ rfl;simp[JI,hl,a,b]
 by_cases e40:k=40
 ·subst e40;have:((Gb (ks.length-n)).map λj=>K' (n+j))=(Gb (ks.length-n)).map λj=>K (n+j):=List.map_congr_left λj hj=>Ec rfl j (Gv.1 hj)
  simp[JI,hl,this]
 obtain rfl:=hK e40 e28;by_cases e29:k=29
 ·subst e29;have h1:=Pz rfl 0;simp only[Gm]at h1;simp[JI,hl,h1,Pz rfl]
 by_cases e25:k=25
 ·subst e25;simp[JI,Cs (.inl rfl)]
 by_cases e64:k=64
 ·subst e64;simp[JI,Cs (.inr (.inl rfl))]
 by_cases e42:k=42
 ·subst e42;by_cases he:ks=[]
  ·have Ch:ks'=[]:=Gp (by rw[hl,he];rfl);simp[JI,he,Ch]
  ·have Ch:ks'≠[]:=λe=>he (Gp (by rw[<-hl,e];rfl))
   simp[JI,he,Ch,Cs (.inr (.inr ⟨rfl,he⟩))]
 by_cases e26:k=26
 ·subst e26;obtain⟨rfl,rfl⟩:=Cz rfl;simp[JI,hl]
 by_cases e44:k=44
 ·subst e44;obtain rfl:=BO rfl;simp[JI]
 by_cases e65:k=65
 ·subst e65;obtain rfl:=BG rfl;simp[JI,hl]
 unfold JI;simp only[if_neg e28,if_neg e40,if_neg e29,if_neg e25,if_neg e64,if_neg e42,if_neg e26,if_neg e44,if_neg e65,hl]
section
structure TyM (u t:Tr)(p o:List Int)(ψ:Nat->Nat):Prop where
 n:∀j,j<u.nodes.length->(nd t (ψ j)).n=(nd u j).n
 pos:∀j,j<u.nodes.length->∀i,i<(nd u j).kids.length->(nd u (JG u j i)).k≠41->ψ (JG u j i)=JG t (ψ j) i
 of:∀j,j<u.nodes.length->Kr u j=true->∃d:Nat,d<u.nodes.length/\JN u p j=d/\JN t o (ψ j)=(ψ d:Nat)/\((nd u j).k=26->(nd u d).k=65)
section
variable {u t:Tr}{p o:List Int}{ψ:Nat->Nat}(gu:GoodT u p)(g:GoodT t o)(h:TMap u t ψ)(M:TyM u t p o ψ)
include gu g h M
end
end
section
section
variable {t:Tr}{o:List Int}(g:GoodT t o)
include g
end
end
def txL (l:TL):List (List UInt8):=l.map tyT
def XY:List (List UInt8)->List UInt8
 |[x]=>x
 |_=>[]
theorem Yc {a:TyX}:XY (txL [a])=tyT a:=rfl
def KC (k n len:Nat)(G:List (List UInt8))(A:Nat->List (List UInt8)):Prop:=
 if k=1 then XY G=tyT .int
 else if k=2 then XY G=tyT .bool
 else if 13<=k/\k<=17 then XY G=tyT .int/\XY (A 0)=XY G/\XY (A 1)=XY G
 else if k=20 then XY G=tyT .int/\XY (A 0)=XY G
 else if 9<=k/\k<=12 then XY G=tyT .bool/\XY (A 0)=tyT .int/\XY (A 1)=XY (A 0)
 else if k=7\/k=8 then XY G=tyT .bool/\XY (A 0)=XY (A 1)/\(XY (A 0)=tyT .int\/XY (A 0)=tyT .bool)
 else if k=5\/k=6 then XY G=tyT .bool/\XY (A 0)=XY G/\XY (A 1)=XY G
 else if k=19 then XY G=tyT .bool/\XY (A 0)=XY G
 else if k=4 then XY (A 0)≠[]/\XY G=QD++XY (A 0)/\XY (A 1)=XY G
 else if k=21 then XY G≠[]/\XY (A 0)=QD++XY G
 else if k=22 then XY G=XY (A 0)/\7<(XY G).length/\(XY G).take 7=QD
 else if k=23 then XY G=tyT .bool/\7<(XY (A 0)).length/\(XY (A 0)).take 7=QD
 else if k=18 then XY G≠[]/\XY (A 0)=91::(XY G++[93])/\XY (A 1)=tyT .int
 else if k=24 then XY G=tyT .int/\2<(XY (A 0)).length/\(XY (A 0)).take 1=[91]
 else if k=27 then XY (A 0)=tyT .bool/\G=A 1/\G=A 2
 else if k=28 then XY (A n)=tyT .bool/\G=A (len-1)
 else 0<G.length
theorem ty_pos {a:TyX}:0<(tyT a).length:=by
 cases h:tyT a with
 |nil=>exact absurd h Jd7
 |cons x l=>simp
theorem str_long {a:TyX}:7<(tyT (.str a)).length/\(tyT (.str a)).take 7=QD:=by
 have:=ty_pos (a:=a);refine⟨by simp only[tyT,GD,QD,Gi,Gu];omega,by simp[tyT,QD]⟩
theorem arr_long {a:TyX}:2<(tyT (.arr a)).length/\(tyT (.arr a)).take 1=[91]:=by
 have:=ty_pos (a:=a);refine⟨by simp only[tyT,GD,Gi,Gu];omega,by simp[tyT]⟩
theorem right_ok {k n:Nat}{ks:List Int}{K L:Nat->TL}{ty:TyX}{sp sr si gm l:TL}(h:JI k ks n K L ty sp sr si gm=some l)(hk:1<=k/\k<=29)(h3:k≠3)(Cz:k=26->sr≠[]):KC k n ks.length (txL l) (λj=>txL (K j)):=by
 rcases (show k=1\/k=2\/k=4\/(k=5\/k=6)\/(k=7\/k=8)\/(9<=k/\k<=12)\/(13<=k/\k<=17)\/k=18\/k=19\/k=20\/k=21\/k=22\/k=23\/k=24\/k=25\/k=26\/k=27\/k=28\/k=29 by omega) with e|e|e|e|e|e|e|e|e|e|e|e|e|e|e|e|e|e|e
 ·subst e;simp[JI]at h;subst h;simp[KC,Yc]
 ·subst e;simp[JI]at h;subst h;simp[KC,Yc]
 ·subst e;simp[JI]at h
  split at h
  ·rename_i a ha;obtain⟨h0,rfl⟩:=(by simpa using h:K 0=[a]/\[TyX.str a]=l);simp[KC,h0,ha,Yc,Jd7];rfl
  ·cases h
 ·have h':(if K 0=[.bool]/\K 1=[.bool] then some [TyX.bool] else none)=some l:=by rcases e with rfl|rfl <;> simpa [JI]using h
  split at h'
  ·rename_i hc;obtain rfl:=Gg h';rcases e with rfl|rfl <;> simp[KC,hc.1,hc.2,Yc]
  ·cases h'
 ·have h':(if K 0=[.int]/\K 1=[.int]\/K 0=[.bool]/\K 1=[.bool] then some [TyX.bool] else none)=some l:=by rcases e with rfl|rfl <;> simpa [JI]using h
  split at h'
  ·rename_i hc;obtain rfl:=Gg h';rcases hc with hc|hc <;> rcases e with rfl|rfl <;> simp[KC,hc.1,hc.2,Yc]
  ·cases h'
 ·have h':(if K 0=[.int]/\K 1=[.int] then some [TyX.bool] else none)=some l:=by
   unfold JI at h
   rwa [if_neg (by omega),if_neg (by omega),if_neg (by omega),if_neg (by omega),if_neg (by omega),if_pos e]at h
  split at h'
  ·rename_i hc;obtain rfl:=Gg h';unfold KC;rw[iN7,iN7,iN7,iN7,if_pos e];simp[hc.1,hc.2,Yc]
  ·cases h'
 ·have h':(if K 0=[.int]/\K 1=[.int] then some [TyX.int] else none)=some l:=by
   unfold JI at h
   rwa [if_neg (by omega),if_neg (by omega),if_neg (by omega),if_neg (by omega),if_neg (by omega),if_neg (by omega),if_pos e]at h
  split at h'
  ·rename_i hc;obtain rfl:=Gg h';unfold KC;rw[iN7,iN7,if_pos e];simp[hc.1,hc.2,Yc]
  ·cases h'
 ·subst e;simp[JI]at h
  split at h
  ·rename_i a ha;obtain⟨h0,rfl⟩:=(by simpa using h:K 1=[.int]/\[a]=l);simp[KC,h0,ha,Yc,Jd7];rfl
  ·cases h
 ·subst e;simp[JI]at h;obtain⟨h0,rfl⟩:=h;simp[KC,h0,Yc]
 ·subst e;simp[JI]at h;obtain⟨h0,rfl⟩:=h;simp[KC,h0,Yc]
 ·subst e;simp[JI]at h
  split at h
  ·rename_i a ha;obtain rfl:=Gg h;simp[KC,ha,Yc,Jd7];rfl
  ·cases h
 ·subst e;simp[JI]at h
  split at h
  ·rename_i a ha;obtain rfl:=Gg h;simp[KC,ha,Yc];exact str_long
  ·cases h
 ·subst e;simp[JI]at h
  split at h
  ·rename_i a ha;obtain rfl:=Gg h;simp[KC,ha,Yc];exact str_long
  ·cases h
 ·subst e;simp[JI]at h
  split at h
  ·rename_i a ha;obtain rfl:=Gg h;simp[KC,ha,Yc];exact arr_long
  ·cases h
 ·subst e;simp[JI]at h;subst h;simp[KC,txL]
 ·subst e;simp[JI]at h;obtain⟨_,rfl⟩:=h;have:=Cz rfl;simp[KC,txL];exact List.length_pos_iff.2 this
 ·subst e;simp[JI]at h;obtain⟨⟨h0,h1⟩,rfl⟩:=h;simp[KC,h0,h1,Yc]
 ·subst e;simp[JI]at h;obtain⟨h0,rfl⟩:=h;simp[KC,h0,Yc]
 ·subst e;simp[JI]at h
  split at h
  ·rename_i a ha;obtain⟨_,rfl⟩:=(by simpa using h:_/\[TyX.arr a]=l);simp[KC,txL]
  ·cases h
section
section
variable {t:Tr}{o:List Int}(g:GoodT t o)
include g
theorem Jht {d:Nat}(hd:d<t.nodes.length)(hk:(nd t d).k=65):(nd t d).n.toNat+1<(nd t d).kids.length:=by
 have h:=g.nds (nd t d) (by unfold nd;rw[Ga,Gf hd];exact Gj hd);have hl:=Kv (l:=t.nodes) (x:=nd t d);unfold ndI J6 at h;rw[hk]at h;generalize lets t.nodes (nd t d)=hv at *;simp only[Gy,beq_iff_eq]at h;obtain⟨⟨⟨⟨_,h1⟩,_⟩,_,h3⟩,h4⟩:=h;have e:hv.length=Qo 80 hv+Qo 116 hv+1:=by
  have:=congrArg Gh h1;simp[K7]at this;omega
 simp[QS]at h3;simp[QN,inI]at h4;omega
theorem sig_ne {d:Nat}(hd:d<t.nodes.length)(hk:(nd t d).k=65):YA t d≠[]:=λe=>by
 have h:=Jht g hd hk;have:=congrArg Gh e;unfold YA at this;simp at this;omega
theorem name_ty (hE:(XL t o).2=0){τ:Nat->TL}(hA:TA t o τ){i m:Nat}(hi:i<t.nodes.length)(hk:(nd t i).k=3)(hm:JN t o i=m):τ i=τ m/\∃a,τ i=[a]:=by
 obtain⟨h1,h2⟩:=hA.nam i hi hk m hm;obtain⟨C8,_,Cv⟩:=Y5 g hE hi hk hm;rw[h1];have one:∀l,(nd t m).k≠3->(nd t m).k≠41->¬Jay t m->Xa t (JN t o m).toNat (lisT t τ) m=some l->τ m=l:=λl k1 k2 k3 h=>by
  obtain⟨l',q1,q2⟩:=hA.rule m C8 k1 k2;rw[h]at q1;rw[q2 k3];exact(Gg q1).symm
 unfold valT at h2|-;rcases Cv with e|e|e|⟨e,s,k,s1,s2,s3,s4,s5,s6⟩
 ·rw[if_pos e,one [.int] (by omega) (by omega) (λh=>by have:=h.1;omega) (by rw[JL,e];simp[JI])];exact⟨rfl,_,rfl⟩
 ·rw[iN7,if_pos (.inl e),one [tyN t (JG t m 0)] (by omega) (by omega) (λh=>by have:=h.1;omega) (by rw[JL,e];simp[JI])];exact⟨rfl,_,rfl⟩
 ·rw[iN7,iN7];refine⟨rfl,?_⟩;obtain⟨l,q1,q2⟩:=hA.rule m C8 (by omega) (by omega);have q2:=q2 λh=>by have:=h.1;omega
  rw[JL,e]at q1;simp[JI]at q1;obtain⟨q3,rfl⟩:=q1;rw[q2];obtain⟨a,ha⟩:=Gr.1 q3;exact⟨a,ha⟩
 ·by_cases hn:(nd t m).kids=[]
  ·rw[iN7,if_neg (by simp[hn];omega)];refine⟨rfl,?_⟩;have:=(hA.sets s s2 s3).2.1 k s5;rw[s6]at this;exact⟨_,this⟩
  ·rw[iN7,if_pos (.inr ⟨e,hn⟩),one [tyN t (JG t m 0)] (by omega) (by omega) (λh=>hn h.2) (by rw[JL,e];simp[JI,hn])];exact⟨rfl,_,rfl⟩
theorem table_ok (hE:(XL t o).2=0){τ:Nat->TL}(hA:TA t o τ){i:Nat}(hi:i<t.nodes.length)(hk:1<=(nd t i).k/\(nd t i).k<=29)(h3:(nd t i).k≠3):KC (nd t i).k (nd t i).n.toNat (nd t i).kids.length (txL (τ i)) (λj=>txL (KK t (lisT t τ) i j)):=by
 obtain⟨l,h1,h2⟩:=hA.rule i hi h3 (by omega);rw[h2 λh=>by have:=h.1;omega];rw[JL]at h1;refine right_ok h1 hk h3 λCz=>?_
 have Ai:=(JdL hE hi).2 (by simp[Kr,Cz]);have h0:∃d:Nat,JN t o i=d:=by
  have hm:JN t o i=JbJ t i:=by unfold JN;rw[iN7,if_pos Cz]
  rw[hm]at Ai|-;unfold JbJ at Ai|-
  cases hf:(K6 t).find? λd=>(nd t d.toNat).text == (nd t i).text && (KI (nd t d.toNat).k && (nd t d.toNat).k == 65) with
  |none=>rw[hf]at Ai;exact absurd rfl Ai
  |some d=>
   have hd:=List.mem_of_find?_eq_some hf;unfold K6 at hd;obtain⟨x,_,hx⟩:=List.mem_map.1 hd;exact⟨x,hx.symm⟩
 obtain⟨d,hd⟩:=h0;obtain⟨d1,_,d3⟩:=(JeA (JcE hE) hi Cz).1 hd;rw[hd,Gc];exact sig_ne g d1 d3
theorem init_ty {τ:Nat->TL}(hA:TA t o τ){i:Nat}(hi:i<t.nodes.length)(hk:(nd t i).k=43):τ i=τ (JG t i 0)/\∃a,τ i=[a]:=by
 have hl:=Qz g hi (.inr (.inl hk));obtain⟨l,q1,q2⟩:=hA.rule i hi (by omega) (by omega);have q2:=q2 λh=>by have:=h.1;omega
 rw[JL,hk]at q1;simp[JI]at q1;obtain⟨q3,rfl⟩:=q1;have e:KK t (lisT t τ) i 0=τ (JG t i 0):=by
  unfold KK;rw[iP7,JdS (by have:=(Jz g hi (i:=0) (by omega)).2.1;omega)]
 rw[e]at q2 q3;obtain⟨a,ha⟩:=Gr.1 q3;exact⟨q2,a,by rw[q2,ha]⟩
theorem next_ty (hE:(XL t o).2=0){τ:Nat->TL}(hA:TA t o τ){i m:Nat}(hi:i<t.nodes.length)(hk:(nd t i).k=44)(hm:JN t o i=m):τ m=τ (JG t i 0)/\∃a,τ m=[a]:=by
 have hl:=Qz g hi (.inr (.inr (.inl hk)));obtain⟨m1,m2,m3,m4⟩:=(meanX_iff g (JcE hE) hi hk).1 hm;obtain⟨l,q1,q2⟩:=hA.rule i hi (by omega) (by omega);rw[JL,hk,hm,Gc,JdS m1]at q1;simp[JI]at q1;obtain⟨⟨q3,q4⟩,rfl⟩:=q1;have e:KK t (lisT t τ) i 0=τ (JG t i 0):=by
  unfold KK;rw[iP7,JdS (by have:=(Jz g hi (i:=0) (by omega)).2.1;omega)]
 rw[e]at q4;obtain⟨a,ha⟩:=Gr.1 q3;exact⟨q4.symm,a,ha⟩
theorem def_ty {τ:Nat->TL}(hA:TA t o τ){i:Nat}(hi:i<t.nodes.length)(hk:(nd t i).k=65):τ (Ji t i)=YA t i:=by
 have hd:=Jht g hi hk;obtain⟨l,q1,q2⟩:=hA.rule i hi (by omega) (by omega);rw[JL,hk]at q1;simp[JI]at q1;have e:KK t (lisT t τ) i ((nd t i).kids.length-1)=τ (Ji t i):=by
  unfold KK;have hm:=(Jz g hi (i:=(nd t i).kids.length-1) (by omega)).2.1;rw[iP7,JdS (by omega)];rfl
 rw[e]at q1;exact q1.1
end
end
end Go.Cm
end
end
