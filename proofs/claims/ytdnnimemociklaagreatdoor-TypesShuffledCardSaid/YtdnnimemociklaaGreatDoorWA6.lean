/-
  A part of the proof. Conditions: none.
-/
import Derived.Lib.ItoaMem
import Derived.Lib.AtoiAll
import Derived.Test.YtdnnimemociklaaGreatDoorWA3
import Derived.Test.YtdnnimemociklaaGreatDoorProg
set_option linter.unusedSimpArgs false
set_option linter.unusedVariables false
open Bool renaming and_eq_true->Ga
open List renaming getElem?_eq_getElem->Gc,getD_eq_getElem?_getD->Gf,replicate->Gb,append_assoc->Gg,getElem?_eq_some_iff->Gi,drop_left'->Gh,take_of_length_le->Gl,length_replicate->Gm,take_left'->Gj,length_append->Gn,length_cons->Gp,length_nil->Gq,take_length->Gr,take_append_drop->Gy,nil_append->Gs,mem_cons->Gt,all_cons->Gu,reverse_cons->Gz,cons_append->GA,all_eq_true->GD,getElem?_append_right->GG,getElem?_append_left->GH,reverse_reverse->GI,take_zero->GJ,drop_zero->GK,length->GL
open Nat renaming sub_zero->Gv,zero_mul->GM,zero_add->GN
open Int renaming toNat_natCast->Gd,sub_add_cancel->Gw,toNat_zero->Gx
noncomputable section
section
open Go Go.Lib
namespace Go.Cm
def XG (c:UInt8):Bool:=decide (48<=c.toNat) && decide (c.toNat<=57)
def JcE (a:Nat)(l:Lv):Nat:=l.foldl (λa c=>a*10+(c.toNat-48)) a
def Jdj (l:Lv):Nat:=JcE 0 l
def Jcy (l:Lv):Bool:=decide (Jdj l<=1000000000) && decide (l.length=1\/l.head?≠some 48)
theorem Jiz (a:Nat)(x y:Lv):JcE a (x++y)=JcE (JcE a x) y:=by simp[JcE,List.foldl_append]
theorem JbJ (a:Nat)(c:UInt8)(l:Lv):JcE a (c::l)=JcE (a*10+(c.toNat-48)) l:=by rw[JcE,JcE,List.foldl_cons]
theorem decV_snoc (x:Lv)(c:UInt8):Jdj (x++[c])=Jdj x*10+(c.toNat-48):=by rw[Jdj,Jiz,JbJ];simp[JcE];rfl
theorem Jiy:∀(l:Lv) (a:Nat),a<=JcE a l
 |[],a=>Nat.le_refl _
 |c::l,a=>by rw[JbJ];have:=Jiy l (a*10+(c.toNat-48));omega
theorem dg_byte {c:UInt8}(h:XG c=true):UInt8.ofNat (48+(c.toNat-48))=c:=by simp only[XG,Ga,decide_eq_true_eq]at h;rw[show 48+(c.toNat-48)=c.toNat by omega];simp
theorem decV_zero:∀(l:Lv),l.all XG=true->l≠[]->Jdj l=0->l.head? = some 48:=by
 intro l h Ag h0
 cases l with
 |nil=>exact absurd rfl Ag
 |cons c l=>
  rw[Jdj,JbJ]at h0;have:=Jiy l (0*10+(c.toNat-48));simp only[Gu,Ga]at h;have h1:=h.1;simp only[XG,Ga,decide_eq_true_eq]at h1;have hc:c.toNat=48:=om
  have:c=48:=UInt8.toNat_inj.1 (by rw[hc];rfl);simp[this]
theorem digits_back:∀(n:Nat) (l:Lv),l.length=n->l.all XG=true->l≠[]->(decDigits (Jdj l)=l↔(l.length=1\/l.head?≠some 48)):=by
 intro n
 induction n with
 |zero=>intro l hl _ Ag;exact absurd (List.eq_nil_of_length_eq_zero hl) Ag
 |succ n ih=>
  intro l hl hd Ag;have e:l=l.dropLast++[l.getLast Ag]:=(List.dropLast_concat_getLast Ag).symm;generalize l.dropLast=m at e;generalize l.getLast Ag=c at e;subst e;simp only[List.all_append,Gu,List.all_nil,Bool.and_true,Ga]at hd;obtain⟨hm,hc⟩:=hd;have Ct:m.length=n:=by simpa using hl
  have FX:c.toNat-48<10:=by simp only[XG,Ga,decide_eq_true_eq]at hc;omega
  rw[decV_snoc]
  cases Ib:m with
  |nil=>simp only[Jdj,JcE,List.foldl_nil,GM,GN,Gs,Gp,Gq,true_or,iff_true];rw[decDigits_one FX,dg_byte hc]
  |cons a r=>
   rw[<-Ib];have Df:m≠[]:=by rw[Ib];simp
   have Ec:(m++[c]).length≠1:=by rw[Ib];simp
   have hh:(m++[c]).head? = m.head?:=by rw[Ib];rfl
   rw[hh];by_cases h0:Jdj m=0
   ·have hz:=decV_zero m hm Df h0;rw[h0,GM,GN,decDigits_one FX]
    constructor
    ·intro e;have:=congrArg GL e;rw[Ib]at this;simp at this
    ·rintro(h|h)
     ·exact absurd h Ec
     ·exact absurd hz h
   ·have Cn:¬Jdj m*10+(c.toNat-48)<10:=om
    rw[decDigits,dif_neg Cn,show (Jdj m*10+(c.toNat-48)) / 10=Jdj m by omega,show (Jdj m*10+(c.toNat-48)) % 10=c.toNat-48 by omega,dg_byte hc];have:=ih m Ct hm Df
    constructor
    ·intro e;have e2:=List.append_cancel_right e;rcases this.1 e2 with h|h
     ·right
      intro hz;obtain⟨x,hx⟩:∃x,m=[x]:=List.length_eq_one_iff.1 h;rw[hx]at hz h0;simp at hz;rw[hz]at h0;exact h0 rfl
     ·exact .inr h
    ·rintro(h|h)
     ·exact absurd h Ec
     ·rw[this.2 (.inr h)]
theorem Jd3:∀(l:Lv) (a:Nat),l.all XG=true->a<18446744073709551616->parseUint10 a l=if JcE a l<18446744073709551616 then .ok (JcE a l) else .range
 |[],a,_,h=>by
  have e:JcE a []=a:=by simp[JcE]
  rw[e,if_pos h];rfl
 |c::l,a,hd,h=>by
  simp only[Gu,Ga]at hd;have hc:=hd.1;simp only[XG,Ga,decide_eq_true_eq]at hc;rw[JbJ];simp only[parseUint10];rw[if_pos hc];have Bd:=Jiy l (a*10+(c.toNat-48))
  split
  ·rw[iN7]
  ·split
   ·rw[iN7]
   ·exact Jd3 l _ hd.2 om
theorem atoi_digits (l:Lv)(hd:l.all XG=true)(Ag:l≠[]):atoiAll l=if Jdj l<9223372036854775808 then .ok (Jdj l:Int) else .range:=by
 cases l with
 |nil=>exact absurd rfl Ag
 |cons c l=>
  have hc:=hd;simp only[Gu,Ga,XG,decide_eq_true_eq]at hc;have h1:¬(c.toNat=43\/c.toNat=45):=om
  have h2:¬c.toNat=45:=om
  simp only[atoiAll,if_neg h1,parseMag];rw[if_neg sM,Jd3 _ 0 hd om];by_cases h3:JcE 0 (c::l)<18446744073709551616
  ·rw[if_pos h3];by_cases h4:Jdj (c::l)<9223372036854775808
   ·have h5:¬(¬c.toNat=45/\9223372036854775808<=JcE 0 (c::l)):=λh=>by unfold Jdj at h4;omega
    have h6:¬(c.toNat=45/\9223372036854775808<JcE 0 (c::l)):=λh=>h2 h.1
    rw[if_pos h4];simp only[if_neg h5,if_neg h6,if_neg h2];rfl
   ·have h5:¬c.toNat=45/\9223372036854775808<=JcE 0 (c::l):=⟨h2,by unfold Jdj at h4;omega⟩;rw[if_neg h4];simp only[if_pos h5]
  ·rw[if_neg h3,if_neg (by unfold Jdj;omega)]
end Go.Cm
end
namespace Go.Cm
variable {hv l:Lv}{a b f:Int}{d x:UInt8}{m:Nat}{ks o:Lu}{K:LP}{fst:Int->Int}{isD:Int->Bool}
def letter (k:Nat):Nat:=
 if 1<=k/\k<=29 then 101 else if 60<=k/\k<=63 then 116 else if k=46\/k=47 then 99
 else if k=40 then 66 else if k=41 then 83 else if k=42 then 98 else if k=43 then 73 else if k=44 then 78 else if k=45 then 71 else if k=48 then 79
 else if k=64 then 80 else if k=65 then 68 else 32
def Jdo (k:Nat):UInt8:=UInt8.ofNat (letter k)
def QD (c:UInt8)(l:Lv):Nat:=l.count c
def inI (a b n:Int):Bool:=decide (a<=n) && decide (n<=b)
def Qo (k:Nat)(hv:Lv):Lv:=
 let many:=λc=>Gb (QD c hv) c
 if 4<=k/\k<=18 then [101,101]
 else if (19<=k/\k<=24)\/k=43\/k=44 then [101]
 else if k=25\/k=62\/k=63\/k=64 then [116]
 else if k=26\/k=45 then many 101
 else if k=27 then [101,66,66]
 else if k=28 then many 73++[101]++many 83++many 78++[71]
 else if k=29 then [101]++many 99
 else if k=40 then many 83++many 101
 else if k=41 then many 98++[101]
 else if k=42/\hv≠[] then [116]
 else if k=46 then [79,101]
 else if k=47 then [79,79,101]
 else if k=65 then many 80++many 116++[66]
 else []
def Xl (nm:Bool)(k:Nat)(text:Lv):Bool:=
 if k=3\/k=26\/k=42\/k=43\/k=44\/k=47\/k=64\/k=65 then nm
 else if k=48 then text == [] || text == [35]
 else text == []
def Xf (k:Nat)(n:Int)(hv:Lv):Bool:=
 if k=40 then n == QD 83 hv else if k=41 then n == QD 98 hv else if k=28 then n == QD 73 hv else if k=65 then n == QD 80 hv
 else if k=1 then inI 0 1000000000 n else if k=2 then inI 0 1 n else if k=29\/k=48\/k=47 then true else n == 0
def Q9 (k:Nat)(n:Int)(hv:Lv):Bool:=
 let many:=λ(c:UInt8) (a b:Int)=>inI a b (QD c hv)
 if k=65 then many 80 0 5 && many 116 1 4
 else if k=26 then many 101 0 5
 else if k=40 then many 83 0 12 && many 101 1 4
 else if k=45 then many 101 1 4
 else if k=41 then many 98 1 4
 else if k=28 then many 73 1 5 && many 83 0 12 && many 78 0 5
 else if k=29 then many 99 1 8 && inI 0 100 n
 else if k=48 then inI 0 100 n
 else if k=47 then inI 1 9 n
 else true
def Kb (nm:Bool)(k:Nat)(text:Lv)(n pl:Int)(hv:Lv):Bool:=!(letter k == 32) && hv == Qo k hv && inI 0 2500 pl && (Xl nm k text && Xf k n hv) && Q9 k n hv
def Ka (hv:Lv)(a b:Int)(c:UInt8):Bool:=decide (0<=a) && decide (a<=b) && decide (b<=hv.length) && ((hv.take b.toNat).drop a.toNat).all (· == c)
def Qs (k:Nat)(n:Int)(hv:Lv):Bool:=
 let m:Int:=hv.length
 if k=1\/k=2\/k=3\/k=48\/k=60\/k=61 then m == 0
 else if k=25\/k=62\/k=63\/k=64 then m == 1 && Ka hv 0 1 116
 else if k=42 then decide (m<=1) && Ka hv 0 m 116
 else if k=43\/k=44\/k=19\/k=20\/k=21\/k=22\/k=23\/k=24 then m == 1 && Ka hv 0 1 101
 else if k=26\/k=45 then Ka hv 0 m 101
 else if k=27 then m == 3 && Ka hv 0 1 101 && Ka hv 1 3 66
 else if k=40 then Ka hv 0 n 83 && Ka hv n m 101
 else if k=41 then m == n+1 && Ka hv 0 n 98 && Ka hv n m 101
 else if k=29 then decide (0<m) && Ka hv 0 1 101 && Ka hv 1 m 99
 else if k=46 then m == 2 && Ka hv 0 1 79 && Ka hv 1 2 101
 else if k=47 then m == 3 && Ka hv 0 2 79 && Ka hv 2 3 101
 else if k=65 then Ka hv 0 n 80 && Ka hv n (m-1) 116 && Ka hv (m-1) m 66
 else if k=28 then decide (0<=n) && decide (n<m) && Ka hv 0 n 73 && Ka hv n (n+1) 101 && Ka hv (n+1) (n+1+QD 83 hv) 83 && Ka hv (n+1+QD 83 hv) (m-1) 78 && Ka hv (m-1) m 71
 else decide (4<=k) && decide (k<=18) && m == 2 && Ka hv 0 2 101
def Q7 (nm:Bool)(k:Nat)(text:Lv)(n pl:Int):Bool:=
 if k=48 then(text == [] || text == [35]) && inI 0 2500 pl
 else
  let named:=decide (k=3\/k=26\/k=42\/k=43\/k=44\/k=64\/k=65\/k=47)
  let counted:=if k=1 then inI 0 1000000000 n else if k=2 then inI 0 1 n else decide (k=65\/k=47\/k=40\/k=41\/k=28\/k=29)
  !((named && !nm) || (!named && !(text == []))) && ((counted || n == 0) && inI 0 2500 pl)
def Qu (k:Nat)(n:Int)(hv:Lv):Bool:=
 let m:Int:=hv.length
 if k=65 then inI 0 5 n && inI 1 4 (m-n-1)
 else if k=26 then decide (m<=5)
 else if k=40 then inI 0 12 n && inI 1 4 (m-n)
 else if k=45 then inI 1 4 m
 else if k=41 then inI 1 4 n
 else if k=28 then inI 1 5 n && decide ((QD 83 hv:Int)<=12) && decide ((QD 78 hv:Int)<=5)
 else if k=29 then inI 0 100 n && inI 1 8 (m-1)
 else if k=48 then inI 0 100 n
 else if k=47 then inI 1 9 n
 else true
def Ku (nm:Bool)(k:Nat)(text:Lv)(n pl:Int)(hv:Lv):Bool:=Qs k n hv && Q7 nm k text n pl && Qu k n hv
theorem J5{c:UInt8}:Ka hv a b c=true↔0<=a/\a<=b/\b<=hv.length/\(hv.take b.toNat).drop a.toNat=Gb (b.toNat-a.toNat) c:=by
 unfold Ka;simp only[Ga,decide_eq_true_eq,GD,beq_iff_eq]
 constructor
 ·rintro⟨⟨⟨h1,h2⟩,h3⟩,h4⟩;refine⟨h1,h2,h3,List.eq_replicate_iff.2 ⟨?_,h4⟩⟩;simp;omega
 ·rintro⟨h1,h2,h3,h4⟩;refine⟨⟨⟨h1,h2⟩,h3⟩,λx hx=>?_⟩;rw[h4]at hx;exact(List.mem_replicate.1 hx).2
theorem seg2{y:UInt8}(h1:Ka hv 0 a x=true)(h2:Ka hv a hv.length y=true):hv=Gb a.toNat x++Gb (hv.length-a.toNat) y/\0<=a/\a<=hv.length:=by obtain⟨p1,p2,p3,p4⟩:=J5.1 h1;obtain⟨q1,q2,q3,q4⟩:=J5.1 h2;refine⟨?_,q1,p3⟩;simp only[Gx,GK,Gv,Gd,Gr]at p4 q4;rw[<-p4,<-q4,Gy]
theorem X5 {a b:Bool}(h:a=true↔b=true):a=b:=by cases a <;> cases b <;> simp_all
theorem repl_len{c:UInt8}(h:l=Gb (QD c l) c):QD c l=l.length:=by have:=congrArg GL h;simpa using this.symm
section
variable{n:Int}
theorem kl_all {c:UInt8}:Ka hv 0 hv.length c=true↔hv=Gb (QD c hv) c:=by
 rw[J5];simp only[Gx,GK,Gv,Gd,Gr]
 constructor
 ·rintro⟨_,_,_,h⟩;have:QD c hv=hv.length:=by
   have h2:QD c hv=List.count c (Gb hv.length c):=by rw[<-h];rfl
   simpa using h2
  rw[this];exact h
 ·intro h;refine⟨om,om,om,?_⟩;rw[repl_len h]at h;exact h
theorem JcF {c:UInt8}{x y:Lv}:QD c (x++y)=QD c x+QD c y:=by simp[QD]
theorem JbL{c:UInt8}:QD c (Gb m d)=if d=c then m else 0:=by simp[QD,List.count_replicate]
theorem JfT {c:UInt8}:QD c []=0:=rfl
theorem Jb9{c:UInt8}:QD c (d::l)=QD c l+if d=c then 1 else 0:=by simp[QD,List.count_cons]
theorem n_block:(hv == Gb (QD 83 hv) 83++Gb (QD 101 hv) 101 && (n == QD 83 hv) && (inI 0 12 (QD 83 hv) && inI 1 4 (QD 101 hv)))=(Ka hv 0 n 83 && Ka hv n hv.length 101 && (inI 0 12 n && inI 1 4 (hv.length-n))):=by
 refine X5 ?_;simp only[Ga,beq_iff_eq]
 constructor
 ·rintro⟨⟨h,rfl⟩,h2,h3⟩;generalize QD 83 hv=s at h h2|-;generalize QD 101 hv=e at h h3;subst h;simp only[Gn,Gm];refine⟨⟨J5.2 ⟨om,om,by simp <;> omega,?_⟩,J5.2 ⟨om,om,by simp <;> omega,?_⟩⟩,h2,?_⟩
  ·simp
  ·rw[Gd,Gd,Gl (by simp <;> omega),Gh (by simp <;> omega)];simp
  ·rw[show ((s+e:Nat):Int)-s=e by omega];exact h3
 ·rintro⟨⟨h1,h2⟩,h3,h4⟩;obtain⟨h,h5,h6⟩:=seg2 h1 h2;have c1:QD 83 hv=n.toNat:=by rw[h];simp[JcF,JbL]
  have c2:QD 101 hv=hv.length-n.toNat:=by
   conv=>lhs;rw[h]
   simp[JcF,JbL]
  rw[c1,c2];refine⟨⟨h,om⟩,?_,?_⟩
  ·rw[show ((n.toNat:Nat):Int)=n by omega];exact h3
  ·rw[show ((hv.length-n.toNat:Nat):Int)=hv.length-n by omega];exact h4
theorem n_set:(hv == Gb (QD 98 hv) 98++[101] && (n == QD 98 hv) && inI 1 4 (QD 98 hv))=(((hv.length:Int) == n+1 && Ka hv 0 n 98 && Ka hv n hv.length 101) && inI 1 4 n):=by
 refine X5 ?_;simp only[Ga,beq_iff_eq]
 constructor
 ·rintro⟨⟨h,rfl⟩,h2⟩;generalize QD 98 hv=s at h h2|-;subst h;simp only[Gn,Gm,Gp,Gq];refine⟨⟨⟨om,J5.2 ⟨om,om,by simp <;> omega,?_⟩⟩,J5.2 ⟨om,om,by simp <;> omega,?_⟩⟩,h2⟩
  ·simp
  ·rw[Gd,Gd,Gl (by simp <;> omega),Gh (by simp <;> omega)];simp
 ·rintro⟨⟨⟨h0,h1⟩,h2⟩,h3⟩;obtain⟨h,h5,h6⟩:=seg2 h1 h2;rw[show hv.length-n.toNat=1 by omega]at h;have c1:QD 98 hv=n.toNat:=by rw[h];simp[JcF,JbL,Jb9,JfT]
  rw[c1];refine⟨⟨by simpa using h,om⟩,?_⟩;rw[show ((n.toNat:Nat):Int)=n by omega];exact h3
theorem n_arr:(hv == [101]++Gb (QD 99 hv) 99 && inI 1 8 (QD 99 hv))=((decide (0<(hv.length:Int)) && Ka hv 0 1 101 && Ka hv 1 hv.length 99) && inI 1 8 ((hv.length:Int)-1)):=by
 refine X5 ?_;simp only[Ga,beq_iff_eq,decide_eq_true_eq]
 constructor
 ·rintro⟨h,h2⟩;generalize QD 99 hv=s at h h2;subst h;simp only[Gn,Gm,Gp,Gq];refine⟨⟨⟨om,J5.2 ⟨om,om,by simp <;> omega,?_⟩⟩,J5.2 ⟨om,om,by simp <;> omega,?_⟩⟩,?_⟩
  ·rw[show ((1:Int)).toNat=1 from rfl];simp
  ·rw[show ((1:Int)).toNat=1 from rfl,Gd,Gl (by simp <;> omega),Gh (by simp <;> omega)];simp
  ·rw[show ((0+1+s:Nat):Int)-1=s by omega];exact h2
 ·rintro⟨⟨⟨h0,h1⟩,h2⟩,h3⟩;obtain⟨h,h5,h6⟩:=seg2 h1 h2;rw[show ((1:Int)).toNat=1 from rfl]at h;have c1:QD 99 hv=hv.length-1:=by
   conv=>lhs;rw[h]
   simp[JbL,Jb9]
  rw[c1];refine⟨by simpa using h,?_⟩;rw[show ((hv.length-1:Nat):Int)=hv.length-1 by omega];exact h3
theorem Jaa {hv:Lv}(h:Ka hv a b x=true):hv.take b.toNat=hv.take a.toNat++Gb (b.toNat-a.toNat) x/\0<=a/\a<=b/\b<=hv.length:=by
 obtain⟨p1,p2,p3,p4⟩:=J5.1 h;refine⟨?_,p1,p2,p3⟩;rw[<-p4];have h2:(hv.take b.toNat).take a.toNat=hv.take a.toNat:=by rw[List.take_take];congr 1;omega
 conv=>lhs;rw[<-Gy a.toNat (hv.take b.toNat),h2]
theorem n_def:(hv == Gb (QD 80 hv) 80++Gb (QD 116 hv) 116++[66] && (n == QD 80 hv) && (inI 0 5 (QD 80 hv) && inI 1 4 (QD 116 hv)))=((Ka hv 0 n 80 && Ka hv n ((hv.length:Int)-1) 116 && Ka hv ((hv.length:Int)-1) hv.length 66) && (inI 0 5 n && inI 1 4 ((hv.length:Int)-n-1))):=by
 refine X5 ?_;simp only[Ga,beq_iff_eq]
 constructor
 ·rintro⟨⟨h,rfl⟩,h2,h3⟩;generalize QD 80 hv=s at h h2|-;generalize QD 116 hv=e at h h3;subst h;simp only[Gn,Gm,Gp,Gq];refine⟨⟨⟨J5.2 ⟨om,om,by simp <;> omega,?_⟩,J5.2 ⟨om,om,by simp <;> omega,?_⟩⟩,J5.2 ⟨om,om,by simp <;> omega,?_⟩⟩,h2,?_⟩
  ·rw[Gd,Gg,Gj (by simp <;> omega)];simp
  ·rw[show (((s+e+(0+1):Nat):Int)-1).toNat=s+e by omega,Gd,Gj (by simp <;> omega),Gh (by simp <;> omega)];simp
  ·rw[show (((s+e+(0+1):Nat):Int)-1).toNat=s+e by omega,Gd,Gl (by simp <;> omega),Gh (by simp <;> omega)];rw[show s+e+(0+1)-(s+e)=1 by omega];rfl
  ·rw[show ((s+e+(0+1):Nat):Int)-s-1=e by omega];exact h3
 ·rintro⟨⟨⟨h0,h1⟩,h2⟩,h3,h4⟩;obtain⟨e0,a0,b0,c0⟩:=Jaa h0;obtain⟨e1,a1,b1,c1⟩:=Jaa h1;obtain⟨e2,a2,b2,c2⟩:=Jaa h2;rw[e1,e0]at e2;simp only[Gd,Gr,Gx,GJ,Gs,Gv]at e2;rw[show hv.length-((hv.length:Int)-1).toNat=1 by omega]at e2;have d1:QD 80 hv=n.toNat:=by
   conv=>lhs;rw[e2]
   simp[JcF,JbL,Jb9,JfT]
  have d2:QD 116 hv=((hv.length:Int)-1).toNat-n.toNat:=by
   conv=>lhs;rw[e2]
   simp[JcF,JbL,Jb9,JfT]
  rw[d1,d2];refine⟨⟨by simpa using e2,om⟩,?_,?_⟩
  ·rw[show ((n.toNat:Nat):Int)=n by omega];exact h3
  ·rw[show ((((hv.length:Int)-1).toNat-n.toNat:Nat):Int)=hv.length-n-1 by omega];exact h4
theorem n_loop:(hv == Gb (QD 73 hv) 73++[101]++Gb (QD 83 hv) 83++Gb (QD 78 hv) 78++[71] && (n == QD 73 hv) && (inI 1 5 (QD 73 hv) && inI 0 12 (QD 83 hv) && inI 0 5 (QD 78 hv)))
  = ((decide (0<=n) && decide (n<(hv.length:Int)) && Ka hv 0 n 73 && Ka hv n (n+1) 101 && Ka hv (n+1) (n+1+QD 83 hv) 83 && Ka hv (n+1+QD 83 hv) ((hv.length:Int)-1) 78 && Ka hv ((hv.length:Int)-1) hv.length 71) && (inI 1 5 n && decide ((QD 83 hv:Int)<=12) && decide ((QD 78 hv:Int)<=5))):=by
 refine X5 ?_;simp only[Ga,beq_iff_eq,decide_eq_true_eq]
 constructor
 ·rintro⟨⟨h,rfl⟩,⟨h2,h3⟩,h4⟩;generalize QD 73 hv=s at h h2|-;generalize QD 83 hv=q at h h3|-;generalize QD 78 hv=e at h h4|-;subst h;simp only[Gn,Gm,Gp,Gq];simp only[inI,Ga,decide_eq_true_eq]at h3 h4;refine⟨⟨⟨⟨⟨⟨⟨om,om⟩,J5.2 ⟨om,om,by simp <;> omega,?_⟩⟩,J5.2 ⟨om,om,by simp <;> omega,?_⟩⟩,J5.2 ⟨om,om,by simp <;> omega,?_⟩⟩,J5.2 ⟨om,om,by simp <;> omega,?_⟩⟩,J5.2 ⟨om,om,by simp <;> omega,?_⟩⟩,⟨h2,h3.2⟩,h4.2⟩
  ·rw[Gd,Gg,Gg,Gg,Gj (by simp <;> omega)];simp
  ·rw[Gd,show ((s:Int)+1).toNat=s+1 by omega,Gg,Gg,Gj (by simp <;> omega),Gh (by simp <;> omega)];simp
  ·rw[show ((s:Int)+1).toNat=s+1 by omega,show ((s:Int)+1+q).toNat=s+1+q by omega,Gg,Gj (by simp <;> omega),Gh (by simp <;> omega)];simp
  ·rw[show ((s:Int)+1+q).toNat=s+1+q by omega,show (((s+(0+1)+q+e+(0+1):Nat):Int)-1).toNat=s+1+q+e by omega,Gj (by simp <;> omega),Gh (by simp <;> omega)];simp
  ·rw[show (((s+(0+1)+q+e+(0+1):Nat):Int)-1).toNat=s+1+q+e by omega,Gd,Gl (by simp <;> omega),Gh (by simp <;> omega)];rw[show s+(0+1)+q+e+(0+1)-(s+1+q+e)=1 by omega];rfl
 ·rintro⟨⟨⟨⟨⟨⟨⟨_,_⟩,h0⟩,h1⟩,h2⟩,h3⟩,h4⟩,⟨h5,h6⟩,h7⟩;obtain⟨e0,a0,b0,c0⟩:=Jaa h0;obtain⟨e1,a1,b1,c1⟩:=Jaa h1;obtain⟨e2,a2,b2,c2⟩:=Jaa h2;obtain⟨e3,a3,b3,c3⟩:=Jaa h3;obtain⟨e4,a4,b4,c4⟩:=Jaa h4;rw[e3,e2,e1,e0]at e4;simp only[Gd,Gr,Gx,GJ,Gs,Gv]at e4;rw[show (n+1).toNat-n.toNat=1 by omega,show (n+1+QD 83 hv).toNat-(n+1).toNat=QD 83 hv by omega,show hv.length-((hv.length:Int)-1).toNat=1 by omega]at e4;have d1:QD 73 hv=n.toNat:=by
   conv=>lhs;rw[e4]
   simp[JcF,JbL,Jb9,JfT]
  have d2:QD 78 hv=((hv.length:Int)-1).toNat-(n+1+QD 83 hv).toNat:=by
   conv=>lhs;rw[e4]
   simp[JcF,JbL,Jb9,JfT]
  rw[d1];refine⟨⟨?_,om⟩,⟨?_,?_⟩,?_⟩
  ·rw[d2];simpa using e4
  ·rw[show ((n.toNat:Nat):Int)=n by omega];exact h5
  ·simp only[inI,Ga,decide_eq_true_eq];omega
  ·simp only[inI,Ga,decide_eq_true_eq];omega
theorem w_0:(hv == [])=((hv.length:Int) == 0):=by
 refine X5 ?_;simp only[beq_iff_eq]
 cases hv with
 |nil=>simp
 |cons a l=>simp;omega
theorem w_1 {c:UInt8}:(hv == [c])=((hv.length:Int) == 1 && Ka hv 0 1 c):=by
 refine X5 ?_;rcases hv with _|⟨a,_|⟨b,l⟩⟩
 ·simp
 ·simp[Ka]
 ·simp;omega
theorem w_opt {c:UInt8}:(hv == (if hv≠[] then [c] else []))=(decide ((hv.length:Int)<=1) && Ka hv 0 hv.length c):=by
 refine X5 ?_;rcases hv with _|⟨a,_|⟨b,l⟩⟩
 ·simp[Ka]
 ·simp[Ka]
 ·simp;omega
theorem w_2{c:UInt8}:(hv == [c,d])=((hv.length:Int) == 2 && Ka hv 0 1 c && Ka hv 1 2 d):=by
 refine X5 ?_;rcases hv with _|⟨a,_|⟨b,_|⟨e,l⟩⟩⟩
 ·simp
 ·simp
 ·simp[Ka]
 ·simp;omega
theorem w_22 {c:UInt8}:(hv == [c,c])=((hv.length:Int) == 2 && Ka hv 0 2 c):=by
 refine X5 ?_;rcases hv with _|⟨a,_|⟨b,_|⟨e,l⟩⟩⟩
 ·simp
 ·simp
 ·simp[Ka]
 ·simp;omega
theorem w_12{c:UInt8}:(hv == [c,d,d])=((hv.length:Int) == 3 && Ka hv 0 1 c && Ka hv 1 3 d):=by
 refine X5 ?_;rcases hv with _|⟨a,_|⟨b,_|⟨e,_|⟨f,l⟩⟩⟩⟩
 ·simp
 ·simp
 ·simp
 ·simp[Ka]
 ·simp;omega
theorem w_21{c:UInt8}:(hv == [c,c,d])=((hv.length:Int) == 3 && Ka hv 0 2 c && Ka hv 2 3 d):=by
 refine X5 ?_;rcases hv with _|⟨a,_|⟨b,_|⟨e,_|⟨f,l⟩⟩⟩⟩
 ·simp
 ·simp
 ·simp
 ·simp[Ka,and_assoc]
 ·simp;omega
theorem w_all {c:UInt8}:(hv == Gb (QD c hv) c)=Ka hv 0 hv.length c:=by refine X5 ?_;rw[kl_all,beq_iff_eq]
end
set_option maxHeartbeats 1000000 in
theorem node_eq (nm:Bool)(k:Nat)(text:Lv)(n pl:Int)(hv:Lv):Kb nm k text n pl hv=Ku nm k text n pl hv:=by
 by_cases hk:k<66
 ·have Ak:k=0\/k=1\/k=2\/k=3\/k=4\/k=5\/k=6\/k=7\/k=8\/k=9\/k=10\/k=11\/k=12\/k=13\/k=14\/k=15\/k=16\/k=17\/k=18\/k=19\/k=20\/k=21\/k=22\/k=23\/k=24\/k=25\/k=26\/k=27\/k=28\/k=29\/k=30\/k=31\/k=32\/k=33\/k=34\/k=35\/k=36\/k=37\/k=38\/k=39\/k=40\/k=41\/k=42\/k=43\/k=44\/k=45\/k=46\/k=47\/k=48\/k=49\/k=50\/k=51\/k=52\/k=53\/k=54\/k=55\/k=56\/k=57\/k=58\/k=59\/k=60\/k=61\/k=62\/k=63\/k=64\/k=65:=om
  clear hk;rcases Ak with rfl|rfl|rfl|rfl|rfl|rfl|rfl|rfl|rfl|rfl|rfl|rfl|rfl|rfl|rfl|rfl|rfl|rfl|rfl|rfl|rfl|rfl|rfl|rfl|rfl|rfl|rfl|rfl|rfl|rfl|rfl|rfl|rfl|rfl|rfl|rfl|rfl|rfl|rfl|rfl|rfl|rfl|rfl|rfl|rfl|rfl|rfl|rfl|rfl|rfl|rfl|rfl|rfl|rfl|rfl|rfl|rfl|rfl|rfl|rfl|rfl|rfl|rfl|rfl|rfl|rfl
  ·simp[Kb,Ku,letter,Qo,Xl,Xf,Q9,Qs,Q7,Qu]
  ·have h:=w_0 (hv:=hv);have h0:n=0->inI 0 1000000000 n=true:=by rintro rfl;decide
   simp[Kb,Ku,letter,Qo,Xl,Xf,Q9,Qs,Q7,Qu]at h|-
   grind
  ·have h:=w_0 (hv:=hv);have h0:n=0->inI 0 1 n=true:=by rintro rfl;decide
   simp[Kb,Ku,letter,Qo,Xl,Xf,Q9,Qs,Q7,Qu]at h|-
   grind
  ·have h:=w_0 (hv:=hv);simp[Kb,Ku,letter,Qo,Xl,Xf,Q9,Qs,Q7,Qu]at h|-
   grind
  ·have h:=w_22 (hv:=hv) (c:=101);simp[Kb,Ku,letter,Qo,Xl,Xf,Q9,Qs,Q7,Qu]at h|-
   grind
  ·have h:=w_22 (hv:=hv) (c:=101);simp[Kb,Ku,letter,Qo,Xl,Xf,Q9,Qs,Q7,Qu]at h|-
   grind
  ·have h:=w_22 (hv:=hv) (c:=101);simp[Kb,Ku,letter,Qo,Xl,Xf,Q9,Qs,Q7,Qu]at h|-
   grind
  ·have h:=w_22 (hv:=hv) (c:=101);simp[Kb,Ku,letter,Qo,Xl,Xf,Q9,Qs,Q7,Qu]at h|-
   grind
  ·have h:=w_22 (hv:=hv) (c:=101);simp[Kb,Ku,letter,Qo,Xl,Xf,Q9,Qs,Q7,Qu]at h|-
   grind
  ·have h:=w_22 (hv:=hv) (c:=101);simp[Kb,Ku,letter,Qo,Xl,Xf,Q9,Qs,Q7,Qu]at h|-
   grind
  ·have h:=w_22 (hv:=hv) (c:=101);simp[Kb,Ku,letter,Qo,Xl,Xf,Q9,Qs,Q7,Qu]at h|-
   grind
  ·have h:=w_22 (hv:=hv) (c:=101);simp[Kb,Ku,letter,Qo,Xl,Xf,Q9,Qs,Q7,Qu]at h|-
   grind
  ·have h:=w_22 (hv:=hv) (c:=101);simp[Kb,Ku,letter,Qo,Xl,Xf,Q9,Qs,Q7,Qu]at h|-
   grind
  ·have h:=w_22 (hv:=hv) (c:=101);simp[Kb,Ku,letter,Qo,Xl,Xf,Q9,Qs,Q7,Qu]at h|-
   grind
  ·have h:=w_22 (hv:=hv) (c:=101);simp[Kb,Ku,letter,Qo,Xl,Xf,Q9,Qs,Q7,Qu]at h|-
   grind
  ·have h:=w_22 (hv:=hv) (c:=101);simp[Kb,Ku,letter,Qo,Xl,Xf,Q9,Qs,Q7,Qu]at h|-
   grind
  ·have h:=w_22 (hv:=hv) (c:=101);simp[Kb,Ku,letter,Qo,Xl,Xf,Q9,Qs,Q7,Qu]at h|-
   grind
  ·have h:=w_22 (hv:=hv) (c:=101);simp[Kb,Ku,letter,Qo,Xl,Xf,Q9,Qs,Q7,Qu]at h|-
   grind
  ·have h:=w_22 (hv:=hv) (c:=101);simp[Kb,Ku,letter,Qo,Xl,Xf,Q9,Qs,Q7,Qu]at h|-
   grind
  ·have h:=w_1 (hv:=hv) (c:=101);simp[Kb,Ku,letter,Qo,Xl,Xf,Q9,Qs,Q7,Qu]at h|-
   grind
  ·have h:=w_1 (hv:=hv) (c:=101);simp[Kb,Ku,letter,Qo,Xl,Xf,Q9,Qs,Q7,Qu]at h|-
   grind
  ·have h:=w_1 (hv:=hv) (c:=101);simp[Kb,Ku,letter,Qo,Xl,Xf,Q9,Qs,Q7,Qu]at h|-
   grind
  ·have h:=w_1 (hv:=hv) (c:=101);simp[Kb,Ku,letter,Qo,Xl,Xf,Q9,Qs,Q7,Qu]at h|-
   grind
  ·have h:=w_1 (hv:=hv) (c:=101);simp[Kb,Ku,letter,Qo,Xl,Xf,Q9,Qs,Q7,Qu]at h|-
   grind
  ·have h:=w_1 (hv:=hv) (c:=101);simp[Kb,Ku,letter,Qo,Xl,Xf,Q9,Qs,Q7,Qu]at h|-
   grind
  ·have h:=w_1 (hv:=hv) (c:=116);simp[Kb,Ku,letter,Qo,Xl,Xf,Q9,Qs,Q7,Qu]at h|-
   grind
  ·have h:=w_all (hv:=hv) (c:=101);simp[Kb,Ku,letter,Qo,Xl,Xf,Q9,Qs,Q7,Qu,inI]at h|-
   grind
  ·have h:=w_12 (hv:=hv) (c:=101) (d:=66);simp[Kb,Ku,letter,Qo,Xl,Xf,Q9,Qs,Q7,Qu]at h|-
   grind
  ·have h:=n_loop (hv:=hv) (n:=n);simp[Kb,Ku,letter,Qo,Xl,Xf,Q9,Qs,Q7,Qu]at h|-
   grind
  ·have h:=n_arr (hv:=hv);simp[Kb,Ku,letter,Qo,Xl,Xf,Q9,Qs,Q7,Qu]at h|-
   grind
  ·simp[Kb,Ku,letter,Qo,Xl,Xf,Q9,Qs,Q7,Qu]
  ·simp[Kb,Ku,letter,Qo,Xl,Xf,Q9,Qs,Q7,Qu]
  ·simp[Kb,Ku,letter,Qo,Xl,Xf,Q9,Qs,Q7,Qu]
  ·simp[Kb,Ku,letter,Qo,Xl,Xf,Q9,Qs,Q7,Qu]
  ·simp[Kb,Ku,letter,Qo,Xl,Xf,Q9,Qs,Q7,Qu]
  ·simp[Kb,Ku,letter,Qo,Xl,Xf,Q9,Qs,Q7,Qu]
  ·simp[Kb,Ku,letter,Qo,Xl,Xf,Q9,Qs,Q7,Qu]
  ·simp[Kb,Ku,letter,Qo,Xl,Xf,Q9,Qs,Q7,Qu]
  ·simp[Kb,Ku,letter,Qo,Xl,Xf,Q9,Qs,Q7,Qu]
  ·simp[Kb,Ku,letter,Qo,Xl,Xf,Q9,Qs,Q7,Qu]
  ·have h:=n_block (hv:=hv) (n:=n);simp[Kb,Ku,letter,Qo,Xl,Xf,Q9,Qs,Q7,Qu]at h|-
   grind
  ·have h:=n_set (hv:=hv) (n:=n);simp[Kb,Ku,letter,Qo,Xl,Xf,Q9,Qs,Q7,Qu]at h|-
   grind
  ·have h:=w_opt (hv:=hv) (c:=116);simp[Kb,Ku,letter,Qo,Xl,Xf,Q9,Qs,Q7,Qu]at h|-
   grind
  ·have h:=w_1 (hv:=hv) (c:=101);simp[Kb,Ku,letter,Qo,Xl,Xf,Q9,Qs,Q7,Qu]at h|-
   grind
  ·have h:=w_1 (hv:=hv) (c:=101);simp[Kb,Ku,letter,Qo,Xl,Xf,Q9,Qs,Q7,Qu]at h|-
   grind
  ·have h:=w_all (hv:=hv) (c:=101);simp[Kb,Ku,letter,Qo,Xl,Xf,Q9,Qs,Q7,Qu]at h|-
   grind
  ·have h:=w_2 (hv:=hv) (c:=79) (d:=101);simp[Kb,Ku,letter,Qo,Xl,Xf,Q9,Qs,Q7,Qu]at h|-
   grind
  ·have h:=w_21 (hv:=hv) (c:=79) (d:=101);simp[Kb,Ku,letter,Qo,Xl,Xf,Q9,Qs,Q7,Qu]at h|-
   grind
  ·have h:=w_0 (hv:=hv);simp[Kb,Ku,letter,Qo,Xl,Xf,Q9,Qs,Q7,Qu]at h|-
   grind
  ·simp[Kb,Ku,letter,Qo,Xl,Xf,Q9,Qs,Q7,Qu]
  ·simp[Kb,Ku,letter,Qo,Xl,Xf,Q9,Qs,Q7,Qu]
  ·simp[Kb,Ku,letter,Qo,Xl,Xf,Q9,Qs,Q7,Qu]
  ·simp[Kb,Ku,letter,Qo,Xl,Xf,Q9,Qs,Q7,Qu]
  ·simp[Kb,Ku,letter,Qo,Xl,Xf,Q9,Qs,Q7,Qu]
  ·simp[Kb,Ku,letter,Qo,Xl,Xf,Q9,Qs,Q7,Qu]
  ·simp[Kb,Ku,letter,Qo,Xl,Xf,Q9,Qs,Q7,Qu]
  ·simp[Kb,Ku,letter,Qo,Xl,Xf,Q9,Qs,Q7,Qu]
  ·simp[Kb,Ku,letter,Qo,Xl,Xf,Q9,Qs,Q7,Qu]
  ·simp[Kb,Ku,letter,Qo,Xl,Xf,Q9,Qs,Q7,Qu]
  ·simp[Kb,Ku,letter,Qo,Xl,Xf,Q9,Qs,Q7,Qu]
  ·have h:=w_0 (hv:=hv);simp[Kb,Ku,letter,Qo,Xl,Xf,Q9,Qs,Q7,Qu]at h|-
   grind
  ·have h:=w_0 (hv:=hv);simp[Kb,Ku,letter,Qo,Xl,Xf,Q9,Qs,Q7,Qu]at h|-
   grind
  ·have h:=w_1 (hv:=hv) (c:=116);simp[Kb,Ku,letter,Qo,Xl,Xf,Q9,Qs,Q7,Qu]at h|-
   grind
  ·have h:=w_1 (hv:=hv) (c:=116);simp[Kb,Ku,letter,Qo,Xl,Xf,Q9,Qs,Q7,Qu]at h|-
   grind
  ·have h:=w_1 (hv:=hv) (c:=116);simp[Kb,Ku,letter,Qo,Xl,Xf,Q9,Qs,Q7,Qu]at h|-
   grind
  ·have h:=n_def (hv:=hv) (n:=n);simp[Kb,Ku,letter,Qo,Xl,Xf,Q9,Qs,Q7,Qu]at h|-
   grind
 ·have h1:letter k=32:=by
   unfold letter
   repeat' (rw[iN7])
  have h2:Qs k n hv=false:=by
   simp only[Qs]
   repeat' (rw[iN7])
   simp;omega
  simp[Kb,Ku,h1,h2]
def Qr (out:Lu):Lu->Int->Option Int
 |[],a=>some a
 |k::ks,a=>if a<0\/k≠a then none else Qr out ks (out.getD k.toNat 0-1)
def Jdx (out:Lu)(kids:Lu):Option Int:=(Qr out kids.reverse ((out.length:Int)-1)).map (· + 1)
def JA:LP->Lu->Option Lu
 |[],out=>some out
 |ks::K,out=>match Jdx out ks with
  |some f=>JA K (out++[f])
  |none=>none
theorem JbP {out:Lu}:∀(x y:Lu) (a:Int),Qr out (x++y) a=(Qr out x a).bind (Qr out y)
 |[],y,a=>rfl
 |k::x,y,a=>by
  simp only[GA,Qr]
  split
  ·rfl
  ·exact JbP x y _
theorem Ja1:∀(x y:LP) (out:Lu),JA (x++y) out=(JA x out).bind (JA y)
 |[],y,out=>rfl
 |k::x,y,out=>by
  simp only[GA,JA]
  split
  ·exact Ja1 x y _
  ·rfl
theorem QR:∀(K:LP) (out o:Lu),JA K out=some o->o.length=out.length+K.length
 |[],out,o,h=>by simp[JA]at h;subst h;simp
 |k::K,out,o,h=>by
  simp only[JA]at h
  split at h
  ·have:=QR K _ _ h;simp at this|-;omega
  ·cases h
def Q8 (out:Lu):Prop:=∀(j:Nat) v,out[j]? = some v->0<=v/\v<=j
theorem Jdm {out:Lu}(ho:Q8 out):∀(ks:Lu) (a b:Int),-1<=a->a<out.length->Qr out ks a=some b->-1<=b/\b<=a
 |[],a,b,h1,h2,h=>by simp[Qr]at h;omega
 |k::ks,a,b,h1,h2,h=>by
  simp only[Qr]at h
  split at h
  ·cases h
  ·rename_i hc;have hk:k=a:=om
   have h0:0<=a:=om
   subst hk;have Ab:k.toNat<out.length:=om
   have hv:=ho k.toNat out[k.toNat] (Gc Ab);have e:out.getD k.toNat 0=out[k.toNat]:=by simp[Gf,Gc Ab]
   rw[e]at h;have:=Jdm ho ks _ b om om h;omega
theorem stepF_rng{out:Lu}(ho:Q8 out)(h:Jdx out ks=some f):0<=f/\f<=out.length:=by
 unfold Jdx at h
 cases hb:Qr out ks.reverse ((out.length:Int)-1) with
 |none=>rw[hb]at h;cases h
 |some b=>rw[hb]at h;simp at h;have:=Jdm ho _ _ b om om hb;omega
theorem Q8.snoc {out:Lu}(ho:Q8 out)(h:0<=f/\f<=out.length):Q8 (out++[f]):=by
 intro j v hj;rcases Nat.lt_or_ge j out.length with Ab|Cn
 ·rw[GH Ab]at hj;exact ho j v hj
 ·rw[GG Cn]at hj;rcases hc:j-out.length with _|m
  ·rw[hc]at hj;simp at hj;subst hj;omega
  ·rw[hc]at hj;simp at hj
theorem QL:∀(K:LP) (out o:Lu),Q8 out->JA K out=some o->Q8 o
 |[],out,o,ho,h=>by simp[JA]at h;subst h;exact ho
 |k::K,out,o,ho,h=>by
  simp only[JA]at h
  split at h
  ·rename_i f hf;exact QL K _ o (ho.snoc (stepF_rng ho hf)) h
  ·cases h
theorem Q8.nil:Q8 []:=by intro j v h;simp at h
theorem JfL:∀(K:LP) (out o:Lu),JA K out=some o->∃t,o=out++t
 |[],out,o,h=>by simp[JA]at h;exact⟨[],by simp[h]⟩
 |k::K,out,o,h=>by
  simp only[JA]at h
  split at h
  ·rename_i f _;obtain⟨t,rfl⟩:=JfL K _ o h;exact⟨f::t,sM⟩
  ·cases h
theorem YL {out t:Lu}(ho:Q8 out):∀(ks:Lu) (a:Int),a<out.length->Qr (out++t) ks a=Qr out ks a
 |[],a,_=>rfl
 |k::ks,a,h=>by
  simp only[Qr]
  split
  ·rfl
  ·rename_i hc;have Ab:k.toNat<out.length:=om
   have e:(out++t).getD k.toNat 0=out.getD k.toNat 0:=by simp[Gf,GH Ab]
   rw[e];refine YL ho ks _ ?_;have hv:=ho k.toNat out[k.toNat] (Gc Ab);have e:out.getD k.toNat 0=out[k.toNat]:=by simp[Gf,Gc Ab]
   rw[e];omega
theorem XH(h:JA K []=some o){j:Nat}(hj:K[j]? = some ks):∃f,o[j]? = some f/\Qr o ks.reverse ((j:Int)-1)=some (f-1):=by
 have Ab:=(Gi.1 hj).1;have e:K=K.take j++ks::K.drop (j+1):=by have h1:=List.drop_eq_getElem_cons Ab;rw[(Gi.1 hj).2]at h1;rw[<-h1,Gy]
 rw[e,Ja1]at h
 cases h1:JA (K.take j) []with
 |none=>rw[h1]at h;cases h
 |some p=>
  rw[h1]at h;simp only[Option.bind_some,JA]at h;have hp:=QL _ _ _ Q8.nil h1;have hl:=QR _ _ _ h1;simp at hl;have Sy:p.length=j:=om
  split at h
  ·rename_i f hf;obtain⟨t,rfl⟩:=JfL _ _ _ h;refine⟨f,by rw[Gg,GG om];simp[Sy],?_⟩;rw[Gg,YL hp _ _ om];unfold Jdx at hf;rw[Sy]at hf
   cases hb:Qr p ks.reverse ((j:Int)-1) with
   |none=>rw[hb]at hf;cases hf
   |some b=>
    rw[hb]at hf;simp at hf
    congr 1;omega
  ·cases h
theorem backF_last {out:Lu}:∀(ks:Lu) (k a b:Int),Qr out (ks++[k]) a=some b->b=out.getD k.toNat 0-1/\0<=k:=by
 intro ks k a b h;rw[JbP]at h
 cases h1:Qr out ks a with
 |none=>rw[h1]at h;cases h
 |some c=>
  rw[h1]at h;simp only[Option.bind_some,Qr]at h
  split at h
  ·cases h
  ·simp at h;exact⟨h.symm,om⟩
theorem firstsF_kid(h:JA K []=some o){j:Nat}{k:Int}(hj:K[j]? = some (k::ks)):o.getD j 0=o.getD k.toNat 0/\0<=k:=by
 obtain⟨f,h1,h2⟩:=XH h hj;rw[Gz]at h2;obtain⟨h3,h4⟩:=backF_last _ _ _ _ h2;refine⟨?_,h4⟩;have e:o.getD j 0=f:=by rw[Gf,h1];rfl
 rw[e];omega
theorem firstsF_leaf(h:JA K []=some o){j:Nat}(hj:K[j]? = some []):o.getD j 0=j:=by obtain⟨f,h1,h2⟩:=XH h hj;simp[Qr]at h2;rw[Gf,h1];simp;omega
theorem Jhk {out:Lu}(ho:Q8 out):∀(ks:Lu) (a b:Int),a<out.length->Qr out ks a=some b->∀k∈ks,0<=k/\k<=a
 |[],a,b,_,_,k,hk=>by simp at hk
 |x::ks,a,b,ha,h,k,hk=>by
  simp only[Qr]at h
  split at h
  ·cases h
  ·rename_i hc;have hx:x=a:=om
   have Ab:x.toNat<out.length:=om
   have hv:=ho x.toNat out[x.toNat] (Gc Ab);have e:out.getD x.toNat 0=out[x.toNat]:=by simp[Gf,Gc Ab]
   rcases Gt.1 hk with rfl|hk
   ·omega
   ·have:=Jhk ho ks _ b (by rw[e];omega) h k hk;omega
theorem Xo(h:JA K []=some o){j:Nat}(hj:K[j]? = some ks):∀k∈ks,0<=k/\k<j:=by obtain⟨f,h1,h2⟩:=XH h hj;have hl:=QR _ _ _ h;have Ab:=(Gi.1 hj).1;intro k hk;have:=Jhk (QL _ _ _ Q8.nil h) _ _ _ (by simp at hl;omega) h2 k (by simpa using hk);omega
def Jad (o:Lu)(isD:Int->Bool)(m:Nat):Lu->Int->Bool
 |[],a=>a == m
 |i::l,a=>inI a ((m:Int)-1) i && isD i && o.getD i.toNat 0 == a && Jad o isD m l (i+1)
def Jgj (fst:Int->Int):Lu->Int->Int×Bool
 |[],e=>(e,true)
 |k::ks,e=>if k≠e-1\/k<0 then(e,false) else Jgj fst ks (fst k)
theorem JgL {out:Lu}(ho:Q8 out)(hf:∀k:Int,0<=k->k<out.length->fst k=out.getD k.toNat 0):∀(ks:Lu) (a:Int),a<out.length->(match Qr out ks a with
  |some b=>Jgj fst ks (a+1)=(b+1,true)
  |none=>(Jgj fst ks (a+1)).2=false)
 |[],a,_=>rfl
 |k::ks,a,ha=>by
  simp only[Qr,Jgj];by_cases hc:a<0\/k≠a
  ·rw[if_pos hc,iP7]
  ·rw[if_neg hc,iN7,hf k om om];have Ab:k.toNat<out.length:=om
   have hv:=ho k.toNat out[k.toNat] (Gc Ab);have e:out.getD k.toNat 0=out[k.toNat]:=by simp[Gf,Gc Ab]
   have:=JgL ho hf ks (out.getD k.toNat 0-1) (by rw[e];omega);rw[Gw]at this;exact this
def chain (o:Lu)(m:Nat):Int->Lu->Int->Prop
 |a,[],e=>a=e
 |a,i::l,e=>(0<=i/\i<m/\o.getD i.toNat 0=a)/\chain o m (i+1) l e
theorem Jca:∀(l:Lu) (a i e:Int),chain o m a (l++[i]) e↔chain o m a l (o.getD i.toNat 0)/\0<=i/\i<m/\e=i+1
 |[],a,i,e=>by
  simp only[Gs,chain]
  constructor
  ·rintro⟨⟨h1,h2,h3⟩,h4⟩;exact⟨h3.symm,h1,h2,h4.symm⟩
  ·rintro⟨h3,h1,h2,h4⟩;exact⟨⟨h1,h2,h3.symm⟩,h4.symm⟩
 |x::l,a,i,e=>by simp only[GA,chain,Jca l,and_assoc]
theorem Ym(ho:Q8 o)(hm:o.length=m):∀(l:Lu) (a:Int),0<=a->(Jad o isD m l a=true↔chain o m a l m/\∀i∈l,isD i=true)
 |[],a,_=>by simp[Jad,chain]
 |i::l,a,ha=>by
  simp only[Jad,chain,Ga,beq_iff_eq,inI,decide_eq_true_eq,List.forall_mem_cons]
  constructor
  ·rintro⟨⟨⟨⟨h1,h2⟩,h3⟩,h4⟩,h5⟩;obtain⟨h6,h7⟩:=(Ym ho hm l (i+1) om).1 h5;exact⟨⟨⟨om,om,h4⟩,h6⟩,h3,h7⟩
  ·rintro⟨⟨⟨h1,h2,h4⟩,h6⟩,h3,h7⟩;have Ab:i.toNat<o.length:=om
   have hv:=ho i.toNat o[i.toNat] (Gc Ab);have e:o.getD i.toNat 0=o[i.toNat]:=by simp[Gf,Gc Ab]
   rw[e]at h4;exact⟨⟨⟨⟨om,om⟩,h3⟩,by rw[e];exact h4⟩,(Ym ho hm l (i+1) om).2 ⟨h6,h7⟩⟩
theorem JdG(ho:Q8 o)(hm:o.length=m)(hf:∀k:Int,0<=k->k<m->fst k=o.getD k.toNat 0):∀(l:Lu) (e:Int),0<=e->e<=m->(Jgj fst l e=(0,true)↔chain o m 0 l.reverse e)
 |[],e,_,_=>by simp only[Jgj,List.reverse_nil,chain,Prod.mk.injEq,and_true];exact eq_comm
 |i::l,e,h0,h1=>by
  simp only[Jgj,Gz,Jca];by_cases hc:i≠e-1\/i<0
  ·rw[if_pos hc];simp;omega
  ·rw[if_neg hc,hf i om om];have Ab:i.toNat<o.length:=om
   have hv:=ho i.toNat o[i.toNat] (Gc Ab);have e:o.getD i.toNat 0=o[i.toNat]:=by simp[Gf,Gc Ab]
   rw[JdG ho hm hf l _ (by rw[e];omega) (by rw[e];omega)]
   constructor
   ·intro h;exact⟨h,om,om,om⟩
   ·rintro⟨h,_⟩;exact h
theorem items_eq(ho:Q8 o)(hm:o.length=m)(hf:∀k:Int,0<=k->k<m->fst k=o.getD k.toNat 0)(l:Lu) :
  Jad o isD m l 0=(decide (Jgj fst l.reverse m=(0,true)) && l.all isD):=by
 refine X5 ?_;rw[Ym ho hm l 0 om,Ga,decide_eq_true_eq,JdG ho hm hf l.reverse m om om,GI,GD]
end Go.Cm
namespace Go.Cm
variable {ks o:Lu}
abbrev fs (o:Lu)(i:Int):Int:=o.getD i.toNat 0
theorem Jik(ho:Q8 o){i:Int}(h0:0<=i)(h1:i<o.length):0<=fs o i/\fs o i<=i:=by
 have Ab:i.toNat<o.length:=om
 have hv:=ho i.toNat o[i.toNat] (Gc Ab);have e:o.getD i.toNat 0=o[i.toNat]:=by simp[Gf,Gc Ab]
 rw[fs,e];omega
theorem JcG(ho:Q8 o):∀(l:Lu) (a b:Int),a<o.length->-1<=a->Qr o l a=some b->chain o o.length (b+1) l.reverse (a+1)
 |[],a,b,_,_,h=>by simp[Qr]at h;subst h;simp[chain]
 |k::l,a,b,h1,h2,h=>by
  simp only[Qr]at h
  split at h
  ·cases h
  ·rename_i hc;have hk:k=a:=om
   have hf:=Jik ho (i:=k) om om;unfold fs at hf;have ih:=JcG ho l _ b om om h;rw[Gz,Jca];rw[Gw]at ih;exact⟨ih,om,om,om⟩
section
variable{m:Nat}
theorem JiB (ho:Q8 o)(hm:o.length=m):∀(l:Lu) (a e:Int),chain o m a l e->a<=e
 |[],a,e,h=>by simp[chain]at h;omega
 |i::l,a,e,h=>by simp only[chain]at h;have hf:=Jik ho h.1.1 om;unfold fs at hf;have:=JiB ho hm l _ e h.2;omega
theorem QT (ho:Q8 o)(hm:o.length=m):∀(l:Lu) (a e:Int),chain o m a l e->∀i∈l,a<=fs o i/\0<=i/\i<e/\i<m
 |[],a,e,h,i,hi=>by simp at hi
 |x::l,a,e,h,i,hi=>by
  simp only[chain]at h;have hf:=Jik ho h.1.1 om;have hl:=JiB ho hm l _ e h.2;rcases Gt.1 hi with rfl|hi
  ·unfold fs at hf|-;omega
  ·have:=QT ho hm l _ e h.2 i hi;unfold fs at hf;omega
theorem XO (ho:Q8 o)(hm:o.length=m):∀(l:Lu) (a e x:Int),chain o m a l e->a<=x->x<e->∃i∈l,fs o i<=x/\x<=i
 |[],a,e,x,h,h1,h2=>by simp[chain]at h;omega
 |i::l,a,e,x,h,h1,h2=>by
  simp only[chain]at h;by_cases hx:x<=i
  ·exact⟨i,sM,by unfold fs;omega,hx⟩
  ·obtain⟨j,hj,h3⟩:=XO ho hm l _ e x h.2 om h2;exact⟨j,List.mem_cons_of_mem _ hj,h3⟩
theorem JfX (ho:Q8 o)(hm:o.length=m):∀(l:Lu) (a e x i j:Int),chain o m a l e->i∈l->j∈l->fs o i<=x->x<=i->fs o j<=x->x<=j->i=j
 |[],a,e,x,i,j,h,hi,_,_,_,_,_=>by simp at hi
 |k::l,a,e,x,i,j,h,hi,hj,h1,h2,h3,h4=>by
  simp only[chain]at h;rcases Gt.1 hi with hi|hi <;> rcases Gt.1 hj with hj|hj
  ·omega
  ·have:=QT ho hm l _ e h.2 j hj;omega
  ·have:=QT ho hm l _ e h.2 i hi;omega
  ·exact JfX ho hm l _ e x i j h.2 hi hj h1 h2 h3 h4
end
structure Ordd (K:LP)(o:Lu):Prop where
 h:JA K []=some o
namespace Ordd
variable {K:LP}(t:Ordd K o)
include t
theorem ok:Q8 o:=QL _ _ _ Q8.nil t.h
theorem len:o.length=K.length:=by have:=QR _ _ _ t.h;simpa using this
theorem kids {j:Nat}(hj:K[j]? = some ks):chain o o.length (fs o j) ks j:=by
 obtain⟨f,h1,h2⟩:=XH t.h hj;have Ab:=(Gi.1 hj).1;have:=JcG t.ok _ _ _ (by rw[t.len];omega) om h2;rw[GI,Gw,Gw]at this;have e:fs o j=f:=by rw[fs,Gd,Gf,h1];rfl
 rw[e];exact this
theorem rng {j:Int}(h0:0<=j)(h1:j<K.length):0<=fs o j/\fs o j<=j:=Jik t.ok h0 (by rw[t.len];exact h1)
theorem kid_rng {j:Nat}(hj:K[j]? = some ks){k:Int}(hk:k∈ks):fs o j<=fs o k/\0<=k/\k<j:=by have:=QT t.ok rfl _ _ _ (t.kids hj) k hk;omega
theorem nest:∀(j:Nat) (i:Int),j<K.length->0<=i->fs o j<=i->i<=j->fs o j<=fs o i:=by
 intro j
 induction j using Nat.strongRecOn with
 |_ j ih=>
  intro i hj h0 h1 h2;by_cases he:i=j
  ·subst he;omega
  ·have hK:K[j]? = some K[j]:=Gc hj;obtain⟨k,hk,h3,h4⟩:=XO t.ok rfl _ _ _ i (t.kids hK) h1 om;have hr:=t.kid_rng hK hk;have:=ih k.toNat om i om h0 (by rw[show ((k.toNat:Nat):Int)=k by omega];exact h3) om;rw[show ((k.toNat:Nat):Int)=k by omega]at this;omega
theorem parent_one {i j:Nat}{ls:Lu}(hi:K[i]? = some ks)(hj:K[j]? = some ls){k:Int}(h1:k∈ks)(h2:k∈ls):i=j:=by
 have key:∀{i j:Nat} {ks ls:Lu},K[i]? = some ks->K[j]? = some ls->k∈ks->k∈ls->¬i<j:=by
  intro i j ks ls hi hj h1 h2 Ab;have r1:=t.kid_rng hi h1;have r2:=t.kid_rng hj h2;have Aj:=(Gi.1 hi).1;have Ba:=(Gi.1 hj).1;have jB:=t.rng (j:=i) om om;have bC:=t.rng (j:=k) om om;have AO:fs o j<=i:=om
  obtain⟨q,hq,h3,h4⟩:=XO t.ok rfl _ _ _ i (t.kids hj) AO om;have rq:=t.kid_rng hj hq;have hn:=t.nest q.toNat i om om (by rw[show ((q.toNat:Nat):Int)=q by omega];exact h3) om;rw[show ((q.toNat:Nat):Int)=q by omega]at hn;have:=JfX t.ok rfl _ _ _ k q k (t.kids hj) hq h2 om om om om;omega
 rcases Nat.lt_trichotomy i j with h|h|h
 ·exact absurd h (key hi hj h1 h2)
 ·exact h
 ·exact absurd h (key hj hi h2 h1)
end Ordd
end Go.Cm
section
open Go.RowKit
namespace Go.Cm
def noNG (P:Program):Bool:=P.funcs.toList.all λfn=>fn.name != "runtime.NumGoroutine"
section
variable {P:Program}{E:Env}{H:Lt}{m:Bk}{w w':World}
theorem Sim.grown (hs:Sim E m H w)(BX:w.heap.size<=w'.heap.size)(Mh:∀B,B<w.heap.size->w'.heap[B]? = w.heap[B]?):Sim E m H w':=by
 refine⟨hs.len,λk o x hk hx=>?_,λB i v hv=>(cell?_congr (Mh _ (Jg2 hs hv))).trans (hs.imm B i v hv),hs.one,hs.sep,hs.ro,λk s b hk=>?_,hs.extsep,λB hB=>Nat.lt_of_lt_of_le (hs.extlt B hB) BX,hs.gl.1.mono λB hB=>Mh B (hs.gl.1.lt hB),hs.gl.2⟩
 ·by_cases Ao:o.alive=true
  ·exact KO (K9.refl _) (KN.refl _) (λ_=>Mh _ (Yx hs hk Ao hx)) (hs.obj k o x hk hx)
  ·cases o <;> simp[CObj.alive]at Ao <;> trivial
 ·exact E.stable _ _ _ _ _ _ _ (hs.ext k s b hk) (λB hB=>Mh B (hs.extlt B hB)) BX (KN.refl _) (λB i v h=>.inl h) (λB i v hv=>(cell?_congr (Mh _ (Jg2 hs hv))).trans (hs.imm B i v hv)) hs.one
theorem Ext.grown {n0:Nat}(BX:w.heap.size<=w'.heap.size)(Mh:∀B,B<w.heap.size->w'.heap[B]? = w.heap[B]?)(AP:w'.os=w.os/\w'.output=w.output/\w'.tape=w.tape):Ext n0 m H w m H w' where
 size:=BX
 frame B hB _:=Mh B hB
 imm:=KN.refl _
 newOwn B h:=.inl h
 newImm B i v h:=.inl h
 base _ _ _ h:=h
 long h:=h
 same:=AP
theorem Qb {f:Nat}{args:Ls}{v:CV}(h:∀(m:Bk) (w:World) (vs:LG),Sim E m H w->JX m.own m.imm args vs.toList->∃r,Calls P f vs w (λe w'=>e=.returned r/\Below w.heap.size w w')/\rel m.own m.imm v r):CallsC P E f args H λv' H'=>v'=v/\H'=H:=by intro m w vs hs hv;obtain⟨r,hc,hr⟩:=h m w vs hs hv;refine⟨trivial,λcs _=>?_⟩;obtain⟨e,w',fr,⟨rfl,hb⟩,Al,hl⟩:=hc cs;exact⟨_,w',fr,⟨r,m,v,H,rfl,Ext.grown hb.size hb.block ⟨hb.os,hb.output,hb.tape⟩,hs.grown hb.size hb.block,hr,rfl,rfl⟩,(show StepsIn _ _ _ _ from Jhz Al),hl⟩
end
end Go.Cm
end
section
open Go.Proofs
namespace Go.Cm
variable {x:Int}{i k m:Nat}{P:Program}
theorem Jr:Tryz.prog.follows .mixedOrders=true:=vK
theorem pNames:noNG Tryz.prog=true:=vK
theorem inr64(h1 : -9223372036854775808<=x)(h2:x<=9223372036854775807):InR .i64 x:=⟨h1,h2⟩
theorem Ji(h1:-9223372036854775808<=x:=by omega)(h2:x<=9223372036854775807:=by omega):InR .i64 x:=inr64 h1 h2
abbrev S (l:Lv):CV:=.str ⟨⟨l⟩⟩
theorem S_size (l:Lv):(⟨⟨l⟩⟩:ByteArray).size=l.length:=rfl
theorem S_ext (l:Lv)(a b:Nat):(⟨⟨l⟩⟩:ByteArray).extract a b=⟨⟨(l.take b).drop a⟩⟩:=by apply ByteArray.ext;rw[ByteArray.data_extract];apply Array.ext';simp[List.extract_eq_take_drop,List.drop_take]
theorem A_size (l:Lv):(⟨l⟩:Array UInt8).size=l.length:=rfl
theorem binS_eql (l m:Lv):binS .eql ⟨⟨l⟩⟩ ⟨⟨m⟩⟩=some (.tt,.bool (l == m)):=by simp[binS]
theorem binS_neq (l m:Lv):binS .neq ⟨⟨l⟩⟩ ⟨⟨m⟩⟩=some (.tt,.bool (!(l == m))):=by simp[binS]
theorem A_getD (l:Lv)(n:Nat):(⟨l⟩:Array UInt8).getD n 0=l.getD n 0:=by simp[Array.getD_eq_getD_getElem?,Gf]
theorem N_pred (n:Nat):((n:Int)-1).toNat=n-1:=om
theorem binS_add (l m:Lv):binS .add ⟨⟨l⟩⟩ ⟨⟨m⟩⟩=some (.ile ((l.length+m.length:Nat):Int) 9223372036854775807,.str ⟨⟨l++m⟩⟩):=by
 have:(⟨⟨l⟩⟩:ByteArray)++⟨⟨m⟩⟩=⟨⟨l++m⟩⟩:=by apply ByteArray.ext;simp
 simp only[binS,this];rfl
attribute [go_sem] S_size A_size S_ext binS_eql binS_neq A_getD N_pred binS_add
def iz (l:Lu):LM:=l.map λi=>[.int .i64 i]
theorem Jf {l:Lu}:(iz l).length=l.length:=by simp[iz]
theorem JL {l:Lu}(h:i<l.length):(iz l).getD i []=[.int .i64 (l.getD i 0)]:=by simp[iz,Gf,Gc h]
theorem KR {l:Lu}:iz (l++[x])=iz l++[[.int .i64 x]]:=by simp[iz]
theorem Jd:∀(l:Lu),Jq (iz l)=true
 |[]=>rfl
 |x::l=>by simp[iz,Jq,Jp,CV.closed];exact Jd l
structure Nd where
 k:Nat
 text:Lv
 n:Int
 kids:Lu
 pl:Int
 deriving Inhabited
abbrev LC:=List Nd
structure Tr where
 nodes:LC
 items:Lu
 deriving Inhabited
def Nd.cv (x:Nd):Ls:=[.int .u8 x.k,S x.text,.int .i64 x.n,.rslc 1 (iz x.kids) none,.int .i64 x.pl]
def ndz (l:LC):LM:=l.map Nd.cv
def Tr.row (t:Tr):Ls:=[.rslc 5 (ndz t.nodes) none,.rslc 1 (iz t.items) none]
def Tr.cv (t:Tr):CV:=.agg t.row
theorem Nd.closed (x:Nd):Jp x.cv=true:=rfl
theorem Nd.len (x:Nd):x.cv.length=5:=rfl
theorem Nd.one (x:Nd):Xq x.cv=true:=rfl
theorem Jb {l:LC}:(ndz l).length=l.length:=by simp[ndz]
theorem QE {l:LC}(h:i<l.length):(ndz l).getD i []=(l.getD i default).cv:=by simp[ndz,Gf,Gc h]
theorem JQ:∀(l:LC),Jq (ndz l)=true
 |[]=>rfl
 |x::l=>by simp only[ndz,List.map_cons,Jq,Nd.closed,Bool.true_and];exact JQ l
theorem Tr.closed (t:Tr):Jp t.row=true:=rfl
structure Nd.Fit (x:Nd):Prop where
 k:x.k<256
 text:x.text.length<=60
 n:InR .i64 x.n
 kidn:x.kids.length<=30
 kids:∀i∈x.kids,InR .i64 i
 pl:InR .i64 x.pl
structure Tr.Fit (t:Tr):Prop where
 many:t.nodes.length<=1400
 items:t.items.length<=40
 nodes:∀x∈t.nodes,x.Fit
 iz:∀i∈t.items,InR .i64 i
def Jo (l:LC)(k:Int):Nat:=(l.getD k.toNat default).k
def lets (l:LC)(x:Nd):Lv:=x.kids.map λk=>Jdo (Jo l k)
theorem KP {l:LC}{x:Nd}:(lets l x).length=x.kids.length:=by simp[lets]
theorem Jc0(h:noNG P=true) (f:Nat):(P.funcs[f]?.map (·.name))≠some "runtime.NumGoroutine" :=by
 intro e
 cases hf:P.funcs[f]? with
 |none=>rw[hf]at e;cases e
 |some fn=>rw[hf]at e;have h1:=GD.1 h fn (by simpa using Array.mem_of_getElem? hf);simp only[Option.map_some,Option.some.injEq]at e;rw[e]at h1;simp at h1
theorem kb(h:k≠m):((k:Int) == (m:Int))=false:=beq_eq_false_iff_ne.2 om
theorem kbo(h:¬k=m):((k:Int) == no_index (@OfNat.ofNat Int m _))=false:=kb h
theorem fn_of_rowT {f:Nat}{args:Ls}{z:Nat}{els:LM}{x:CV}(h:CallsC P Env.none f args [] λv H'=>∃id,v=.tup [JW id els,x]/\H'[id]? = some (KT z els))(ha:Jp args=true)(hc:Jq els=true)(hx:x.closed=true):Fn P f args (.tup [.rslc z els none,x]):=by
 refine Jin ?_ ha (by simp[CV.closed,Jp,hx]);intro m w vs hs hv;refine(h m w vs hs hv).mono ?_;rintro e w' ⟨r,m',v,H',h1,h2,h3,h4,id,rfl,g1⟩
 cases els with
 |nil=>refine⟨r,m',_,H',h1,h2,h3,?_,rfl⟩;simp only[rel,JX,JW]at h4|-;obtain⟨vs',e1,r1,rs,e2,e3,e4⟩:=h4;exact⟨vs',e1,r1,rs,e2,.inl ⟨.inl trivial,trivial,none,e3⟩,e4⟩
 |cons e l=>obtain⟨imm',AC,he,hf⟩:=Sim.freeze (n0:=([]:Lt).length) h3 (by rw[g1];rfl) hc;refine⟨r,_,_,_,h1,h2.trans he,AC,hf _ _ h4,?_⟩;simp[frz,JV,JW,QU x hx]
theorem iM6(h1:-9223372036854775808<=x:=by omega)(h2:x<=9223372036854775807:=by omega):InR .i64 x:=⟨h1,h2⟩
end Go.Cm
end
end
