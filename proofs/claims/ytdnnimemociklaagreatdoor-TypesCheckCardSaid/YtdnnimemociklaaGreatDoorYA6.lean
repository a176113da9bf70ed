/-
  A part of the proof. Conditions: none.
-/
import Derived.Lib.ItoaMem
import Derived.Lib.AtoiAll
import Derived.Test.YtdnnimemociklaaGreatDoorYA3
import Derived.Test.YtdnnimemociklaaGreatDoorProg
set_option linter.unusedSimpArgs false
set_option linter.unusedVariables false
open Bool renaming and_eq_true->Ga
open List renaming getElem?_eq_getElem->Gc,getD_eq_getElem?_getD->Gf,replicate->Gb,append_assoc->Gg,getElem?_eq_some_iff->Gi,drop_left'->Gh,take_of_length_le->Gl,length_replicate->Gm,take_left'->Gj,length_append->Gn,length_cons->Gp,length_nil->Gq,take_length->Gr,take_append_drop->Gy,nil_append->Gs,mem_cons->Gt,all_cons->Gu,reverse_cons->Gz,cons_append->GA,all_eq_true->GD,getElem?_append_right->GG,getElem?_append_left->GH,reverse_reverse->GI,take_zero->GJ,drop_zero->GK,length->GL
open Nat renaming sub_zero->Gv,zero_mul->GM,zero_add->GN
open Int renaming toNat_natCast->Gd,sub_add_cancel->Gw,toNat_zero->Gx
noncomputable section
section
open Go Go.Lib
namespace Go.Cm
def Xy (c:UInt8):Bool:=decide (48<=c.toNat) && decide (c.toNat<=57)
def Jcf (a:Nat)(l:LA):Nat:=l.foldl (λa c=>a*10+(c.toNat-48)) a
def JcT (l:LA):Nat:=Jcf 0 l
def Jb8 (l:LA):Bool:=decide (JcT l<=1000000000) && decide (l.length=1\/l.head?≠some 48)
theorem Jh3 (a:Nat)(x y:LA):Jcf a (x++y)=Jcf (Jcf a x) y:=by simp[Jcf,List.foldl_append]
theorem Jbq (a:Nat)(c:UInt8)(l:LA):Jcf a (c::l)=Jcf (a*10+(c.toNat-48)) l:=by rw[Jcf,Jcf,List.foldl_cons]
theorem decV_snoc (x:LA)(c:UInt8):JcT (x++[c])=JcT x*10+(c.toNat-48):=by rw[JcT,Jh3,Jbq];simp[Jcf];rfl
theorem Jh2:∀(l:LA) (a:Nat),a<=Jcf a l
 |[],a=>Nat.le_refl _
 |c::l,a=>by rw[Jbq];have:=Jh2 l (a*10+(c.toNat-48));omega
theorem dg_byte {c:UInt8}(h:Xy c=true):UInt8.ofNat (48+(c.toNat-48))=c:=by simp only[Xy,Ga,decide_eq_true_eq]at h;rw[show 48+(c.toNat-48)=c.toNat by omega];simp
theorem decV_zero:∀(l:LA),l.all Xy=true->l≠[]->JcT l=0->l.head? = some 48:=by
 intro l h Ai h0
 cases l with
 |nil=>exact absurd rfl Ai
 |cons c l=>
  rw[JcT,Jbq]at h0;have:=Jh2 l (0*10+(c.toNat-48));simp only[Gu,Ga]at h;have h1:=h.1;simp only[Xy,Ga,decide_eq_true_eq]at h1;have hc:c.toNat=48:=om
  have:c=48:=UInt8.toNat_inj.1 (by rw[hc];rfl);simp[this]
theorem digits_back:∀(n:Nat) (l:LA),l.length=n->l.all Xy=true->l≠[]->(decDigits (JcT l)=l↔(l.length=1\/l.head?≠some 48)):=by
 intro n
 induction n with
 |zero=>intro l hl _ Ai;exact absurd (List.eq_nil_of_length_eq_zero hl) Ai
 |succ n ih=>
  intro l hl hd Ai;have e:l=l.dropLast++[l.getLast Ai]:=(List.dropLast_concat_getLast Ai).symm;generalize l.dropLast=m at e;generalize l.getLast Ai=c at e;subst e;simp only[List.all_append,Gu,List.all_nil,Bool.and_true,Ga]at hd;obtain⟨hm,hc⟩:=hd;have Ce:m.length=n:=by simpa using hl
  have FP:c.toNat-48<10:=by simp only[Xy,Ga,decide_eq_true_eq]at hc;omega
  rw[decV_snoc]
  cases F7:m with
  |nil=>simp only[JcT,Jcf,List.foldl_nil,GM,GN,Gs,Gp,Gq,true_or,iff_true];rw[decDigits_one FP,dg_byte hc]
  |cons a r=>
   rw[<-F7];have RJ:m≠[]:=by rw[F7];simp
   have Ez:(m++[c]).length≠1:=by rw[F7];simp
   have hh:(m++[c]).head? = m.head?:=by rw[F7];rfl
   rw[hh];by_cases h0:JcT m=0
   ·have hz:=decV_zero m hm RJ h0;rw[h0,GM,GN,decDigits_one FP]
    constructor
    ·intro e;have:=congrArg GL e;rw[F7]at this;simp at this
    ·rintro(h|h)
     ·exact absurd h Ez
     ·exact absurd hz h
   ·have BL:¬JcT m*10+(c.toNat-48)<10:=om
    rw[decDigits,dif_neg BL,show (JcT m*10+(c.toNat-48)) / 10=JcT m by omega,show (JcT m*10+(c.toNat-48)) % 10=c.toNat-48 by omega,dg_byte hc];have:=ih m Ce hm RJ
    constructor
    ·intro e;have e2:=List.append_cancel_right e;rcases this.1 e2 with h|h
     ·right
      intro hz;obtain⟨x,hx⟩:∃x,m=[x]:=List.length_eq_one_iff.1 h;rw[hx]at hz h0;simp at hz;rw[hz]at h0;exact h0 rfl
     ·exact .inr h
    ·rintro(h|h)
     ·exact absurd h Ez
     ·rw[this.2 (.inr h)]
theorem JdI:∀(l:LA) (a:Nat),l.all Xy=true->a<18446744073709551616->parseUint10 a l=if Jcf a l<18446744073709551616 then .ok (Jcf a l) else .range
 |[],a,_,h=>by
  have e:Jcf a []=a:=by simp[Jcf]
  rw[e,if_pos h];rfl
 |c::l,a,hd,h=>by
  simp only[Gu,Ga]at hd;have hc:=hd.1;simp only[Xy,Ga,decide_eq_true_eq]at hc;rw[Jbq];simp only[parseUint10];rw[if_pos hc];have Be:=Jh2 l (a*10+(c.toNat-48))
  split
  ·rw[iN7]
  ·split
   ·rw[iN7]
   ·exact JdI l _ hd.2 om
theorem atoi_digits (l:LA)(hd:l.all Xy=true)(Ai:l≠[]):atoiAll l=if JcT l<9223372036854775808 then .ok (JcT l:Int) else .range:=by
 cases l with
 |nil=>exact absurd rfl Ai
 |cons c l=>
  have hc:=hd;simp only[Gu,Ga,Xy,decide_eq_true_eq]at hc;have h1:¬(c.toNat=43\/c.toNat=45):=om
  have h2:¬c.toNat=45:=om
  simp only[atoiAll,if_neg h1,parseMag];rw[if_neg sM,JdI _ 0 hd om];by_cases h3:Jcf 0 (c::l)<18446744073709551616
  ·rw[if_pos h3];by_cases h4:JcT (c::l)<9223372036854775808
   ·have h5:¬(¬c.toNat=45/\9223372036854775808<=Jcf 0 (c::l)):=λh=>by unfold JcT at h4;omega
    have h6:¬(c.toNat=45/\9223372036854775808<Jcf 0 (c::l)):=λh=>h2 h.1
    rw[if_pos h4];simp only[if_neg h5,if_neg h6,if_neg h2];rfl
   ·have h5:¬c.toNat=45/\9223372036854775808<=Jcf 0 (c::l):=⟨h2,by unfold JcT at h4;omega⟩;rw[if_neg h4];simp only[if_pos h5]
  ·rw[if_neg h3,if_neg (by unfold JcT;omega)]
end Go.Cm
end
namespace Go.Cm
variable {hv l:LA}{a b f:Int}{d x:UInt8}{m:Nat}{ks o:Lx}{K:LU}{fst:Int->Int}{isD:Int->Bool}
def letter (k:Nat):Nat:=
 if 1<=k/\k<=29 then 101 else if 60<=k/\k<=63 then 116 else if k=46\/k=47 then 99
 else if k=40 then 66 else if k=41 then 83 else if k=42 then 98 else if k=43 then 73 else if k=44 then 78 else if k=45 then 71 else if k=48 then 79
 else if k=64 then 80 else if k=65 then 68 else 32
def JdR (k:Nat):UInt8:=UInt8.ofNat (letter k)
def Qz (c:UInt8)(l:LA):Nat:=l.count c
def inI (a b n:Int):Bool:=decide (a<=n) && decide (n<=b)
def Qi (k:Nat)(hv:LA):LA:=
 let many:=λc=>Gb (Qz c hv) c
 if 4<=k/\k<=18 then [101,101]
 else if (19<=k/\k<=24)\/k=43\/k=44 then [101]
 else if k=25\/k=62\/k=63\/k=64 then [116]
 else if k=26\/k=45 then many 101
 else if k=27 then [101,66,66]
 else if k=28 then many 73++[101]++many 83++many 78++[71]
 else if k=29 then [101]++many 99
 else if k=40 then many 83++many 101
 else if k=41 then many 98++[101]
 else if k=42/\hv≠[] then [116]
 else if k=46 then [79,101]
 else if k=47 then [79,79,101]
 else if k=65 then many 80++many 116++[66]
 else []
def Xf (nm:Bool)(k:Nat)(text:LA):Bool:=
 if k=3\/k=26\/k=42\/k=43\/k=44\/k=47\/k=64\/k=65 then nm
 else if k=48 then text == [] || text == [35]
 else text == []
def Xb (k:Nat)(n:Int)(hv:LA):Bool:=
 if k=40 then n == Qz 83 hv else if k=41 then n == Qz 98 hv else if k=28 then n == Qz 73 hv else if k=65 then n == Qz 80 hv
 else if k=1 then inI 0 1000000000 n else if k=2 then inI 0 1 n else if k=29\/k=48\/k=47 then true else n == 0
def Q5 (k:Nat)(n:Int)(hv:LA):Bool:=
 let many:=λ(c:UInt8) (a b:Int)=>inI a b (Qz c hv)
 if k=65 then many 80 0 5 && many 116 1 4
 else if k=26 then many 101 0 5
 else if k=40 then many 83 0 12 && many 101 1 4
 else if k=45 then many 101 1 4
 else if k=41 then many 98 1 4
 else if k=28 then many 73 1 5 && many 83 0 12 && many 78 0 5
 else if k=29 then many 99 1 8 && inI 0 100 n
 else if k=48 then inI 0 100 n
 else if k=47 then inI 1 9 n
 else true
def Kj (nm:Bool)(k:Nat)(text:LA)(n pl:Int)(hv:LA):Bool:=!(letter k == 32) && hv == Qi k hv && inI 0 2500 pl && (Xf nm k text && Xb k n hv) && Q5 k n hv
def Kh (hv:LA)(a b:Int)(c:UInt8):Bool:=decide (0<=a) && decide (a<=b) && decide (b<=hv.length) && ((hv.take b.toNat).drop a.toNat).all (· == c)
def Qk (k:Nat)(n:Int)(hv:LA):Bool:=
 let m:Int:=hv.length
 if k=1\/k=2\/k=3\/k=48\/k=60\/k=61 then m == 0
 else if k=25\/k=62\/k=63\/k=64 then m == 1 && Kh hv 0 1 116
 else if k=42 then decide (m<=1) && Kh hv 0 m 116
 else if k=43\/k=44\/k=19\/k=20\/k=21\/k=22\/k=23\/k=24 then m == 1 && Kh hv 0 1 101
 else if k=26\/k=45 then Kh hv 0 m 101
 else if k=27 then m == 3 && Kh hv 0 1 101 && Kh hv 1 3 66
 else if k=40 then Kh hv 0 n 83 && Kh hv n m 101
 else if k=41 then m == n+1 && Kh hv 0 n 98 && Kh hv n m 101
 else if k=29 then decide (0<m) && Kh hv 0 1 101 && Kh hv 1 m 99
 else if k=46 then m == 2 && Kh hv 0 1 79 && Kh hv 1 2 101
 else if k=47 then m == 3 && Kh hv 0 2 79 && Kh hv 2 3 101
 else if k=65 then Kh hv 0 n 80 && Kh hv n (m-1) 116 && Kh hv (m-1) m 66
 else if k=28 then decide (0<=n) && decide (n<m) && Kh hv 0 n 73 && Kh hv n (n+1) 101 && Kh hv (n+1) (n+1+Qz 83 hv) 83 && Kh hv (n+1+Qz 83 hv) (m-1) 78 && Kh hv (m-1) m 71
 else decide (4<=k) && decide (k<=18) && m == 2 && Kh hv 0 2 101
def Q4 (nm:Bool)(k:Nat)(text:LA)(n pl:Int):Bool:=
 if k=48 then(text == [] || text == [35]) && inI 0 2500 pl
 else
  let named:=decide (k=3\/k=26\/k=42\/k=43\/k=44\/k=64\/k=65\/k=47)
  let counted:=if k=1 then inI 0 1000000000 n else if k=2 then inI 0 1 n else decide (k=65\/k=47\/k=40\/k=41\/k=28\/k=29)
  !((named && !nm) || (!named && !(text == []))) && ((counted || n == 0) && inI 0 2500 pl)
def Qq (k:Nat)(n:Int)(hv:LA):Bool:=
 let m:Int:=hv.length
 if k=65 then inI 0 5 n && inI 1 4 (m-n-1)
 else if k=26 then decide (m<=5)
 else if k=40 then inI 0 12 n && inI 1 4 (m-n)
 else if k=45 then inI 1 4 m
 else if k=41 then inI 1 4 n
 else if k=28 then inI 1 5 n && decide ((Qz 83 hv:Int)<=12) && decide ((Qz 78 hv:Int)<=5)
 else if k=29 then inI 0 100 n && inI 1 8 (m-1)
 else if k=48 then inI 0 100 n
 else if k=47 then inI 1 9 n
 else true
def Ku (nm:Bool)(k:Nat)(text:LA)(n pl:Int)(hv:LA):Bool:=Qk k n hv && Q4 nm k text n pl && Qq k n hv
theorem Kb{c:UInt8}:Kh hv a b c=true↔0<=a/\a<=b/\b<=hv.length/\(hv.take b.toNat).drop a.toNat=Gb (b.toNat-a.toNat) c:=by
 unfold Kh;simp only[Ga,decide_eq_true_eq,GD,beq_iff_eq]
 constructor
 ·rintro⟨⟨⟨h1,h2⟩,h3⟩,h4⟩;refine⟨h1,h2,h3,List.eq_replicate_iff.2 ⟨?_,h4⟩⟩;simp;omega
 ·rintro⟨h1,h2,h3,h4⟩;refine⟨⟨⟨h1,h2⟩,h3⟩,λx hx=>?_⟩;rw[h4]at hx;exact(List.mem_replicate.1 hx).2
theorem seg2{y:UInt8}(h1:Kh hv 0 a x=true)(h2:Kh hv a hv.length y=true):hv=Gb a.toNat x++Gb (hv.length-a.toNat) y/\0<=a/\a<=hv.length:=by obtain⟨p1,p2,p3,p4⟩:=Kb.1 h1;obtain⟨q1,q2,q3,q4⟩:=Kb.1 h2;refine⟨?_,q1,p3⟩;simp only[Gx,GK,Gv,Gd,Gr]at p4 q4;rw[<-p4,<-q4,Gy]
theorem XW {a b:Bool}(h:a=true↔b=true):a=b:=by cases a <;> cases b <;> simp_all
theorem repl_len{c:UInt8}(h:l=Gb (Qz c l) c):Qz c l=l.length:=by have:=congrArg GL h;simpa using this.symm
section
variable{n:Int}
theorem kl_all {c:UInt8}:Kh hv 0 hv.length c=true↔hv=Gb (Qz c hv) c:=by
 rw[Kb];simp only[Gx,GK,Gv,Gd,Gr]
 constructor
 ·rintro⟨_,_,_,h⟩;have:Qz c hv=hv.length:=by
   have h2:Qz c hv=List.count c (Gb hv.length c):=by rw[<-h];rfl
   simpa using h2
  rw[this];exact h
 ·intro h;refine⟨om,om,om,?_⟩;rw[repl_len h]at h;exact h
theorem Jcg {c:UInt8}{x y:LA}:Qz c (x++y)=Qz c x+Qz c y:=by simp[Qz]
theorem Jbs{c:UInt8}:Qz c (Gb m d)=if d=c then m else 0:=by simp[Qz,List.count_replicate]
theorem Jfq {c:UInt8}:Qz c []=0:=rfl
theorem JbN{c:UInt8}:Qz c (d::l)=Qz c l+if d=c then 1 else 0:=by simp[Qz,List.count_cons]
theorem n_block:(hv == Gb (Qz 83 hv) 83++Gb (Qz 101 hv) 101 && (n == Qz 83 hv) && (inI 0 12 (Qz 83 hv) && inI 1 4 (Qz 101 hv)))=(Kh hv 0 n 83 && Kh hv n hv.length 101 && (inI 0 12 n && inI 1 4 (hv.length-n))):=by
 refine XW ?_;simp only[Ga,beq_iff_eq]
 constructor
 ·rintro⟨⟨h,rfl⟩,h2,h3⟩;generalize Qz 83 hv=s at h h2|-;generalize Qz 101 hv=e at h h3;subst h;simp only[Gn,Gm];refine⟨⟨Kb.2 ⟨om,om,by simp <;> omega,?_⟩,Kb.2 ⟨om,om,by simp <;> omega,?_⟩⟩,h2,?_⟩
  ·simp
  ·rw[Gd,Gd,Gl (by simp <;> omega),Gh (by simp <;> omega)];simp
  ·rw[show ((s+e:Nat):Int)-s=e by omega];exact h3
 ·rintro⟨⟨h1,h2⟩,h3,h4⟩;obtain⟨h,h5,h6⟩:=seg2 h1 h2;have c1:Qz 83 hv=n.toNat:=by rw[h];simp[Jcg,Jbs]
  have c2:Qz 101 hv=hv.length-n.toNat:=by
   conv=>lhs;rw[h]
   simp[Jcg,Jbs]
  rw[c1,c2];refine⟨⟨h,om⟩,?_,?_⟩
  ·rw[show ((n.toNat:Nat):Int)=n by omega];exact h3
  ·rw[show ((hv.length-n.toNat:Nat):Int)=hv.length-n by omega];exact h4
theorem n_set:(hv == Gb (Qz 98 hv) 98++[101] && (n == Qz 98 hv) && inI 1 4 (Qz 98 hv))=(((hv.length:Int) == n+1 && Kh hv 0 n 98 && Kh hv n hv.length 101) && inI 1 4 n):=by
 refine XW ?_;simp only[Ga,beq_iff_eq]
 constructor
 ·rintro⟨⟨h,rfl⟩,h2⟩;generalize Qz 98 hv=s at h h2|-;subst h;simp only[Gn,Gm,Gp,Gq];refine⟨⟨⟨om,Kb.2 ⟨om,om,by simp <;> omega,?_⟩⟩,Kb.2 ⟨om,om,by simp <;> omega,?_⟩⟩,h2⟩
  ·simp
  ·rw[Gd,Gd,Gl (by simp <;> omega),Gh (by simp <;> omega)];simp
 ·rintro⟨⟨⟨h0,h1⟩,h2⟩,h3⟩;obtain⟨h,h5,h6⟩:=seg2 h1 h2;rw[show hv.length-n.toNat=1 by omega]at h;have c1:Qz 98 hv=n.toNat:=by rw[h];simp[Jcg,Jbs,JbN,Jfq]
  rw[c1];refine⟨⟨by simpa using h,om⟩,?_⟩;rw[show ((n.toNat:Nat):Int)=n by omega];exact h3
theorem n_arr:(hv == [101]++Gb (Qz 99 hv) 99 && inI 1 8 (Qz 99 hv))=((decide (0<(hv.length:Int)) && Kh hv 0 1 101 && Kh hv 1 hv.length 99) && inI 1 8 ((hv.length:Int)-1)):=by
 refine XW ?_;simp only[Ga,beq_iff_eq,decide_eq_true_eq]
 constructor
 ·rintro⟨h,h2⟩;generalize Qz 99 hv=s at h h2;subst h;simp only[Gn,Gm,Gp,Gq];refine⟨⟨⟨om,Kb.2 ⟨om,om,by simp <;> omega,?_⟩⟩,Kb.2 ⟨om,om,by simp <;> omega,?_⟩⟩,?_⟩
  ·rw[show ((1:Int)).toNat=1 from rfl];simp
  ·rw[show ((1:Int)).toNat=1 from rfl,Gd,Gl (by simp <;> omega),Gh (by simp <;> omega)];simp
  ·rw[show ((0+1+s:Nat):Int)-1=s by omega];exact h2
 ·rintro⟨⟨⟨h0,h1⟩,h2⟩,h3⟩;obtain⟨h,h5,h6⟩:=seg2 h1 h2;rw[show ((1:Int)).toNat=1 from rfl]at h;have c1:Qz 99 hv=hv.length-1:=by
   conv=>lhs;rw[h]
   simp[Jbs,JbN]
  rw[c1];refine⟨by simpa using h,?_⟩;rw[show ((hv.length-1:Nat):Int)=hv.length-1 by omega];exact h3
theorem Y6 {hv:LA}(h:Kh hv a b x=true):hv.take b.toNat=hv.take a.toNat++Gb (b.toNat-a.toNat) x/\0<=a/\a<=b/\b<=hv.length:=by
 obtain⟨p1,p2,p3,p4⟩:=Kb.1 h;refine⟨?_,p1,p2,p3⟩;rw[<-p4];have h2:(hv.take b.toNat).take a.toNat=hv.take a.toNat:=by rw[List.take_take];congr 1;omega
 conv=>lhs;rw[<-Gy a.toNat (hv.take b.toNat),h2]
theorem n_def:(hv == Gb (Qz 80 hv) 80++Gb (Qz 116 hv) 116++[66] && (n == Qz 80 hv) && (inI 0 5 (Qz 80 hv) && inI 1 4 (Qz 116 hv)))=((Kh hv 0 n 80 && Kh hv n ((hv.length:Int)-1) 116 && Kh hv ((hv.length:Int)-1) hv.length 66) && (inI 0 5 n && inI 1 4 ((hv.length:Int)-n-1))):=by
 refine XW ?_;simp only[Ga,beq_iff_eq]
 constructor
 ·rintro⟨⟨h,rfl⟩,h2,h3⟩;generalize Qz 80 hv=s at h h2|-;generalize Qz 116 hv=e at h h3;subst h;simp only[Gn,Gm,Gp,Gq];refine⟨⟨⟨Kb.2 ⟨om,om,by simp <;> omega,?_⟩,Kb.2 ⟨om,om,by simp <;> omega,?_⟩⟩,Kb.2 ⟨om,om,by simp <;> omega,?_⟩⟩,h2,?_⟩
  ·rw[Gd,Gg,Gj (by simp <;> omega)];simp
  ·rw[show (((s+e+(0+1):Nat):Int)-1).toNat=s+e by omega,Gd,Gj (by simp <;> omega),Gh (by simp <;> omega)];simp
  ·rw[show (((s+e+(0+1):Nat):Int)-1).toNat=s+e by omega,Gd,Gl (by simp <;> omega),Gh (by simp <;> omega)];rw[show s+e+(0+1)-(s+e)=1 by omega];rfl
  ·rw[show ((s+e+(0+1):Nat):Int)-s-1=e by omega];exact h3
 ·rintro⟨⟨⟨h0,h1⟩,h2⟩,h3,h4⟩;obtain⟨e0,a0,b0,c0⟩:=Y6 h0;obtain⟨e1,a1,b1,c1⟩:=Y6 h1;obtain⟨e2,a2,b2,c2⟩:=Y6 h2;rw[e1,e0]at e2;simp only[Gd,Gr,Gx,GJ,Gs,Gv]at e2;rw[show hv.length-((hv.length:Int)-1).toNat=1 by omega]at e2;have d1:Qz 80 hv=n.toNat:=by
   conv=>lhs;rw[e2]
   simp[Jcg,Jbs,JbN,Jfq]
  have d2:Qz 116 hv=((hv.length:Int)-1).toNat-n.toNat:=by
   conv=>lhs;rw[e2]
   simp[Jcg,Jbs,JbN,Jfq]
  rw[d1,d2];refine⟨⟨by simpa using e2,om⟩,?_,?_⟩
  ·rw[show ((n.toNat:Nat):Int)=n by omega];exact h3
  ·rw[show ((((hv.length:Int)-1).toNat-n.toNat:Nat):Int)=hv.length-n-1 by omega];exact h4
theorem n_loop:(hv == Gb (Qz 73 hv) 73++[101]++Gb (Qz 83 hv) 83++Gb (Qz 78 hv) 78++[71] && (n == Qz 73 hv) && (inI 1 5 (Qz 73 hv) && inI 0 12 (Qz 83 hv) && inI 0 5 (Qz 78 hv)))
  = ((decide (0<=n) && decide (n<(hv.length:Int)) && Kh hv 0 n 73 && Kh hv n (n+1) 101 && Kh hv (n+1) (n+1+Qz 83 hv) 83 && Kh hv (n+1+Qz 83 hv) ((hv.length:Int)-1) 78 && Kh hv ((hv.length:Int)-1) hv.length 71) && (inI 1 5 n && decide ((Qz 83 hv:Int)<=12) && decide ((Qz 78 hv:Int)<=5))):=by
 refine XW ?_;simp only[Ga,beq_iff_eq,decide_eq_true_eq]
 constructor
 ·rintro⟨⟨h,rfl⟩,⟨h2,h3⟩,h4⟩;generalize Qz 73 hv=s at h h2|-;generalize Qz 83 hv=q at h h3|-;generalize Qz 78 hv=e at h h4|-;subst h;simp only[Gn,Gm,Gp,Gq];simp only[inI,Ga,decide_eq_true_eq]at h3 h4;refine⟨⟨⟨⟨⟨⟨⟨om,om⟩,Kb.2 ⟨om,om,by simp <;> omega,?_⟩⟩,Kb.2 ⟨om,om,by simp <;> omega,?_⟩⟩,Kb.2 ⟨om,om,by simp <;> omega,?_⟩⟩,Kb.2 ⟨om,om,by simp <;> omega,?_⟩⟩,Kb.2 ⟨om,om,by simp <;> omega,?_⟩⟩,⟨h2,h3.2⟩,h4.2⟩
  ·rw[Gd,Gg,Gg,Gg,Gj (by simp <;> omega)];simp
  ·rw[Gd,show ((s:Int)+1).toNat=s+1 by omega,Gg,Gg,Gj (by simp <;> omega),Gh (by simp <;> omega)];simp
  ·rw[show ((s:Int)+1).toNat=s+1 by omega,show ((s:Int)+1+q).toNat=s+1+q by omega,Gg,Gj (by simp <;> omega),Gh (by simp <;> omega)];simp
  ·rw[show ((s:Int)+1+q).toNat=s+1+q by omega,show (((s+(0+1)+q+e+(0+1):Nat):Int)-1).toNat=s+1+q+e by omega,Gj (by simp <;> omega),Gh (by simp <;> omega)];simp
  ·rw[show (((s+(0+1)+q+e+(0+1):Nat):Int)-1).toNat=s+1+q+e by omega,Gd,Gl (by simp <;> omega),Gh (by simp <;> omega)];rw[show s+(0+1)+q+e+(0+1)-(s+1+q+e)=1 by omega];rfl
 ·rintro⟨⟨⟨⟨⟨⟨⟨_,_⟩,h0⟩,h1⟩,h2⟩,h3⟩,h4⟩,⟨h5,h6⟩,h7⟩;obtain⟨e0,a0,b0,c0⟩:=Y6 h0;obtain⟨e1,a1,b1,c1⟩:=Y6 h1;obtain⟨e2,a2,b2,c2⟩:=Y6 h2;obtain⟨e3,a3,b3,c3⟩:=Y6 h3;obtain⟨e4,a4,b4,c4⟩:=Y6 h4;rw[e3,e2,e1,e0]at e4;simp only[Gd,Gr,Gx,GJ,Gs,Gv]at e4;rw[show (n+1).toNat-n.toNat=1 by omega,show (n+1+Qz 83 hv).toNat-(n+1).toNat=Qz 83 hv by omega,show hv.length-((hv.length:Int)-1).toNat=1 by omega]at e4;have d1:Qz 73 hv=n.toNat:=by
   conv=>lhs;rw[e4]
   simp[Jcg,Jbs,JbN,Jfq]
  have d2:Qz 78 hv=((hv.length:Int)-1).toNat-(n+1+Qz 83 hv).toNat:=by
   conv=>lhs;rw[e4]
   simp[Jcg,Jbs,JbN,Jfq]
  rw[d1];refine⟨⟨?_,om⟩,⟨?_,?_⟩,?_⟩
  ·rw[d2];simpa using e4
  ·rw[show ((n.toNat:Nat):Int)=n by omega];exact h5
  ·simp only[inI,Ga,decide_eq_true_eq];omega
  ·simp only[inI,Ga,decide_eq_true_eq];omega
theorem w_0:(hv == [])=((hv.length:Int) == 0):=by
 refine XW ?_;simp only[beq_iff_eq]
 cases hv with
 |nil=>simp
 |cons a l=>simp;omega
theorem w_1 {c:UInt8}:(hv == [c])=((hv.length:Int) == 1 && Kh hv 0 1 c):=by
 refine XW ?_;rcases hv with _|⟨a,_|⟨b,l⟩⟩
 ·simp
 ·simp[Kh]
 ·simp;omega
theorem w_opt {c:UInt8}:(hv == (if hv≠[] then [c] else []))=(decide ((hv.length:Int)<=1) && Kh hv 0 hv.length c):=by
 refine XW ?_;rcases hv with _|⟨a,_|⟨b,l⟩⟩
 ·simp[Kh]
 ·simp[Kh]
 ·simp;omega
theorem w_2{c:UInt8}:(hv == [c,d])=((hv.length:Int) == 2 && Kh hv 0 1 c && Kh hv 1 2 d):=by
 refine XW ?_;rcases hv with _|⟨a,_|⟨b,_|⟨e,l⟩⟩⟩
 ·simp
 ·simp
 ·simp[Kh]
 ·simp;omega
theorem w_22 {c:UInt8}:(hv == [c,c])=((hv.length:Int) == 2 && Kh hv 0 2 c):=by
 refine XW ?_;rcases hv with _|⟨a,_|⟨b,_|⟨e,l⟩⟩⟩
 ·simp
 ·simp
 ·simp[Kh]
 ·simp;omega
theorem w_12{c:UInt8}:(hv == [c,d,d])=((hv.length:Int) == 3 && Kh hv 0 1 c && Kh hv 1 3 d):=by
 refine XW ?_;rcases hv with _|⟨a,_|⟨b,_|⟨e,_|⟨f,l⟩⟩⟩⟩
 ·simp
 ·simp
 ·simp
 ·simp[Kh]
 ·simp;omega
theorem w_21{c:UInt8}:(hv == [c,c,d])=((hv.length:Int) == 3 && Kh hv 0 2 c && Kh hv 2 3 d):=by
 refine XW ?_;rcases hv with _|⟨a,_|⟨b,_|⟨e,_|⟨f,l⟩⟩⟩⟩
 ·simp
 ·simp
 ·simp
 ·simp[Kh,and_assoc]
 ·simp;omega
theorem w_all {c:UInt8}:(hv == Gb (Qz c hv) c)=Kh hv 0 hv.length c:=by refine XW ?_;rw[kl_all,beq_iff_eq]
end
set_option maxHeartbeats 1000000 in
theorem node_eq (nm:Bool)(k:Nat)(text:LA)(n pl:Int)(hv:LA):Kj nm k text n pl hv=Ku nm k text n pl hv:=by
 by_cases hk:k<66
 ·have Aj:k=0\/k=1\/k=2\/k=3\/k=4\/k=5\/k=6\/k=7\/k=8\/k=9\/k=10\/k=11\/k=12\/k=13\/k=14\/k=15\/k=16\/k=17\/k=18\/k=19\/k=20\/k=21\/k=22\/k=23\/k=24\/k=25\/k=26\/k=27\/k=28\/k=29\/k=30\/k=31\/k=32\/k=33\/k=34\/k=35\/k=36\/k=37\/k=38\/k=39\/k=40\/k=41\/k=42\/k=43\/k=44\/k=45\/k=46\/k=47\/k=48\/k=49\/k=50\/k=51\/k=52\/k=53\/k=54\/k=55\/k=56\/k=57\/k=58\/k=59\/k=60\/k=61\/k=62\/k=63\/k=64\/k=65:=om
  clear hk;rcases Aj with rfl|rfl|rfl|rfl|rfl|rfl|rfl|rfl|rfl|rfl|rfl|rfl|rfl|rfl|rfl|rfl|rfl|rfl|rfl|rfl|rfl|rfl|rfl|rfl|rfl|rfl|rfl|rfl|rfl|rfl|rfl|rfl|rfl|rfl|rfl|rfl|rfl|rfl|rfl|rfl|rfl|rfl|rfl|rfl|rfl|rfl|rfl|rfl|rfl|rfl|rfl|rfl|rfl|rfl|rfl|rfl|rfl|rfl|rfl|rfl|rfl|rfl|rfl|rfl|rfl|rfl
  ·simp[Kj,Ku,letter,Qi,Xf,Xb,Q5,Qk,Q4,Qq]
  ·have h:=w_0 (hv:=hv);have h0:n=0->inI 0 1000000000 n=true:=by rintro rfl;decide
   simp[Kj,Ku,letter,Qi,Xf,Xb,Q5,Qk,Q4,Qq]at h|-
   grind
  ·have h:=w_0 (hv:=hv);have h0:n=0->inI 0 1 n=true:=by rintro rfl;decide
   simp[Kj,Ku,letter,Qi,Xf,Xb,Q5,Qk,Q4,Qq]at h|-
   grind
  ·have h:=w_0 (hv:=hv);simp[Kj,Ku,letter,Qi,Xf,Xb,Q5,Qk,Q4,Qq]at h|-
   grind
  ·have h:=w_22 (hv:=hv) (c:=101);simp[Kj,Ku,letter,Qi,Xf,Xb,Q5,Qk,Q4,Qq]at h|-
   grind
  ·have h:=w_22 (hv:=hv) (c:=101);simp[Kj,Ku,letter,Qi,Xf,Xb,Q5,Qk,Q4,Qq]at h|-
   grind
  ·have h:=w_22 (hv:=hv) (c:=101);simp[Kj,Ku,letter,Qi,Xf,Xb,Q5,Qk,Q4,Qq]at h|-
   grind
  ·have h:=w_22 (hv:=hv) (c:=101);simp[Kj,Ku,letter,Qi,Xf,Xb,Q5,Qk,Q4,Qq]at h|-
   grind
  ·have h:=w_22 (hv:=hv) (c:=101);simp[Kj,Ku,letter,Qi,Xf,Xb,Q5,Qk,Q4,Qq]at h|-
   grind
  ·have h:=w_22 (hv:=hv) (c:=101);simp[Kj,Ku,letter,Qi,Xf,Xb,Q5,Qk,Q4,Qq]at h|-
   grind
  ·have h:=w_22 (hv:=hv) (c:=101);simp[Kj,Ku,letter,Qi,Xf,Xb,Q5,Qk,Q4,Qq]at h|-
   grind
  ·have h:=w_22 (hv:=hv) (c:=101);simp[Kj,Ku,letter,Qi,Xf,Xb,Q5,Qk,Q4,Qq]at h|-
   grind
  ·have h:=w_22 (hv:=hv) (c:=101);simp[Kj,Ku,letter,Qi,Xf,Xb,Q5,Qk,Q4,Qq]at h|-
   grind
  ·have h:=w_22 (hv:=hv) (c:=101);simp[Kj,Ku,letter,Qi,Xf,Xb,Q5,Qk,Q4,Qq]at h|-
   grind
  ·have h:=w_22 (hv:=hv) (c:=101);simp[Kj,Ku,letter,Qi,Xf,Xb,Q5,Qk,Q4,Qq]at h|-
   grind
  ·have h:=w_22 (hv:=hv) (c:=101);simp[Kj,Ku,letter,Qi,Xf,Xb,Q5,Qk,Q4,Qq]at h|-
   grind
  ·have h:=w_22 (hv:=hv) (c:=101);simp[Kj,Ku,letter,Qi,Xf,Xb,Q5,Qk,Q4,Qq]at h|-
   grind
  ·have h:=w_22 (hv:=hv) (c:=101);simp[Kj,Ku,letter,Qi,Xf,Xb,Q5,Qk,Q4,Qq]at h|-
   grind
  ·have h:=w_22 (hv:=hv) (c:=101);simp[Kj,Ku,letter,Qi,Xf,Xb,Q5,Qk,Q4,Qq]at h|-
   grind
  ·have h:=w_1 (hv:=hv) (c:=101);simp[Kj,Ku,letter,Qi,Xf,Xb,Q5,Qk,Q4,Qq]at h|-
   grind
  ·have h:=w_1 (hv:=hv) (c:=101);simp[Kj,Ku,letter,Qi,Xf,Xb,Q5,Qk,Q4,Qq]at h|-
   grind
  ·have h:=w_1 (hv:=hv) (c:=101);simp[Kj,Ku,letter,Qi,Xf,Xb,Q5,Qk,Q4,Qq]at h|-
   grind
  ·have h:=w_1 (hv:=hv) (c:=101);simp[Kj,Ku,letter,Qi,Xf,Xb,Q5,Qk,Q4,Qq]at h|-
   grind
  ·have h:=w_1 (hv:=hv) (c:=101);simp[Kj,Ku,letter,Qi,Xf,Xb,Q5,Qk,Q4,Qq]at h|-
   grind
  ·have h:=w_1 (hv:=hv) (c:=101);simp[Kj,Ku,letter,Qi,Xf,Xb,Q5,Qk,Q4,Qq]at h|-
   grind
  ·have h:=w_1 (hv:=hv) (c:=116);simp[Kj,Ku,letter,Qi,Xf,Xb,Q5,Qk,Q4,Qq]at h|-
   grind
  ·have h:=w_all (hv:=hv) (c:=101);simp[Kj,Ku,letter,Qi,Xf,Xb,Q5,Qk,Q4,Qq,inI]at h|-
   grind
  ·have h:=w_12 (hv:=hv) (c:=101) (d:=66);simp[Kj,Ku,letter,Qi,Xf,Xb,Q5,Qk,Q4,Qq]at h|-
   grind
  ·have h:=n_loop (hv:=hv) (n:=n);simp[Kj,Ku,letter,Qi,Xf,Xb,Q5,Qk,Q4,Qq]at h|-
   grind
  ·have h:=n_arr (hv:=hv);simp[Kj,Ku,letter,Qi,Xf,Xb,Q5,Qk,Q4,Qq]at h|-
   grind
  ·simp[Kj,Ku,letter,Qi,Xf,Xb,Q5,Qk,Q4,Qq]
  ·simp[Kj,Ku,letter,Qi,Xf,Xb,Q5,Qk,Q4,Qq]
  ·simp[Kj,Ku,letter,Qi,Xf,Xb,Q5,Qk,Q4,Qq]
  ·simp[Kj,Ku,letter,Qi,Xf,Xb,Q5,Qk,Q4,Qq]
  ·simp[Kj,Ku,letter,Qi,Xf,Xb,Q5,Qk,Q4,Qq]
  ·simp[Kj,Ku,letter,Qi,Xf,Xb,Q5,Qk,Q4,Qq]
  ·simp[Kj,Ku,letter,Qi,Xf,Xb,Q5,Qk,Q4,Qq]
  ·simp[Kj,Ku,letter,Qi,Xf,Xb,Q5,Qk,Q4,Qq]
  ·simp[Kj,Ku,letter,Qi,Xf,Xb,Q5,Qk,Q4,Qq]
  ·simp[Kj,Ku,letter,Qi,Xf,Xb,Q5,Qk,Q4,Qq]
  ·have h:=n_block (hv:=hv) (n:=n);simp[Kj,Ku,letter,Qi,Xf,Xb,Q5,Qk,Q4,Qq]at h|-
   grind
  ·have h:=n_set (hv:=hv) (n:=n);simp[Kj,Ku,letter,Qi,Xf,Xb,Q5,Qk,Q4,Qq]at h|-
   grind
  ·have h:=w_opt (hv:=hv) (c:=116);simp[Kj,Ku,letter,Qi,Xf,Xb,Q5,Qk,Q4,Qq]at h|-
   grind
  ·have h:=w_1 (hv:=hv) (c:=101);simp[Kj,Ku,letter,Qi,Xf,Xb,Q5,Qk,Q4,Qq]at h|-
   grind
  ·have h:=w_1 (hv:=hv) (c:=101);simp[Kj,Ku,letter,Qi,Xf,Xb,Q5,Qk,Q4,Qq]at h|-
   grind
  ·have h:=w_all (hv:=hv) (c:=101);simp[Kj,Ku,letter,Qi,Xf,Xb,Q5,Qk,Q4,Qq]at h|-
   grind
  ·have h:=w_2 (hv:=hv) (c:=79) (d:=101);simp[Kj,Ku,letter,Qi,Xf,Xb,Q5,Qk,Q4,Qq]at h|-
   grind
  ·have h:=w_21 (hv:=hv) (c:=79) (d:=101);simp[Kj,Ku,letter,Qi,Xf,Xb,Q5,Qk,Q4,Qq]at h|-
   grind
  ·have h:=w_0 (hv:=hv);simp[Kj,Ku,letter,Qi,Xf,Xb,Q5,Qk,Q4,Qq]at h|-
   grind
  ·simp[Kj,Ku,letter,Qi,Xf,Xb,Q5,Qk,Q4,Qq]
  ·simp[Kj,Ku,letter,Qi,Xf,Xb,Q5,Qk,Q4,Qq]
  ·simp[Kj,Ku,letter,Qi,Xf,Xb,Q5,Qk,Q4,Qq]
  ·simp[Kj,Ku,letter,Qi,Xf,Xb,Q5,Qk,Q4,Qq]
  ·simp[Kj,Ku,letter,Qi,Xf,Xb,Q5,Qk,Q4,Qq]
  ·simp[Kj,Ku,letter,Qi,Xf,Xb,Q5,Qk,Q4,Qq]
  ·simp[Kj,Ku,letter,Qi,Xf,Xb,Q5,Qk,Q4,Qq]
  ·simp[Kj,Ku,letter,Qi,Xf,Xb,Q5,Qk,Q4,Qq]
  ·simp[Kj,Ku,letter,Qi,Xf,Xb,Q5,Qk,Q4,Qq]
  ·simp[Kj,Ku,letter,Qi,Xf,Xb,Q5,Qk,Q4,Qq]
  ·simp[Kj,Ku,letter,Qi,Xf,Xb,Q5,Qk,Q4,Qq]
  ·have h:=w_0 (hv:=hv);simp[Kj,Ku,letter,Qi,Xf,Xb,Q5,Qk,Q4,Qq]at h|-
   grind
  ·have h:=w_0 (hv:=hv);simp[Kj,Ku,letter,Qi,Xf,Xb,Q5,Qk,Q4,Qq]at h|-
   grind
  ·have h:=w_1 (hv:=hv) (c:=116);simp[Kj,Ku,letter,Qi,Xf,Xb,Q5,Qk,Q4,Qq]at h|-
   grind
  ·have h:=w_1 (hv:=hv) (c:=116);simp[Kj,Ku,letter,Qi,Xf,Xb,Q5,Qk,Q4,Qq]at h|-
   grind
  ·have h:=w_1 (hv:=hv) (c:=116);simp[Kj,Ku,letter,Qi,Xf,Xb,Q5,Qk,Q4,Qq]at h|-
   grind
  ·have h:=n_def (hv:=hv) (n:=n);simp[Kj,Ku,letter,Qi,Xf,Xb,Q5,Qk,Q4,Qq]at h|-
   grind
 ·have h1:letter k=32:=by
   unfold letter
   repeat' (rw[iN7])
  have h2:Qk k n hv=false:=by
   simp only[Qk]
   repeat' (rw[iN7])
   simp;omega
  simp[Kj,Ku,h1,h2]
def XA (out:Lx):Lx->Int->Option Int
 |[],a=>some a
 |k::ks,a=>if a<0\/k≠a then none else XA out ks (out.getD k.toNat 0-1)
def Jev (out:Lx)(kids:Lx):Option Int:=(XA out kids.reverse ((out.length:Int)-1)).map (· + 1)
def JB:LU->Lx->Option Lx
 |[],out=>some out
 |ks::K,out=>match Jev out ks with
  |some f=>JB K (out++[f])
  |none=>none
theorem JcY {out:Lx}:∀(x y:Lx) (a:Int),XA out (x++y) a=(XA out x a).bind (XA out y)
 |[],y,a=>rfl
 |k::x,y,a=>by
  simp only[GA,XA]
  split
  ·rfl
  ·exact JcY x y _
theorem JaP:∀(x y:LU) (out:Lx),JB (x++y) out=(JB x out).bind (JB y)
 |[],y,out=>rfl
 |k::x,y,out=>by
  simp only[GA,JB]
  split
  ·exact JaP x y _
  ·rfl
theorem QQ:∀(K:LU) (out o:Lx),JB K out=some o->o.length=out.length+K.length
 |[],out,o,h=>by simp[JB]at h;subst h;simp
 |k::K,out,o,h=>by
  simp only[JB]at h
  split at h
  ·have:=QQ K _ _ h;simp at this|-;omega
  ·cases h
def Xj (out:Lx):Prop:=∀(j:Nat) v,out[j]? = some v->0<=v/\v<=j
theorem JcX {out:Lx}(ho:Xj out):∀(ks:Lx) (a b:Int),-1<=a->a<out.length->XA out ks a=some b->-1<=b/\b<=a
 |[],a,b,h1,h2,h=>by simp[XA]at h;omega
 |k::ks,a,b,h1,h2,h=>by
  simp only[XA]at h
  split at h
  ·cases h
  ·rename_i hc;have hk:k=a:=om
   have h0:0<=a:=om
   subst hk;have Ab:k.toNat<out.length:=om
   have hv:=ho k.toNat out[k.toNat] (Gc Ab);have e:out.getD k.toNat 0=out[k.toNat]:=by simp[Gf,Gc Ab]
   rw[e]at h;have:=JcX ho ks _ b om om h;omega
theorem stepF_rng{out:Lx}(ho:Xj out)(h:Jev out ks=some f):0<=f/\f<=out.length:=by
 unfold Jev at h
 cases hb:XA out ks.reverse ((out.length:Int)-1) with
 |none=>rw[hb]at h;cases h
 |some b=>rw[hb]at h;simp at h;have:=JcX ho _ _ b om om hb;omega
theorem Xj.snoc {out:Lx}(ho:Xj out)(h:0<=f/\f<=out.length):Xj (out++[f]):=by
 intro j v hj;rcases Nat.lt_or_ge j out.length with Ab|BL
 ·rw[GH Ab]at hj;exact ho j v hj
 ·rw[GG BL]at hj;rcases hc:j-out.length with _|m
  ·rw[hc]at hj;simp at hj;subst hj;omega
  ·rw[hc]at hj;simp at hj
theorem QU:∀(K:LU) (out o:Lx),Xj out->JB K out=some o->Xj o
 |[],out,o,ho,h=>by simp[JB]at h;subst h;exact ho
 |k::K,out,o,ho,h=>by
  simp only[JB]at h
  split at h
  ·rename_i f hf;exact QU K _ o (ho.snoc (stepF_rng ho hf)) h
  ·cases h
theorem Xj.nil:Xj []:=by intro j v h;simp at h
theorem Jfh:∀(K:LU) (out o:Lx),JB K out=some o->∃t,o=out++t
 |[],out,o,h=>by simp[JB]at h;exact⟨[],by simp[h]⟩
 |k::K,out,o,h=>by
  simp only[JB]at h
  split at h
  ·rename_i f _;obtain⟨t,rfl⟩:=Jfh K _ o h;exact⟨f::t,sM⟩
  ·cases h
theorem JgG {out t:Lx}(ho:Xj out):∀(ks:Lx) (a:Int),a<out.length->XA (out++t) ks a=XA out ks a
 |[],a,_=>rfl
 |k::ks,a,h=>by
  simp only[XA]
  split
  ·rfl
  ·rename_i hc;have Ab:k.toNat<out.length:=om
   have e:(out++t).getD k.toNat 0=out.getD k.toNat 0:=by simp[Gf,GH Ab]
   rw[e];refine JgG ho ks _ ?_;have hv:=ho k.toNat out[k.toNat] (Gc Ab);have e:out.getD k.toNat 0=out[k.toNat]:=by simp[Gf,Gc Ab]
   rw[e];omega
theorem JaO(h:JB K []=some o){j:Nat}(hj:K[j]? = some ks):∃f,o[j]? = some f/\XA o ks.reverse ((j:Int)-1)=some (f-1):=by
 have Ab:=(Gi.1 hj).1;have e:K=K.take j++ks::K.drop (j+1):=by have h1:=List.drop_eq_getElem_cons Ab;rw[(Gi.1 hj).2]at h1;rw[<-h1,Gy]
 rw[e,JaP]at h
 cases h1:JB (K.take j) []with
 |none=>rw[h1]at h;cases h
 |some p=>
  rw[h1]at h;simp only[Option.bind_some,JB]at h;have hp:=QU _ _ _ Xj.nil h1;have hl:=QQ _ _ _ h1;simp at hl;have dx:p.length=j:=om
  split at h
  ·rename_i f hf;obtain⟨t,rfl⟩:=Jfh _ _ _ h;refine⟨f,by rw[Gg,GG om];simp[dx],?_⟩;rw[Gg,JgG hp _ _ om];unfold Jev at hf;rw[dx]at hf
   cases hb:XA p ks.reverse ((j:Int)-1) with
   |none=>rw[hb]at hf;cases hf
   |some b=>
    rw[hb]at hf;simp at hf
    congr 1;omega
  ·cases h
theorem backF_last {out:Lx}:∀(ks:Lx) (k a b:Int),XA out (ks++[k]) a=some b->b=out.getD k.toNat 0-1/\0<=k:=by
 intro ks k a b h;rw[JcY]at h
 cases h1:XA out ks a with
 |none=>rw[h1]at h;cases h
 |some c=>
  rw[h1]at h;simp only[Option.bind_some,XA]at h
  split at h
  ·cases h
  ·simp at h;exact⟨h.symm,om⟩
theorem firstsF_kid(h:JB K []=some o){j:Nat}{k:Int}(hj:K[j]? = some (k::ks)):o.getD j 0=o.getD k.toNat 0/\0<=k:=by
 obtain⟨f,h1,h2⟩:=JaO h hj;rw[Gz]at h2;obtain⟨h3,h4⟩:=backF_last _ _ _ _ h2;refine⟨?_,h4⟩;have e:o.getD j 0=f:=by rw[Gf,h1];rfl
 rw[e];omega
theorem firstsF_leaf(h:JB K []=some o){j:Nat}(hj:K[j]? = some []):o.getD j 0=j:=by obtain⟨f,h1,h2⟩:=JaO h hj;simp[XA]at h2;rw[Gf,h1];simp;omega
theorem JgH {out:Lx}(ho:Xj out):∀(ks:Lx) (a b:Int),a<out.length->XA out ks a=some b->∀k∈ks,0<=k/\k<=a
 |[],a,b,_,_,k,hk=>by simp at hk
 |x::ks,a,b,ha,h,k,hk=>by
  simp only[XA]at h
  split at h
  ·cases h
  ·rename_i hc;have hx:x=a:=om
   have Ab:x.toNat<out.length:=om
   have hv:=ho x.toNat out[x.toNat] (Gc Ab);have e:out.getD x.toNat 0=out[x.toNat]:=by simp[Gf,Gc Ab]
   rcases Gt.1 hk with rfl|hk
   ·omega
   ·have:=JgH ho ks _ b (by rw[e];omega) h k hk;omega
theorem XQ(h:JB K []=some o){j:Nat}(hj:K[j]? = some ks):∀k∈ks,0<=k/\k<j:=by obtain⟨f,h1,h2⟩:=JaO h hj;have hl:=QQ _ _ _ h;have Ab:=(Gi.1 hj).1;intro k hk;have:=JgH (QU _ _ _ Xj.nil h) _ _ _ (by simp at hl;omega) h2 k (by simpa using hk);omega
def Y8 (o:Lx)(isD:Int->Bool)(m:Nat):Lx->Int->Bool
 |[],a=>a == m
 |i::l,a=>inI a ((m:Int)-1) i && isD i && o.getD i.toNat 0 == a && Y8 o isD m l (i+1)
def JfL (fst:Int->Int):Lx->Int->Int×Bool
 |[],e=>(e,true)
 |k::ks,e=>if k≠e-1\/k<0 then(e,false) else JfL fst ks (fst k)
theorem Jf9 {out:Lx}(ho:Xj out)(hf:∀k:Int,0<=k->k<out.length->fst k=out.getD k.toNat 0):∀(ks:Lx) (a:Int),a<out.length->(match XA out ks a with
  |some b=>JfL fst ks (a+1)=(b+1,true)
  |none=>(JfL fst ks (a+1)).2=false)
 |[],a,_=>rfl
 |k::ks,a,ha=>by
  simp only[XA,JfL];by_cases hc:a<0\/k≠a
  ·rw[if_pos hc,iP7]
  ·rw[if_neg hc,iN7,hf k om om];have Ab:k.toNat<out.length:=om
   have hv:=ho k.toNat out[k.toNat] (Gc Ab);have e:out.getD k.toNat 0=out[k.toNat]:=by simp[Gf,Gc Ab]
   have:=Jf9 ho hf ks (out.getD k.toNat 0-1) (by rw[e];omega);rw[Gw]at this;exact this
def chain (o:Lx)(m:Nat):Int->Lx->Int->Prop
 |a,[],e=>a=e
 |a,i::l,e=>(0<=i/\i<m/\o.getD i.toNat 0=a)/\chain o m (i+1) l e
theorem JbO:∀(l:Lx) (a i e:Int),chain o m a (l++[i]) e↔chain o m a l (o.getD i.toNat 0)/\0<=i/\i<m/\e=i+1
 |[],a,i,e=>by
  simp only[Gs,chain]
  constructor
  ·rintro⟨⟨h1,h2,h3⟩,h4⟩;exact⟨h3.symm,h1,h2,h4.symm⟩
  ·rintro⟨h3,h1,h2,h4⟩;exact⟨⟨h1,h2,h3.symm⟩,h4.symm⟩
 |x::l,a,i,e=>by simp only[GA,chain,JbO l,and_assoc]
theorem Yf(ho:Xj o)(hm:o.length=m):∀(l:Lx) (a:Int),0<=a->(Y8 o isD m l a=true↔chain o m a l m/\∀i∈l,isD i=true)
 |[],a,_=>by simp[Y8,chain]
 |i::l,a,ha=>by
  simp only[Y8,chain,Ga,beq_iff_eq,inI,decide_eq_true_eq,List.forall_mem_cons]
  constructor
  ·rintro⟨⟨⟨⟨h1,h2⟩,h3⟩,h4⟩,h5⟩;obtain⟨h6,h7⟩:=(Yf ho hm l (i+1) om).1 h5;exact⟨⟨⟨om,om,h4⟩,h6⟩,h3,h7⟩
  ·rintro⟨⟨⟨h1,h2,h4⟩,h6⟩,h3,h7⟩;have Ab:i.toNat<o.length:=om
   have hv:=ho i.toNat o[i.toNat] (Gc Ab);have e:o.getD i.toNat 0=o[i.toNat]:=by simp[Gf,Gc Ab]
   rw[e]at h4;exact⟨⟨⟨⟨om,om⟩,h3⟩,by rw[e];exact h4⟩,(Yf ho hm l (i+1) om).2 ⟨h6,h7⟩⟩
theorem Jdj(ho:Xj o)(hm:o.length=m)(hf:∀k:Int,0<=k->k<m->fst k=o.getD k.toNat 0):∀(l:Lx) (e:Int),0<=e->e<=m->(JfL fst l e=(0,true)↔chain o m 0 l.reverse e)
 |[],e,_,_=>by simp only[JfL,List.reverse_nil,chain,Prod.mk.injEq,and_true];exact eq_comm
 |i::l,e,h0,h1=>by
  simp only[JfL,Gz,JbO];by_cases hc:i≠e-1\/i<0
  ·rw[if_pos hc];simp;omega
  ·rw[if_neg hc,hf i om om];have Ab:i.toNat<o.length:=om
   have hv:=ho i.toNat o[i.toNat] (Gc Ab);have e:o.getD i.toNat 0=o[i.toNat]:=by simp[Gf,Gc Ab]
   rw[Jdj ho hm hf l _ (by rw[e];omega) (by rw[e];omega)]
   constructor
   ·intro h;exact⟨h,om,om,om⟩
   ·rintro⟨h,_⟩;exact h
theorem items_eq(ho:Xj o)(hm:o.length=m)(hf:∀k:Int,0<=k->k<m->fst k=o.getD k.toNat 0)(l:Lx) :
  Y8 o isD m l 0=(decide (JfL fst l.reverse m=(0,true)) && l.all isD):=by
 refine XW ?_;rw[Yf ho hm l 0 om,Ga,decide_eq_true_eq,Jdj ho hm hf l.reverse m om om,GI,GD]
end Go.Cm
namespace Go.Cm
variable {ks o:Lx}
abbrev fs (o:Lx)(i:Int):Int:=o.getD i.toNat 0
theorem JhM(ho:Xj o){i:Int}(h0:0<=i)(h1:i<o.length):0<=fs o i/\fs o i<=i:=by
 have Ab:i.toNat<o.length:=om
 have hv:=ho i.toNat o[i.toNat] (Gc Ab);have e:o.getD i.toNat 0=o[i.toNat]:=by simp[Gf,Gc Ab]
 rw[fs,e];omega
theorem JfB(ho:Xj o):∀(l:Lx) (a b:Int),a<o.length->-1<=a->XA o l a=some b->chain o o.length (b+1) l.reverse (a+1)
 |[],a,b,_,_,h=>by simp[XA]at h;subst h;simp[chain]
 |k::l,a,b,h1,h2,h=>by
  simp only[XA]at h
  split at h
  ·cases h
  ·rename_i hc;have hk:k=a:=om
   have hf:=JhM ho (i:=k) om om;unfold fs at hf;have ih:=JfB ho l _ b om om h;rw[Gz,JbO];rw[Gw]at ih;exact⟨ih,om,om,om⟩
section
variable{m:Nat}
theorem chain_le (ho:Xj o)(hm:o.length=m):∀(l:Lx) (a e:Int),chain o m a l e->a<=e
 |[],a,e,h=>by simp[chain]at h;omega
 |i::l,a,e,h=>by simp only[chain]at h;have hf:=JhM ho h.1.1 om;unfold fs at hf;have:=chain_le ho hm l _ e h.2;omega
theorem QT (ho:Xj o)(hm:o.length=m):∀(l:Lx) (a e:Int),chain o m a l e->∀i∈l,a<=fs o i/\0<=i/\i<e/\i<m
 |[],a,e,h,i,hi=>by simp at hi
 |x::l,a,e,h,i,hi=>by
  simp only[chain]at h;have hf:=JhM ho h.1.1 om;have hl:=chain_le ho hm l _ e h.2;rcases Gt.1 hi with rfl|hi
  ·unfold fs at hf|-;omega
  ·have:=QT ho hm l _ e h.2 i hi;unfold fs at hf;omega
theorem XE (ho:Xj o)(hm:o.length=m):∀(l:Lx) (a e x:Int),chain o m a l e->a<=x->x<e->∃i∈l,fs o i<=x/\x<=i
 |[],a,e,x,h,h1,h2=>by simp[chain]at h;omega
 |i::l,a,e,x,h,h1,h2=>by
  simp only[chain]at h;by_cases hx:x<=i
  ·exact⟨i,sM,by unfold fs;omega,hx⟩
  ·obtain⟨j,hj,h3⟩:=XE ho hm l _ e x h.2 om h2;exact⟨j,List.mem_cons_of_mem _ hj,h3⟩
theorem Jfu (ho:Xj o)(hm:o.length=m):∀(l:Lx) (a e x i j:Int),chain o m a l e->i∈l->j∈l->fs o i<=x->x<=i->fs o j<=x->x<=j->i=j
 |[],a,e,x,i,j,h,hi,_,_,_,_,_=>by simp at hi
 |k::l,a,e,x,i,j,h,hi,hj,h1,h2,h3,h4=>by
  simp only[chain]at h;rcases Gt.1 hi with hi|hi <;> rcases Gt.1 hj with hj|hj
  ·omega
  ·have:=QT ho hm l _ e h.2 j hj;omega
  ·have:=QT ho hm l _ e h.2 i hi;omega
  ·exact Jfu ho hm l _ e x i j h.2 hi hj h1 h2 h3 h4
end
structure Ordd (K:LU)(o:Lx):Prop where
 h:JB K []=some o
namespace Ordd
variable {K:LU}(t:Ordd K o)
include t
theorem ok:Xj o:=QU _ _ _ Xj.nil t.h
theorem len:o.length=K.length:=by have:=QQ _ _ _ t.h;simpa using this
theorem kids {j:Nat}(hj:K[j]? = some ks):chain o o.length (fs o j) ks j:=by
 obtain⟨f,h1,h2⟩:=JaO t.h hj;have Ab:=(Gi.1 hj).1;have:=JfB t.ok _ _ _ (by rw[t.len];omega) om h2;rw[GI,Gw,Gw]at this;have e:fs o j=f:=by rw[fs,Gd,Gf,h1];rfl
 rw[e];exact this
theorem rng {j:Int}(h0:0<=j)(h1:j<K.length):0<=fs o j/\fs o j<=j:=JhM t.ok h0 (by rw[t.len];exact h1)
theorem kid_rng {j:Nat}(hj:K[j]? = some ks){k:Int}(hk:k∈ks):fs o j<=fs o k/\0<=k/\k<j:=by have:=QT t.ok rfl _ _ _ (t.kids hj) k hk;omega
theorem nest:∀(j:Nat) (i:Int),j<K.length->0<=i->fs o j<=i->i<=j->fs o j<=fs o i:=by
 intro j
 induction j using Nat.strongRecOn with
 |_ j ih=>
  intro i hj h0 h1 h2;by_cases he:i=j
  ·subst he;omega
  ·have hK:K[j]? = some K[j]:=Gc hj;obtain⟨k,hk,h3,h4⟩:=XE t.ok rfl _ _ _ i (t.kids hK) h1 om;have hr:=t.kid_rng hK hk;have:=ih k.toNat om i om h0 (by rw[show ((k.toNat:Nat):Int)=k by omega];exact h3) om;rw[show ((k.toNat:Nat):Int)=k by omega]at this;omega
theorem parent_one {i j:Nat}{ls:Lx}(hi:K[i]? = some ks)(hj:K[j]? = some ls){k:Int}(h1:k∈ks)(h2:k∈ls):i=j:=by
 have key:∀{i j:Nat} {ks ls:Lx},K[i]? = some ks->K[j]? = some ls->k∈ks->k∈ls->¬i<j:=by
  intro i j ks ls hi hj h1 h2 Ab;have r1:=t.kid_rng hi h1;have r2:=t.kid_rng hj h2;have Ae:=(Gi.1 hi).1;have A8:=(Gi.1 hj).1;have iK:=t.rng (j:=i) om om;have aJ:=t.rng (j:=k) om om;have AQ:fs o j<=i:=om
  obtain⟨q,hq,h3,h4⟩:=XE t.ok rfl _ _ _ i (t.kids hj) AQ om;have rq:=t.kid_rng hj hq;have hn:=t.nest q.toNat i om om (by rw[show ((q.toNat:Nat):Int)=q by omega];exact h3) om;rw[show ((q.toNat:Nat):Int)=q by omega]at hn;have:=Jfu t.ok rfl _ _ _ k q k (t.kids hj) hq h2 om om om om;omega
 rcases Nat.lt_trichotomy i j with h|h|h
 ·exact absurd h (key hi hj h1 h2)
 ·exact h
 ·exact absurd h (key hj hi h2 h1)
end Ordd
end Go.Cm
section
open Go.RowKit
namespace Go.Cm
def noNG (P:Program):Bool:=P.funcs.toList.all λfn=>fn.name != "runtime.NumGoroutine"
section
variable {P:Program}{E:Env}{H:Lv}{m:Bk}{w w':World}
theorem Sim.grown (hs:Sim E m H w)(BP:w.heap.size<=w'.heap.size)(IU:∀B,B<w.heap.size->w'.heap[B]? = w.heap[B]?):Sim E m H w':=by
 refine⟨hs.len,λk o x hk hx=>?_,λB i v hv=>(cell?_congr (IU _ (Jgp hs hv))).trans (hs.imm B i v hv),hs.one,hs.sep,hs.ro,λk s b hk=>?_,hs.extsep,λB hB=>Nat.lt_of_lt_of_le (hs.extlt B hB) BP,hs.gl.1.mono λB hB=>IU B (hs.gl.1.lt hB),hs.gl.2⟩
 ·by_cases Am:o.alive=true
  ·exact KO (KZ.refl _) (KJ.refl _) (λ_=>IU _ (Yq hs hk Am hx)) (hs.obj k o x hk hx)
  ·cases o <;> simp[CObj.alive]at Am <;> trivial
 ·exact E.stable _ _ _ _ _ _ _ (hs.ext k s b hk) (λB hB=>IU B (hs.extlt B hB)) BP (KJ.refl _) (λB i v h=>.inl h) (λB i v hv=>(cell?_congr (IU _ (Jgp hs hv))).trans (hs.imm B i v hv)) hs.one
theorem Ext.grown {n0:Nat}(BP:w.heap.size<=w'.heap.size)(IU:∀B,B<w.heap.size->w'.heap[B]? = w.heap[B]?)(AL:w'.os=w.os/\w'.output=w.output/\w'.tape=w.tape):Ext n0 m H w m H w' where
 size:=BP
 frame B hB _:=IU B hB
 imm:=KJ.refl _
 newOwn B h:=.inl h
 newImm B i v h:=.inl h
 base _ _ _ h:=h
 long h:=h
 same:=AL
theorem K6 {f:Nat}{args:Lu}{v:CV}(h:∀(m:Bk) (w:World) (vs:LJ),Sim E m H w->J7 m.own m.imm args vs.toList->∃r,Calls P f vs w (λe w'=>e=.returned r/\Below w.heap.size w w')/\rel m.own m.imm v r):CallsC P E f args H λv' H'=>v'=v/\H'=H:=by intro m w vs hs hv;obtain⟨r,hc,hr⟩:=h m w vs hs hv;refine⟨trivial,λcs _=>?_⟩;obtain⟨e,w',fr,⟨rfl,hb⟩,Al,hl⟩:=hc cs;exact⟨_,w',fr,⟨r,m,v,H,rfl,Ext.grown hb.size hb.block ⟨hb.os,hb.output,hb.tape⟩,hs.grown hb.size hb.block,hr,rfl,rfl⟩,(show StepsIn _ _ _ _ from Jg7 Al),hl⟩
end
end Go.Cm
end
section
open Go.Proofs
namespace Go.Cm
variable {x:Int}{l:Lx}{i k m:Nat}{P:Program}
theorem Jm:Tryz.prog.follows .mixedOrders=true:=kR
theorem pNames:noNG Tryz.prog=true:=kR
theorem inr64(h1 : -9223372036854775808<=x)(h2:x<=9223372036854775807):InR .i64 x:=⟨h1,h2⟩
theorem Jg(h1:-9223372036854775808<=x:=by omega)(h2:x<=9223372036854775807:=by omega):InR .i64 x:=inr64 h1 h2
abbrev S (l:LA):CV:=.str ⟨⟨l⟩⟩
theorem S_size (l:LA):(⟨⟨l⟩⟩:ByteArray).size=l.length:=rfl
theorem S_ext (l:LA)(a b:Nat):(⟨⟨l⟩⟩:ByteArray).extract a b=⟨⟨(l.take b).drop a⟩⟩:=by apply ByteArray.ext;rw[ByteArray.data_extract];apply Array.ext';simp[List.extract_eq_take_drop,List.drop_take]
theorem A_size (l:LA):(⟨l⟩:Array UInt8).size=l.length:=rfl
theorem binS_eql (l m:LA):binS .eql ⟨⟨l⟩⟩ ⟨⟨m⟩⟩=some (.tt,.bool (l == m)):=by simp[binS]
theorem binS_neq (l m:LA):binS .neq ⟨⟨l⟩⟩ ⟨⟨m⟩⟩=some (.tt,.bool (!(l == m))):=by simp[binS]
theorem A_getD (l:LA)(n:Nat):(⟨l⟩:Array UInt8).getD n 0=l.getD n 0:=by simp[Array.getD_eq_getD_getElem?,Gf]
theorem N_pred (n:Nat):((n:Int)-1).toNat=n-1:=om
theorem binS_add (l m:LA):binS .add ⟨⟨l⟩⟩ ⟨⟨m⟩⟩=some (.ile ((l.length+m.length:Nat):Int) 9223372036854775807,.str ⟨⟨l++m⟩⟩):=by
 have:(⟨⟨l⟩⟩:ByteArray)++⟨⟨m⟩⟩=⟨⟨l++m⟩⟩:=by apply ByteArray.ext;simp
 simp only[binS,this];rfl
attribute [go_sem] S_size A_size S_ext binS_eql binS_neq A_getD N_pred binS_add
def iz (l:Lx):LQ:=l.map λi=>[.int .i64 i]
theorem Jf:(iz l).length=l.length:=by simp[iz]
theorem JF(h:i<l.length):(iz l).getD i []=[.int .i64 (l.getD i 0)]:=by simp[iz,Gf,Gc h]
theorem Qp:iz (l++[x])=iz l++[[.int .i64 x]]:=by simp[iz]
theorem Jh:∀(l:Lx),Jq (iz l)=true
 |[]=>rfl
 |x::l=>by simp[iz,Jq,Jk,CV.closed];exact Jh l
structure Nd where
 k:Nat
 text:LA
 n:Int
 kids:Lx
 pl:Int
 deriving Inhabited
abbrev LF:=List Nd
structure Tr where
 nodes:LF
 items:Lx
 deriving Inhabited
def Nd.cv (x:Nd):Lu:=[.int .u8 x.k,S x.text,.int .i64 x.n,.rslc 1 (iz x.kids) none,.int .i64 x.pl]
def ndz (l:LF):LQ:=l.map Nd.cv
def Tr.row (t:Tr):Lu:=[.rslc 5 (ndz t.nodes) none,.rslc 1 (iz t.items) none]
def Tr.cv (t:Tr):CV:=.agg t.row
theorem Nd.closed (x:Nd):Jk x.cv=true:=rfl
theorem Nd.len (x:Nd):x.cv.length=5:=rfl
theorem Nd.one (x:Nd):Xk x.cv=true:=rfl
theorem Ja {l:LF}:(ndz l).length=l.length:=by simp[ndz]
theorem QE {l:LF}(h:i<l.length):(ndz l).getD i []=(l.getD i default).cv:=by simp[ndz,Gf,Gc h]
theorem Xh:∀(l:LF),Jq (ndz l)=true
 |[]=>rfl
 |x::l=>by simp only[ndz,List.map_cons,Jq,Nd.closed,Bool.true_and];exact Xh l
theorem Tr.closed (t:Tr):Jk t.row=true:=rfl
structure Nd.Fit (x:Nd):Prop where
 k:x.k<256
 text:x.text.length<=60
 n:InR .i64 x.n
 kidn:x.kids.length<=30
 kids:∀i∈x.kids,InR .i64 i
 pl:InR .i64 x.pl
structure Tr.Fit (t:Tr):Prop where
 many:t.nodes.length<=1400
 items:t.items.length<=40
 nodes:∀x∈t.nodes,x.Fit
 iz:∀i∈t.items,InR .i64 i
def Jw (l:LF)(k:Int):Nat:=(l.getD k.toNat default).k
def lets (l:LF)(x:Nd):LA:=x.kids.map λk=>JdR (Jw l k)
theorem KH {l:LF}{x:Nd}:(lets l x).length=x.kids.length:=by simp[lets]
theorem Jcz(h:noNG P=true) (f:Nat):(P.funcs[f]?.map (·.name))≠some "runtime.NumGoroutine" :=by
 intro e
 cases hf:P.funcs[f]? with
 |none=>rw[hf]at e;cases e
 |some fn=>rw[hf]at e;have h1:=GD.1 h fn (by simpa using Array.mem_of_getElem? hf);simp only[Option.map_some,Option.some.injEq]at e;rw[e]at h1;simp at h1
theorem kb(h:k≠m):((k:Int) == (m:Int))=false:=beq_eq_false_iff_ne.2 om
theorem kbo(h:¬k=m):((k:Int) == no_index (@OfNat.ofNat Int m _))=false:=kb h
theorem fn_of_rowT {f:Nat}{args:Lu}{z:Nat}{els:LQ}{x:CV}(h:CallsC P Env.none f args [] λv H'=>∃id,v=.tup [Qr id els,x]/\H'[id]? = some (Xm z els))(ha:Jk args=true)(hc:Jq els=true)(hx:x.closed=true):Fn P f args (.tup [.rslc z els none,x]):=by
 refine JhQ ?_ ha (by simp[CV.closed,Jk,hx]);intro m w vs hs hv;refine(h m w vs hs hv).mono ?_;rintro e w' ⟨r,m',v,H',h1,h2,h3,h4,id,rfl,g1⟩
 cases els with
 |nil=>refine⟨r,m',_,H',h1,h2,h3,?_,rfl⟩;simp only[rel,J7,Qr]at h4|-;obtain⟨vs',e1,r1,rs,e2,e3,e4⟩:=h4;exact⟨vs',e1,r1,rs,e2,.inl ⟨.inl trivial,trivial,none,e3⟩,e4⟩
 |cons e l=>obtain⟨imm',AB,he,hf⟩:=Sim.freeze (n0:=([]:Lv).length) h3 (by rw[g1];rfl) hc;refine⟨r,_,_,_,h1,h2.trans he,AB,hf _ _ h4,?_⟩;simp[frz,JK,Qr,X6 x hx]
theorem iM6(h1:-9223372036854775808<=x:=by omega)(h2:x<=9223372036854775807:=by omega):InR .i64 x:=⟨h1,h2⟩
end Go.Cm
end
end
