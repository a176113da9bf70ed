/-
  A part of the proof. Conditions: none.
-/
import Derived.Test.YthbifneaknlfgaaGreatDoorJP6
import Derived.Lib.Join
import Derived.Lib.ItoaLen
import Derived.Test.YthbifneaknlfgaaGreatDoorJA6
import Derived.Test.YthbifneaknlfgaaGreatDoorJP3
import Derived.Test.YthbifneaknlfgaaGreatDoorJS1
import Derived.Test.YthbifneaknlfgaaGreatDoorJA3
import Derived.Test.YthbifneaknlfgaaGreatDoorJP12
set_option linter.unusedSimpArgs false
set_option linter.unusedVariables false
open Bool renaming and_eq_true→Gf
open List renaming length_cons→Ga,length_append→Gc,length_nil→Gb,getD_eq_getElem?_getD→Gd,getElem?_eq_getElem→Gg,length_map→Gi,map_cons→Gh,sum_cons→Gj,getElem_mem→Gm,mem_of_mem_take→Gn,eq_nil_of_length_eq_zero→Gq,mem_of_mem_drop→Gr,mem_of_getElem?→Gs,getElem?_drop→Gt,getElem?_map→Gu,flatten_cons→Gv,append_assoc→Gw,take_length→Gx,length_take→Gy,length_drop→Gz,drop_take→GA,map_nil→GD
open Nat renaming le_trans→Gl,mul_le_mul_right→Gp,zero_add→GG
noncomputable section
section
set_option maxRecDepth 100000
open Go.Proofs
namespace Go.Cm
def rnk (k:Nat):Int:=if k=4 then 0 else if k=5 then 1 else if k=6 then 2 else if k=19 then 3 else if 7≤k∧k≤12 then 4 else if k=13∨k=14 then 5 else if 15≤k∧k≤17 then 6 else if k=20 then 7 else if k=18 then 8 else 9
def sgn (k:Nat):List UInt8:=if k=4 then [58,58] else if k=5 then [111,114] else if k=6 then [97,110,100] else if k=7 then [61,61] else if k=8 then [33,61] else if k=9 then [60] else if k=10 then [60,61] else if k=11 then [62] else if k=12 then [62,61] else if k=13 then [43] else if k=14 then [45] else if k=15 then [42] else if k=16 then [47] else [37]
def lft (k:Nat):Int:=if k=4 then 1 else if 7≤k∧k≤12 then 5 else rnk k
def rgt (k:Nat):Int:=if k=4 then 0 else rnk k+1
def wrd (k:Nat):List UInt8:=if k=21 then [104,101,97,100] else if k=22 then [116,97,105,108] else if k=23 then [101,109,112,116,121] else if k=24 then [115,105,122,101] else [110,105,108]
def KF (e:List UInt8) (ts:List (List UInt8)):List UInt8:=(ts.map (· ++ e)).flatten
def opx (kd:Int→Nat) (T:Int→List UInt8) (k r:Int):List UInt8:=if rnk (kd k) < r then [40]++T k++[41] else T k
def kid (x:Nd) (i:Nat):Int:=x.kids.getD i 0
def Jt (kd:Int→Nat) (T:Int→List UInt8) (x:Nd):List UInt8:=
 if x.k=1 then Lib.itoa x.n
 else if x.k=2 then (if x.n=1 then [116,114,117,101] else [102,97,108,115,101])
 else if x.k=3 then x.text
 else if 4≤x.k∧x.k≤17 then opx kd T (kid x 0) (lft x.k)++[32]++sgn x.k++[32]++opx kd T (kid x 1) (rgt x.k)
 else if x.k=18 then opx kd T (kid x 0) 8++[91]++T (kid x 1)++[93]
 else if x.k=19 then [110,111,116,32]++opx kd T (kid x 0) 3
 else if x.k=20 then [45]++opx kd T (kid x 0) 7
 else if 21≤x.k∧x.k≤25 then wrd x.k++[40]++T (kid x 0)++[41]
 else if x.k=26 then x.text++[40]++Lib.join (x.kids.map T) [44,32]++[41]
 else if x.k=27 then [105,102,32]++T (kid x 0)++[32]++T (kid x 1)++[32,101,108,115,101,32]++T (kid x 2)
 else if x.k=28 then [108,111,111,112,40]++Lib.join ((x.kids.take x.n.toNat).map T) [44,32]++[41,32,119,104,105,108,101,32]++T (kid x x.n.toNat)++[32,100,111,32,123,32]++KF [59,32] (((x.kids.take (x.kids.length-1)).drop (x.n.toNat+1)).map T)++[125,32]++T (kid x (x.kids.length-1))
 else if x.k=29 then [97,114,114,97,121,40]++T (kid x 0)++(if 0 < x.n then [44,32]++Lib.itoa x.n else [])++[41,32,123,32]++Lib.join ((x.kids.drop 1).map T) [59,32]++[32,125]
 else if x.k=40 then [123,32]++KF [59,32] ((x.kids.take x.n.toNat).map T)++[103,105,118,101,32]++Lib.join ((x.kids.drop x.n.toNat).map T) [44,32]++[32,125]
 else if x.k=41 then Lib.join ((x.kids.take x.n.toNat).map T) [44,32]++[32,61,32]++T (kid x x.n.toNat)
 else if x.k=42 then (if x.kids=[] then x.text else x.text++[58,32]++T (kid x 0))
 else if x.k=43 then x.text++[32,58,61,32]++T (kid x 0)
 else if x.k=44 then [110,101,120,116,32]++x.text++[32,61,32]++T (kid x 0)
 else if x.k=45 then [103,105,118,101,40]++Lib.join (x.kids.map T) [44,32]++[41]
 else if x.k=46 then [91]++T (kid x 0)++[93,32,61,32]++T (kid x 1)
 else if x.k=47 then [91]++x.text++[32,105,110,32]++T (kid x 0)++[46,46]++T (kid x 1)++(if x.n≠1 then [32,98,121,32]++Lib.itoa x.n else [])++[93,32,61,32]++T (kid x 2)
 else if x.k=48 then (if x.text=[] then Lib.itoa x.n else if x.n=0 then x.text else x.text++[32,45,32]++Lib.itoa x.n)
 else if x.k=60 then [105,110,116]
 else if x.k=61 then [98,111,111,108]
 else if x.k=62 then [91]++T (kid x 0)++[93]
 else if x.k=63 then [115,116,114,101,97,109,32]++T (kid x 0)
 else if x.k=64 then x.text++[58,32]++T (kid x 0)
 else [100,101,102,32]++x.text++[40]++Lib.join ((x.kids.take x.n.toNat).map T) [44,32]++[41,32,45,62,32]++Lib.join (((x.kids.take (x.kids.length-1)).drop x.n.toNat).map T) [44,32]++[32]++T (kid x (x.kids.length-1))
def txtF (kd:Int→Nat) (xs:List Nd) (acc:List (List UInt8)):List (List UInt8):=xs.foldl (fun acc x=>acc++[Jt kd (fun k=>acc.getD k.toNat []) x]) acc
def txts (l:List Nd):List (List UInt8):=txtF (Jj l) l []
def Jh (l:List Nd) (k:Int):List UInt8:=(txts l).getD k.toNat []
structure Shp (x:Nd):Prop where
 kind:(1≤x.k∧x.k≤29)∨(40≤x.k∧x.k≤48)∨(60≤x.k∧x.k≤65)
 two:4≤x.k∧x.k≤18∨x.k=46→x.kids.length=2
 one:19≤x.k∧x.k≤25∨x.k=43∨x.k=44∨62≤x.k∧x.k≤64→x.kids.length=1
 three:x.k=27∨x.k=47→x.kids.length=3
 loop:x.k=28→1≤x.n∧x.n+2≤x.kids.length
 arr:x.k=29→1≤x.kids.length∧0≤x.n∧x.n≤100
 block:x.k=40→0≤x.n∧x.n≤x.kids.length
 set:x.k=41→1≤x.n∧x.n+1=x.kids.length
 bind:x.k=42→x.kids.length≤1
 span:x.k=47→1≤x.n∧x.n≤9
 bound:x.k=48→0≤x.n∧x.n≤100∧(x.text=[]∨x.text=[35])
 num:x.k=1→0≤x.n∧x.n≤1000000000
 boo:x.k=2→0≤x.n∧x.n≤1
 de:x.k=65→0≤x.n∧x.n+1≤x.kids.length
theorem X5 {hv:List UInt8}{a b:Int}{c:UInt8}(h:JL hv a b c=true):0≤a∧a≤b∧b≤hv.length:=by
 have:=J2.1 h
 exact ⟨this.1,this.2.1,this.2.2.1⟩
theorem shp_of {l:List Nd}{x:Nd}(h:ndI l x=true):Shp x:=by
 unfold ndI at h
 have hl:(lets l x).length=x.kids.length:=Jal
 have hk:letter x.k≠32:=by
  unfold JP at h
  simp only[Gf,Bool.not_eq_true',beq_eq_false_iff_ne]at h
  exact h.1.1.1.1
 rw[node_eq]at h
 generalize lets l x=hv at h hl
 simp only[JR,Gf]at h
 obtain ⟨⟨h1,h2⟩,h3⟩:=h
 have hkind:(1≤x.k∧x.k≤29)∨(40≤x.k∧x.k≤48)∨(60≤x.k∧x.k≤65):=by
  unfold letter at hk
  by_cases a1:1≤x.k∧x.k≤29
  ·exact .inl a1
  by_cases a2:40≤x.k∧x.k≤48
  ·exact .inr (.inl a2)
  by_cases a3:60≤x.k∧x.k≤65
  ·exact .inr (.inr a3)
  exfalso
  apply hk
  rw[if_neg a1,if_neg (by omega),if_neg (by omega),if_neg (by omega),if_neg (by omega),if_neg (by omega),if_neg (by omega),if_neg (by omega),if_neg (by omega),if_neg (by omega),if_neg (by omega),if_neg (by omega)]
 obtain ⟨k,text,n,kids,pl⟩:=x
 dsimp only at *
 have c2:4≤k∧k≤18∨k=46→hv.length=2:=by
  intro hh
  unfold Ky at h1
  rcases hh with hh | hh
  ·rw[if_neg (by omega),if_neg (by omega),if_neg (by omega),if_neg (by omega),if_neg (by omega),if_neg (by omega),if_neg (by omega),if_neg (by omega),if_neg (by omega),if_neg (by omega),if_neg (by omega),if_neg (by omega),if_neg (by omega)]at h1
   simp only[Gf,beq_iff_eq]at h1
   omega
  ·subst hh
   simp at h1
   omega
 have c1:19≤k∧k≤25∨k=43∨k=44∨62≤k∧k≤64→hv.length=1:=by
  intro hh
  unfold Ky at h1
  by_cases h25:k=25∨k=62∨k=63∨k=64
  ·rw[if_neg (by omega),if_pos h25]at h1
   simp only[Gf,beq_iff_eq]at h1
   omega
  ·rw[if_neg (by omega),if_neg h25,if_neg (by omega),if_pos (by omega)]at h1
   simp only[Gf,beq_iff_eq]at h1
   omega
 have c3:k=27∨k=47→hv.length=3:=by
  rintro (rfl | rfl) <;> simp[Ky]at h1 <;> omega
 refine ⟨hkind,fun hh=>hl▸c2 hh,fun hh=>hl▸c1 hh,fun hh=>hl▸c3 hh,?_,?_,?_,?_,?_,?_,?_,?_,?_,?_⟩
 ·rintro rfl
  dsimp only at *
  simp[Ky]at h1
  simp[Kz,inI]at h3
  have r1:=X5 h1.1.2
  have r2:=X5 h1.2
  omega
 ·rintro rfl
  dsimp only at *
  simp[Ky]at h1
  simp[Kz,inI]at h3
  omega
 ·rintro rfl
  dsimp only at *
  simp[Ky]at h1
  have r1:=X5 h1.1
  have r2:=X5 h1.2
  omega
 ·rintro rfl
  dsimp only at *
  simp[Ky]at h1
  simp[Kz,inI]at h3
  omega
 ·rintro rfl
  dsimp only at *
  simp[Ky]at h1
  omega
 ·rintro rfl
  dsimp only at *
  simp[Kz,inI]at h3
  omega
 ·rintro rfl
  dsimp only at *
  simp[Kz,inI]at h3
  simp[KZ]at h2
  exact ⟨h3.1,h3.2,h2.1⟩
 ·rintro rfl
  dsimp only at *
  simp[KZ,inI]at h2
  omega
 ·rintro rfl
  dsimp only at *
  simp[KZ,inI]at h2
  omega
 ·rintro rfl
  dsimp only at *
  simp[Ky]at h1
  have r1:=X5 h1.1.1
  have r2:=X5 h1.1.2
  omega
theorem txtF_pre {kd:Int→Nat}:∀ (xs:List Nd) (acc:List (List UInt8)),∃ t,txtF kd xs acc=acc++t
 |[],acc=>⟨[],by simp[txtF]⟩
 |x::xs,acc=>by
  obtain ⟨t,ht⟩:=txtF_pre xs (acc++[Jt kd (fun k=>acc.getD k.toNat []) x])
  refine ⟨[Jt kd (fun k=>acc.getD k.toNat []) x]++t,?_⟩
  show txtF kd xs _=_
  rw[ht,Gw]
theorem txtF_get {kd:Int→Nat}:∀ (xs:List Nd) (acc:List (List UInt8)) (i:Nat) (x:Nd),xs[i]? = some x→(txtF kd xs acc)[acc.length+i]? = some (Jt kd (fun k=>((txtF kd xs acc).take (acc.length+i)).getD k.toNat []) x)
 |[],acc,i,x,h=>by simp at h
 |y::xs,acc,0,x,h=>by
  have h:y=x:=by simpa using h
  subst h
  obtain ⟨X,hX⟩:∃ X,X=Jt kd (fun k=>acc.getD k.toNat []) y:=⟨_,rfl⟩
  have hT:txtF kd (y::xs) acc=txtF kd xs (acc++[X]):=by rw[hX]; rfl
  obtain ⟨t,ht⟩:=txtF_pre (kd:=kd) xs (acc++[X])
  have e1:(acc++[X]++t).take (acc.length+0)=acc:=by simp
  rw[hT,ht,e1,← hX,Gw,List.getElem?_append_right (by omega)]
  simp
 |y::xs,acc,i+1,x,h=>by
  have:=txtF_get (kd:=kd) xs (acc++[Jt kd (fun k=>acc.getD k.toNat []) y]) i x (by simpa using h)
  simp only[Gc,Ga,Gb]at this
  rw[show acc.length+(0+1)+i=acc.length+(i+1) by omega]at this
  exact this
theorem JaP {x:Nd}{i:Nat}(h:i < x.kids.length):kid x i∈x.kids:=by
 rw[kid,Gd,Gg h]
 exact Gm h
theorem map_eq {T T':Int→List UInt8}{l:List Int}(h:∀ k∈l,T k=T' k):l.map T=l.map T':=List.map_congr_left h
theorem txtOne_congr {kd:Int→Nat}{T T':Int→List UInt8}{x:Nd}(s:Shp x) (h:∀ k∈x.kids,T k=T' k):Jt kd T x=Jt kd T' x:=by
 have hk:∀ i,i < x.kids.length→T (kid x i)=T' (kid x i):=fun i hi=>h _ (JaP hi)
 have ho:∀ i r,i < x.kids.length→opx kd T (kid x i) r=opx kd T' (kid x i) r:=fun i r hi=>by rw[opx,opx,hk i hi]
 have e0:x.kids.map T=x.kids.map T':=map_eq h
 have e1:∀ n,(x.kids.take n).map T=(x.kids.take n).map T':=fun n=>map_eq fun k hk=>h k (Gn hk)
 have e2:∀ n,(x.kids.drop n).map T=(x.kids.drop n).map T':=fun n=>map_eq fun k hk=>h k (Gr hk)
 have e3:∀ n m,((x.kids.take m).drop n).map T=((x.kids.take m).drop n).map T':=fun n m=>map_eq fun k hk=>h k (Gn (Gr hk))
 have s2:=s.two; have s1:=s.one; have s3:=s.three; have sl:=s.loop; have sa:=s.arr; have ss:=s.set; have sd:=s.de; have sk:=s.kind
 unfold Jt
 by_cases q0:x.k=1
 ·rw[if_pos q0,if_pos q0]
 rw[if_neg q0,if_neg q0]
 by_cases q1:x.k=2
 ·rw[if_pos q1,if_pos q1]
 rw[if_neg q1,if_neg q1]
 by_cases q2:x.k=3
 ·rw[if_pos q2,if_pos q2]
 rw[if_neg q2,if_neg q2]
 by_cases q3:4≤x.k∧x.k≤17
 ·rw[if_pos q3,if_pos q3]
  rw[ho 0 _ (by omega),ho 1 _ (by omega)]
 rw[if_neg q3,if_neg q3]
 by_cases q4:x.k=18
 ·rw[if_pos q4,if_pos q4]
  rw[ho 0 _ (by omega),hk 1 (by omega)]
 rw[if_neg q4,if_neg q4]
 by_cases q5:x.k=19
 ·rw[if_pos q5,if_pos q5]
  rw[ho 0 _ (by omega)]
 rw[if_neg q5,if_neg q5]
 by_cases q6:x.k=20
 ·rw[if_pos q6,if_pos q6]
  rw[ho 0 _ (by omega)]
 rw[if_neg q6,if_neg q6]
 by_cases q7:21≤x.k∧x.k≤25
 ·rw[if_pos q7,if_pos q7]
  rw[hk 0 (by omega)]
 rw[if_neg q7,if_neg q7]
 by_cases q8:x.k=26
 ·rw[if_pos q8,if_pos q8]
  rw[e0]
 rw[if_neg q8,if_neg q8]
 by_cases q9:x.k=27
 ·rw[if_pos q9,if_pos q9]
  rw[hk 0 (by omega),hk 1 (by omega),hk 2 (by omega)]
 rw[if_neg q9,if_neg q9]
 by_cases q10:x.k=28
 ·rw[if_pos q10,if_pos q10]
  rw[e1,hk _ (by omega),e3,hk _ (by omega)]
 rw[if_neg q10,if_neg q10]
 by_cases q11:x.k=29
 ·rw[if_pos q11,if_pos q11]
  rw[hk 0 (by omega),e2]
 rw[if_neg q11,if_neg q11]
 by_cases q12:x.k=40
 ·rw[if_pos q12,if_pos q12]
  rw[e1,e2]
 rw[if_neg q12,if_neg q12]
 by_cases q13:x.k=41
 ·rw[if_pos q13,if_pos q13]
  rw[e1,hk _ (by omega)]
 rw[if_neg q13,if_neg q13]
 by_cases q14:x.k=42
 ·rw[if_pos q14,if_pos q14]
  split
  ·rfl
  ·rename_i hne
   have:x.kids.length≠0:=fun e=>hne (Gq e)
   rw[hk 0 (by omega)]
 rw[if_neg q14,if_neg q14]
 by_cases q15:x.k=43
 ·rw[if_pos q15,if_pos q15]
  rw[hk 0 (by omega)]
 rw[if_neg q15,if_neg q15]
 by_cases q16:x.k=44
 ·rw[if_pos q16,if_pos q16]
  rw[hk 0 (by omega)]
 rw[if_neg q16,if_neg q16]
 by_cases q17:x.k=45
 ·rw[if_pos q17,if_pos q17]
  rw[e0]
 rw[if_neg q17,if_neg q17]
 by_cases q18:x.k=46
 ·rw[if_pos q18,if_pos q18]
  rw[hk 0 (by omega),hk 1 (by omega)]
 rw[if_neg q18,if_neg q18]
 by_cases q19:x.k=47
 ·rw[if_pos q19,if_pos q19]
  rw[hk 0 (by omega),hk 1 (by omega),hk 2 (by omega)]
 rw[if_neg q19,if_neg q19]
 by_cases q20:x.k=48
 ·rw[if_pos q20,if_pos q20]
 rw[if_neg q20,if_neg q20]
 by_cases q21:x.k=60
 ·rw[if_pos q21,if_pos q21]
 rw[if_neg q21,if_neg q21]
 by_cases q22:x.k=61
 ·rw[if_pos q22,if_pos q22]
 rw[if_neg q22,if_neg q22]
 by_cases q23:x.k=62
 ·rw[if_pos q23,if_pos q23]
  rw[hk 0 (by omega)]
 rw[if_neg q23,if_neg q23]
 by_cases q24:x.k=63
 ·rw[if_pos q24,if_pos q24]
  rw[hk 0 (by omega)]
 rw[if_neg q24,if_neg q24]
 by_cases q25:x.k=64
 ·rw[if_pos q25,if_pos q25]
  rw[hk 0 (by omega)]
 rw[if_neg q25,if_neg q25]
 rw[e1,e3,hk _ (by omega)]
theorem GoodT.shp {t:Tr}{o:List Int}(g:GoodT t o) {i:Nat}(hi:i < t.nodes.length):Shp (t.nodes.getD i default):=
 shp_of (g.nds _ (by rw[Gd,Gg hi]; exact Gm hi))
theorem GoodT.txt {t:Tr}{o:List Int}(g:GoodT t o) {i:Nat}(hi:i < t.nodes.length):Jh t.nodes (i:Int)=Jt (Jj t.nodes) (Jh t.nodes) (t.nodes.getD i default):=by
 have h:=txtF_get (kd:=Jj t.nodes) t.nodes [] i (t.nodes.getD i default) (by rw[Gd,Gg hi]; rfl)
 simp only[Gb,GG]at h
 have e:Jh t.nodes (i:Int)=Jt (Jj t.nodes) (fun k=>((txtF (Jj t.nodes) t.nodes []).take i).getD k.toNat []) (t.nodes.getD i default):=by
  unfold Jh txts
  rw[Int.toNat_natCast,Gd,h]
  rfl
 rw[e]
 refine txtOne_congr (g.shp hi) fun k hk=>?_
 have:=g.kid hi hk
 unfold Jh txts
 rw[Gd,Gd,List.getElem?_take,if_pos (by omega)]
def XZ (T:Int→List UInt8) (l:List Int):Nat:=(l.map fun k=>(T k).length+4).sum
theorem sumL_app {T:Int→List UInt8}(a b:List Int):XZ T (a++b)=XZ T a+XZ T b:=by simp[XZ]
theorem YF {T:Int→List UInt8}(l:List Int) (n:Nat):XZ T (l.take n)+XZ T (l.drop n)=XZ T l:=by
 rw[← sumL_app,List.take_append_drop]
theorem Jae {T:Int→List UInt8}{l:List Int}{i:Nat}(h:i < l.length):XZ T l=XZ T (l.take i)+((T (l.getD i 0)).length+4)+XZ T (l.drop (i+1)):=by
 have e:=YF (T:=T) l i
 rw[List.drop_eq_getElem_cons h]at e
 have e2:XZ T (l[i]::l.drop (i+1))=(T l[i]).length+4+XZ T (l.drop (i+1)):=by
  unfold XZ
  rw[Gh,Gj]
 rw[e2]at e
 rw[Gd,Gg h]
 simp only[Option.getD_some]
 omega
theorem lens_map {T:Int→List UInt8}(l:List Int):Lib.lens (l.map T)+4*l.length=XZ T l:=by
 induction l with
 |nil=>rfl
 |cons k l ih=>
  simp only[Lib.lens,XZ,Gh,Gj,Ga]at ih ⊢
  omega
theorem Je1 {T:Int→List UInt8}(l:List Int) (a b:UInt8):(Lib.join (l.map T) [a,b]).length≤XZ T l:=by
 have:=lens_map (T:=T) l
 cases l with
 |nil=>simp[Lib.join_nil]
 |cons k l=>
  rw[Gh,Lib.join_cons,Gc,Lib.joinTail_length]
  simp only[Lib.lens,Gh,Gj,Ga,Gb,Gi]at this ⊢
  omega
theorem each_len {T:Int→List UInt8}(l:List Int) (a b:UInt8):(KF [a,b] (l.map T)).length≤XZ T l:=by
 induction l with
 |nil=>simp[KF]
 |cons k l ih=>
  simp only[KF,XZ,Gh,Gv,Gc,Ga,Gb,Gj]at ih ⊢
  omega
theorem opx_len {kd:Int→Nat}{T:Int→List UInt8}(k r:Int):(opx kd T k r).length≤(T k).length+4:=by
 unfold opx
 split
 ·simp only[Gc,Ga,Gb]; omega
 ·omega
theorem one_len {T:Int→List UInt8}{x:Nd}(i:Nat) (h:i < x.kids.length):(T (kid x i)).length+4≤XZ T x.kids:=by
 have:=Jae (T:=T) h
 unfold kid
 omega
theorem two_len {T:Int→List UInt8}{x:Nd}(h:x.kids.length=2):(T (kid x 0)).length+(T (kid x 1)).length+8=XZ T x.kids:=by
 match hk:x.kids,h with
 |[a,b],_=>simp[kid,hk,XZ]; omega
theorem three_len {T:Int→List UInt8}{x:Nd}(h:x.kids.length=3):(T (kid x 0)).length+(T (kid x 1)).length+(T (kid x 2)).length+12=XZ T x.kids:=by
 match hk:x.kids,h with
 |[a,b,c],_=>simp[kid,hk,XZ]; omega
theorem sgn_len (k:Nat):(sgn k).length≤3:=by
 unfold sgn
 by_cases h4:k=4; · rw[if_pos h4]; decide
 rw[if_neg h4]
 by_cases h5:k=5; · rw[if_pos h5]; decide
 rw[if_neg h5]
 by_cases h6:k=6; · rw[if_pos h6]; decide
 rw[if_neg h6]
 by_cases h7:k=7; · rw[if_pos h7]; decide
 rw[if_neg h7]
 by_cases h8:k=8; · rw[if_pos h8]; decide
 rw[if_neg h8]
 by_cases h9:k=9; · rw[if_pos h9]; decide
 rw[if_neg h9]
 by_cases h10:k=10; · rw[if_pos h10]; decide
 rw[if_neg h10]
 by_cases h11:k=11; · rw[if_pos h11]; decide
 rw[if_neg h11]
 by_cases h12:k=12; · rw[if_pos h12]; decide
 rw[if_neg h12]
 by_cases h13:k=13; · rw[if_pos h13]; decide
 rw[if_neg h13]
 by_cases h14:k=14; · rw[if_pos h14]; decide
 rw[if_neg h14]
 by_cases h15:k=15; · rw[if_pos h15]; decide
 rw[if_neg h15]
 by_cases h16:k=16; · rw[if_pos h16]; decide
 rw[if_neg h16]; decide
theorem wrd_len (k:Nat):(wrd k).length≤5:=by
 unfold wrd
 by_cases h4:k=21; · rw[if_pos h4]; decide
 rw[if_neg h4]
 by_cases h5:k=22; · rw[if_pos h5]; decide
 rw[if_neg h5]
 by_cases h6:k=23; · rw[if_pos h6]; decide
 rw[if_neg h6]
 by_cases h7:k=24; · rw[if_pos h7]; decide
 rw[if_neg h7]; decide
theorem txtOne_len {kd:Int→Nat}{T:Int→List UInt8}{x:Nd}(s:Shp x) (ht:x.text.length≤60) (hn:InR .i64 x.n):(Jt kd T x).length≤150+XZ T x.kids:=by
 have hi:=Lib.itoa_length_le x.n hn.1 hn.2
 have s2:=s.two; have s1:=s.one; have s3:=s.three; have sl:=s.loop; have sa:=s.arr; have ss:=s.set; have sd:=s.de; have sk:=s.kind
 have hw:(wrd x.k).length≤5:=wrd_len _
 have hs:(sgn x.k).length≤3:=sgn_len _
 have o0:=fun r=>opx_len (kd:=kd) (T:=T) (kid x 0) r
 have o1:=fun r=>opx_len (kd:=kd) (T:=T) (kid x 1) r
 have k0:=one_len (T:=T) (x:=x) 0
 have j0:=fun l=>Je1 (T:=T) l 44 32
 have j1:=fun l=>Je1 (T:=T) l 59 32
 have ee:=fun l=>each_len (T:=T) l 59 32
 unfold Jt
 by_cases q0:x.k=1
 ·rw[if_pos q0]
  omega
 rw[if_neg q0]
 by_cases q1:x.k=2
 ·rw[if_pos q1]
  split <;> simp <;> omega
 rw[if_neg q1]
 by_cases q2:x.k=3
 ·rw[if_pos q2]
  omega
 rw[if_neg q2]
 by_cases q3:4≤x.k∧x.k≤17
 ·rw[if_pos q3]
  have:=two_len (T:=T) (s2 (by omega))
  have a0:=o0 (lft x.k); have a1:=o1 (rgt x.k)
  simp only[Gc,Ga,Gb]
  omega
 rw[if_neg q3]
 by_cases q4:x.k=18
 ·rw[if_pos q4]
  have:=two_len (T:=T) (s2 (by omega))
  have a0:=o0 8
  simp only[Gc,Ga,Gb]
  omega
 rw[if_neg q4]
 by_cases q5:x.k=19
 ·rw[if_pos q5]
  have a0:=o0 3; have:=k0 (by omega)
  simp only[Gc,Ga,Gb]
  omega
 rw[if_neg q5]
 by_cases q6:x.k=20
 ·rw[if_pos q6]
  have a0:=o0 7; have:=k0 (by omega)
  simp only[Gc,Ga,Gb]
  omega
 rw[if_neg q6]
 by_cases q7:21≤x.k∧x.k≤25
 ·rw[if_pos q7]
  have:=k0 (by omega)
  simp only[Gc,Ga,Gb]
  omega
 rw[if_neg q7]
 by_cases q8:x.k=26
 ·rw[if_pos q8]
  have:=j0 x.kids
  simp only[Gc,Ga,Gb]
  omega
 rw[if_neg q8]
 by_cases q9:x.k=27
 ·rw[if_pos q9]
  have:=three_len (T:=T) (s3 (by omega))
  simp only[Gc,Ga,Gb]
  omega
 rw[if_neg q9]
 by_cases q10:x.k=28
 ·rw[if_pos q10]
  have sl:=sl q10
  have a1:=j0 (x.kids.take x.n.toNat)
  have a2:=ee ((x.kids.take (x.kids.length-1)).drop (x.n.toNat+1))
  have b1:=Jae (T:=T) (l:=x.kids) (i:=x.n.toNat) (by omega)
  have b2:=Jae (T:=T) (l:=x.kids.drop (x.n.toNat+1)) (i:=x.kids.length-1-(x.n.toNat+1)) (by rw[Gz]; omega)
  rw[Gd,Gt,show x.n.toNat+1+(x.kids.length-1-(x.n.toNat+1))=x.kids.length-1 by omega,← Gd,← GA]at b2
  simp only[Gc,Ga,Gb,kid]
  omega
 rw[if_neg q10]
 by_cases q11:x.k=29
 ·rw[if_pos q11]
  have sa:=sa q11
  have a1:=j1 (x.kids.drop 1)
  have b1:=Jae (T:=T) (l:=x.kids) (i:=0) (by omega)
  simp only[GG]at b1
  split <;> simp only[Gc,Ga,Gb,kid] <;> omega
 rw[if_neg q11]
 by_cases q12:x.k=40
 ·rw[if_pos q12]
  have a1:=ee (x.kids.take x.n.toNat)
  have a2:=j0 (x.kids.drop x.n.toNat)
  have:=YF (T:=T) x.kids x.n.toNat
  simp only[Gc,Ga,Gb]
  omega
 rw[if_neg q12]
 by_cases q13:x.k=41
 ·rw[if_pos q13]
  have ss:=ss q13
  have a1:=j0 (x.kids.take x.n.toNat)
  have b1:=Jae (T:=T) (l:=x.kids) (i:=x.n.toNat) (by omega)
  simp only[Gc,Ga,Gb,kid]
  omega
 rw[if_neg q13]
 by_cases q14:x.k=42
 ·rw[if_pos q14]
  split
  ·omega
  ·rename_i hne
   have:x.kids.length≠0:=fun e=>hne (Gq e)
   have:=k0 (by omega)
   simp only[Gc,Ga,Gb]
   omega
 rw[if_neg q14]
 by_cases q15:x.k=43
 ·rw[if_pos q15]
  have:=k0 (by omega)
  simp only[Gc,Ga,Gb]
  omega
 rw[if_neg q15]
 by_cases q16:x.k=44
 ·rw[if_pos q16]
  have:=k0 (by omega)
  simp only[Gc,Ga,Gb]
  omega
 rw[if_neg q16]
 by_cases q17:x.k=45
 ·rw[if_pos q17]
  have:=j0 x.kids
  simp only[Gc,Ga,Gb]
  omega
 rw[if_neg q17]
 by_cases q18:x.k=46
 ·rw[if_pos q18]
  have:=two_len (T:=T) (s2 (by omega))
  simp only[Gc,Ga,Gb]
  omega
 rw[if_neg q18]
 by_cases q19:x.k=47
 ·rw[if_pos q19]
  have:=three_len (T:=T) (s3 (by omega))
  split <;> simp only[Gc,Ga,Gb] <;> omega
 rw[if_neg q19]
 by_cases q20:x.k=48
 ·rw[if_pos q20]
  split
  ·omega
  ·split
   ·omega
   ·simp only[Gc,Ga,Gb]; omega
 rw[if_neg q20]
 by_cases q21:x.k=60
 ·rw[if_pos q21]
  simp only[Ga,Gb]; omega
 rw[if_neg q21]
 by_cases q22:x.k=61
 ·rw[if_pos q22]
  simp only[Ga,Gb]; omega
 rw[if_neg q22]
 by_cases q23:x.k=62
 ·rw[if_pos q23]
  have:=k0 (by omega)
  simp only[Gc,Ga,Gb]
  omega
 rw[if_neg q23]
 by_cases q24:x.k=63
 ·rw[if_pos q24]
  have:=k0 (by omega)
  simp only[Gc,Ga,Gb]
  omega
 rw[if_neg q24]
 by_cases q25:x.k=64
 ·rw[if_pos q25]
  have:=k0 (by omega)
  simp only[Gc,Ga,Gb]
  omega
 rw[if_neg q25]
 ·have h65:x.k=65:=by clear hw hs o0 o1 k0 j0 j1 ee; omega
  have sd:=sd h65
  have a1:=j0 (x.kids.take x.n.toNat)
  have a2:=j0 ((x.kids.take (x.kids.length-1)).drop x.n.toNat)
  have b1:=YF (T:=T) x.kids x.n.toNat
  have b2:=Jae (T:=T) (l:=x.kids.drop x.n.toNat) (i:=x.kids.length-1-x.n.toNat) (by rw[Gz]; omega)
  rw[Gd,Gt,show x.n.toNat+(x.kids.length-1-x.n.toNat)=x.kids.length-1 by omega,← Gd,← GA]at b2
  simp only[Gc,Ga,Gb,kid]
  omega
theorem chain_sum {o:List Int}{m:Nat}(ho:Ql o) (hm:o.length=m) {T:Int→List UInt8}:∀ (l:List Int) (a e:Int),chain o m a l e→(∀ i∈l,((T i).length:Int)≤300*(i-fs o i+1))→(XZ T l:Int)≤300*(e-a)+4*l.length
 |[],a,e,h,_=>by
  simp only[chain]at h
  subst h
  simp[XZ]
 |i::l,a,e,h,hl=>by
  simp only[chain]at h
  have h1:=hl i (by simp)
  have h2:=chain_sum ho hm l (i+1) e h.2 fun j hj=>hl j (by simp[hj])
  have e1:XZ T (i::l)=(T i).length+4+XZ T l:=by simp[XZ]
  have h3:fs o i=a:=h.1.2.2
  rw[e1]
  simp only[Ga]
  omega
theorem GoodT.txt_len {t:Tr}{o:List Int}(g:GoodT t o) (ht:t.Fit):∀ (i:Nat),i < t.nodes.length→((Jh t.nodes (i:Int)).length:Int)≤300*((i:Int)-fs o i+1):=by
 intro i
 induction i using Nat.strongRecOn with
 |ind i ih=>
  intro hi
  rw[g.txt hi]
  have hx:=ht.nodes _ (Gm hi)
  rw[← rowg hi]at hx
  have h1:=txtOne_len (kd:=Jj t.nodes) (T:=Jh t.nodes) (g.shp hi) hx.text hx.n
  have hc:=g.ord.kids (J5 hi)
  have h2:=chain_sum g.ord.ok rfl (T:=Jh t.nodes) _ _ _ hc fun k hk=>by
   have hr:=g.kid hi hk
   have:=ih k.toNat (by omega) (by omega)
   rw[Int.toNat_of_nonneg hr.1]at this
   exact this
  have:=hx.kidn
  omega
theorem GoodT.txt_le {t:Tr}{o:List Int}(g:GoodT t o) (ht:t.Fit) {k:Int}(h0:0≤k) (h1:k < t.nodes.length):(Jh t.nodes k).length≤300000:=by
 have:=g.txt_len ht k.toNat (by omega)
 rw[Int.toNat_of_nonneg h0]at this
 have hr:=g.ord.rng h0 (by rw[KA]; exact h1)
 have:=g.many
 omega
end Go.Cm
end
section
open Go.Shelf Go.RowKit Go.Proofs
namespace Go.Cm
theorem Jem {e:List UInt8}{ts:List (List UInt8)}{j:Nat}{s:List UInt8}(h:ts[j]? = some s):KF e (ts.take (j+1))=KF e (ts.take j)++(s++e):=by
 rw[List.take_add_one,h]
 simp[KF]
theorem Jdt {e:List UInt8}{b:Nat}:∀ (ts:List (List UInt8)),(∀ t∈ts,t.length≤b)→(KF e ts).length≤ts.length*(b+e.length)
 |[],_=>by simp[KF]
 |t::ts,h=>by
  have:=Jdt (e:=e) ts fun x hx=>h x (by simp[hx])
  have h2:=h t (by simp)
  simp only[KF,Gh,Gv,Gc,Ga,Nat.add_mul,Nat.one_mul]at this ⊢
  omega
theorem eachL_le {e:List UInt8}{b j:Nat}{ts:List (List UInt8)}(h:∀ t∈ts,t.length≤b):(KF e (ts.take j)).length≤ts.length*(b+e.length):=
 Gl (Jdt (ts.take j) fun t ht=>h t (Gn ht)) (Gp _ (by rw[Gy]; omega))
end Go.Cm
namespace Go.Proofs
theorem Tryz.pLays166:Lays.n166 Tryz.prog Tryz.lays156_ren:={ Tryz.lays156 with }
theorem Tryz.WriteString (B b:Nat) (bs:List Value) (s:ByteArray) (w:World) (h:Lib.IsBuilder 72 5 B b bs w) (hlen:bs.length+s.size≤140737488355328) (hBw:B≤w.heap.size) :
  Calls Tryz.prog 37 #[.pointer (some ⟨b,0,none⟩),.string s] w fun e w'=>e=.returned (.tuple #[.int .i64 s.size,.nilIface])∧(Lib.BuilderAt 72 5 B b (.pointer (some ⟨b,0,none⟩)) (bs++Lib.strCells s) w'∧Below B w w'):=
 Any.Builder_WriteString Tryz.pLays166 Tryz.Builder_Extra_156 B b bs s w h hlen hBw
structure BelowX (p B:Nat) (w w':World):Prop where
 os:w'.os=w.os
 tape:w'.tape=w.tape
 output:w'.output=w.output
 size:w.heap.size≤w'.heap.size
 block:∀ k,k < B→k≠p→w'.heap[k]? = w.heap[k]?
theorem BelowX.of {p B:Nat}{a w:World}(h:Below B a w):BelowX p B a w:=⟨h.os,h.tape,h.output,h.size,fun k hk _=>h.block k hk⟩
theorem BelowX.trans {p B:Nat}{a b c:World}(h:BelowX p B a b) (k:BelowX p B b c):BelowX p B a c:=
 ⟨k.os.trans h.os,k.tape.trans h.tape,k.output.trans h.output,Gl h.size k.size,fun i hi hp=>(k.block i hi hp).trans (h.block i hi hp)⟩
theorem BelowX.mono {p B B':Nat}{w w':World}(h:BelowX p B w w') (hB:B'≤B):BelowX p B' w w':=⟨h.os,h.tape,h.output,h.size,fun k hk=>h.block k (Nat.lt_of_lt_of_le hk hB)⟩
theorem BelowX.cell {p B:Nat}{a w:World}(h:BelowX p B a w) {x:Addr}(hx:x.block < B) (hp:x.block≠p):w.cell? x=a.cell? x:=by
 simp only[World.cell?,h.block x.block hx hp]
theorem BelowX.grown {p:Nat}{a w:World}(h:BelowX p a.heap.size a w):a.grownBy w (some p):=⟨h.os,h.tape,h.output,h.size,fun k hk hp=>h.block k hk fun e=>hp (by rw[e])⟩
theorem Tryz.bat_belowX {T e:TypeId}{B b p:Nat}{q:Value}{bs:List Value}{W W':World}(h:Lib.BuilderAt T e B b q bs W) (hp:p < B) (hb:BelowX p W.heap.size W W'):Lib.BuilderAt T e B b q bs W':=by
 obtain ⟨hB,v,hv,hown,hne⟩:=h
 have hlt:b < W.heap.size:=(Array.getElem?_eq_some_iff.1 hv).1
 refine ⟨hB,v,(hb.block b hlt (by omega)).trans hv,hown.kept (row:=some p) hb.grown ?_,hne⟩
 rcases hown.2 with hn | ⟨g,cap,cur,rfl,hg,_⟩
 ·left; rw[hn.1]; rfl
 ·right; simp only[Value.ownBlock,ne_eq,Option.some.injEq]; omega
theorem Tryz.isb_belowX {T e:TypeId}{B b p:Nat}{bs:List Value}{W W':World}(h:Lib.IsBuilder T e B b bs W) (hp:p < B) (hb:BelowX p W.heap.size W W'):Lib.IsBuilder T e B b bs W':=
 h.elim (fun x=>.inl (Tryz.bat_belowX x hp hb)) (fun x=>.inr (Tryz.bat_belowX x hp hb))
open Go.Cm in
set_option maxHeartbeats 4000000 in
set_option maxRecDepth 100000 in
theorem Tryz.each_walk (p:Nat) (PM:World→Prop) (p0 p1 p2:Value) (kp:Option Addr) (kl kc:Nat) (ks:List Int) (ts:List (List UInt8)) (w:World) (hkl:ks.length=kl) (htl:ts.length=kl) (hbig:kl≤1000) (hts:∀ t∈ts,t.length≤1000000)
  (hp:p < w.heap.size) (hPw:PM w) (hPM:∀ W W',PM W→Below w.heap.size W W'→PM W')
  (hks:∀ (j:Nat) k,ks[j]? = some k→∃ bk ko,kp=some ⟨bk,ko,none⟩∧bk≠p∧w.cell? ⟨bk,ko+j,none⟩=some (.int .i64 k))
  (hsh:∀ (j:Nat) k s,ks[j]? = some k→ts[j]? = some s→∀ W,PM W→BelowX p w.heap.size w W→Calls Tryz.prog 38 #[.agg #[p0,p1,p2],.int .i64 k] W fun e W'=>e=.returned (.string ⟨⟨s⟩⟩)∧PM W'∧BelowX p W.heap.size W W') :
  Calls Tryz.prog 116 #[.agg #[p0,p1,p2],.slice kp kl kc] w fun e w'=>e=.returned (.string ⟨⟨KF [59,32] ts⟩⟩)∧PM w'∧BelowX p w.heap.size w w':=by
 have HK:Hid (∀ (j:Nat) k,ks[j]? = some k→∃ bk ko,kp=some ⟨bk,ko,none⟩∧bk≠p∧w.cell? ⟨bk,ko+j,none⟩=some (.int .i64 k)):=hks
 have HS:Hid (∀ (j:Nat) k s,ks[j]? = some k→ts[j]? = some s→∀ W,PM W→BelowX p w.heap.size w W→Calls Tryz.prog 38 #[.agg #[p0,p1,p2],.int .i64 k] W fun e W'=>e=.returned (.string ⟨⟨s⟩⟩)∧PM W'∧BelowX p W.heap.size W W'):=hsh
 have HT:Hid (∀ t∈ts,t.length≤1000000):=hts
 have HP:Hid (∀ W W',PM W→Below w.heap.size W W'→PM W'):=hPM
 clear hks hsh hts hPM
 go_enter Tryz.func116,Tryz.ntmps116
 go_wp2
 go_loopw [10] (fun v wr=>∃ j:Nat,j≤kl∧v=.int .i64 j∧Lib.IsBuilder 72 5 (w.heap.size+1) (w.heap.size+1) (Lib.byteCells (KF [59,32] (ts.take j))) wr∧wr.cell? ⟨w.heap.size,0,none⟩=some p0∧wr.cell? ⟨w.heap.size,1,none⟩=some p1∧wr.cell? ⟨w.heap.size,2,none⟩=some p2∧BelowX p w.heap.size w wr∧w.heap.size+1≤wr.heap.size∧PM wr) (fun i _=>kl-(intOf i).toNat)
 case atStart=>
  have hb:Below w.heap.size w ((w.alloc (.cells #[p0,p1,p2] 68)).alloc (.cells #[.pointer none,.slice none 0 0] 72)):=((Below.refl _ w).alloc (Nat.le_refl _) _).alloc (by simp) _
  refine ⟨0,Nat.zero_le _,rfl,?_,?_,?_,?_,?_,?_,?_⟩
  ·simpa [KF,Lib.byteCells]using Lib.fresh_isBuilder 72 5 (w.alloc (.cells #[p0,p1,p2] 68))
  ·simp[go_sem]
  ·simp[go_sem]
  ·simp[go_sem]
  ·exact BelowX.of hb
  ·simp
  ·exact HP.out _ _ hPw hb
 case round=>
  obtain ⟨j,hj,rfl,hI,hT0,hT1,hT2,hbw,hsz,hPr⟩:=hrel
  have HI:Hid (Lib.IsBuilder 72 5 (w.heap.size+1) (w.heap.size+1) (Lib.byteCells (KF [59,32] (ts.take j))) wr):=hI
  clear hI
  by_cases hlt:j < kl
  ·obtain ⟨k,hk⟩:∃ k,ks[j]? = some k:=⟨ks[j],Gg (by omega)⟩
   obtain ⟨s,hs⟩:∃ s,ts[j]? = some s:=⟨ts[j],Gg (by omega)⟩
   have hsl:=HT.out s (Gs hs)
   obtain ⟨bk,ko,rfl,hbp,h1⟩:=HK.out j k hk
   have h1':wr.cell? ⟨bk,ko+j,none⟩=some (.int .i64 k):=(hbw.cell (Tryz.cell_lt h1) hbp).trans h1
   clear h1
   have HS2:Hid (ts[j]? = some s):=hs
   have hcall:=HS.out j k s hk hs wr hPr hbw
   clear hk hs hPr
   go_wp2_with (go_at_call 38; refine hcall.mono ?_)
   rintro e W1 ⟨rfl,hP1,b1⟩
   have HI1:=HI.out
   have b2:=hbw.trans (b1.mono hbw.size)
   have HB:Hid (Lib.IsBuilder 72 5 (w.heap.size+1) (w.heap.size+1) (Lib.byteCells (KF [59,32] (ts.take j))) W1):=Tryz.isb_belowX HI1 (by omega) b1
   have hT0':W1.cell? ⟨w.heap.size,0,none⟩=some p0:=(b1.cell (by simp; omega) (by simp; omega)).trans hT0
   have hT1':W1.cell? ⟨w.heap.size,1,none⟩=some p1:=(b1.cell (by simp; omega) (by simp; omega)).trans hT1
   have hT2':W1.cell? ⟨w.heap.size,2,none⟩=some p2:=(b1.cell (by simp; omega) (by simp; omega)).trans hT2
   have hel:=eachL_le (e:=[59,32]) (j:=j) HT.out
   rw[htl]at hel
   have hmul:kl*(1000000+2)≤1000*(1000000+2):=Gp _ hbig
   simp only[Ga,Gb]at hel
   have hlen:(Lib.byteCells (KF [59,32] (ts.take j))).length+(⟨⟨s++[59,32]⟩⟩:ByteArray).size≤140737488355328:=by
    rw[Lib.byteCells_length]
    simp only[S_size,Gc,Ga,Gb]
    omega
   have hcat:(⟨⟨s⟩⟩:ByteArray)++⟨#[59,32]⟩=⟨⟨s++[59,32]⟩⟩:=by
    apply ByteArray.ext
    simp
   have hsz1:=Gl hsz b1.size
   have hss:(⟨⟨s⟩⟩:ByteArray).size=s.length:=rfl
   clear HI1
   go_wp2_with (go_at_call 37; rw[hcat])
   refine (Tryz.WriteString _ _ _ _ _ HB.out hlen hsz1).mono ?_
   rintro e W2 ⟨rfl,hB2,b3⟩
   have hT0'':W2.cell? ⟨w.heap.size,0,none⟩=some p0:=(b3.cell (by simp)).trans hT0'
   have hT1'':W2.cell? ⟨w.heap.size,1,none⟩=some p1:=(b3.cell (by simp)).trans hT1'
   have hT2'':W2.cell? ⟨w.heap.size,2,none⟩=some p2:=(b3.cell (by simp)).trans hT2'
   have HB2:Hid (Lib.IsBuilder 72 5 (w.heap.size+1) (w.heap.size+1) (Lib.byteCells (KF [59,32] (ts.take j))++Lib.strCells ⟨⟨s++[59,32]⟩⟩) W2):=Or.inr hB2
   have b5:Below w.heap.size W1 W2:=b3.mono (by omega)
   have b4:=b2.trans (BelowX.of b5)
   have hsz2:=Gl hsz1 b3.size
   have hP2:=HP.out _ _ hP1 b5
   clear hB2 b1 b2 b3 hP1 b5
   go_wp2
   go_roundw
   case rel=>
    refine ⟨j+1,by omega,by go_num,?_,hT0'',hT1'',hT2'',b4,hsz2,hP2⟩
    rw[Jem HS2.out,Lib.byteCells_append]
    exact HB2.out
   case measure=>
    simp[intOf]; omega
  ·have hjl:j=kl:=by omega
   subst hjl
   rw[List.take_of_length_le (by omega)]at HI
   go_wp2_with (go_at_call 40; refine (Tryz.BString _ _ _ _ HI.out hsz).mono ?_)
   rintro e W1 ⟨rfl,b1⟩
   have b5:Below w.heap.size wr W1:=b1.mono (by omega)
   have hP1:=HP.out _ _ hPr b5
   go_wp2
   go_ret
   exact ⟨rfl,hP1,hbw.trans (BelowX.of b5)⟩
end Go.Proofs
end
section
set_option maxRecDepth 100000
set_option maxHeartbeats 4000000
open Go.Proofs Go.RowKit
namespace Go.Cm
section
def opV (k:Nat):CV:=.agg [S (sgn k),.int .i64 (rnk k),.int .i64 (lft k),.int .i64 (rgt k)]
def J6:List (CV×CV):=[(.int .u8 4,opV 4),(.int .u8 5,opV 5),(.int .u8 6,opV 6),(.int .u8 7,opV 7),(.int .u8 8,opV 8),(.int .u8 9,opV 9),(.int .u8 10,opV 10),(.int .u8 11,opV 11),(.int .u8 12,opV 12),(.int .u8 13,opV 13),(.int .u8 14,opV 14),(.int .u8 15,opV 15),(.int .u8 16,opV 16),(.int .u8 17,opV 17)]
theorem XI:Xm J6=true:=rfl
theorem Xn (s:List UInt8):Fn Tryz.prog 78 [S s] (.agg [S s,.int .i64 4,.int .i64 5,.int .i64 5]):=by
 refine Jc c78_ok rfl rfl fun N=>?_
 simp -implicitDefEqProofs only[c78,go_sem]
theorem Jd3 (s:List UInt8):Fn Tryz.prog 79 [S s] (.agg [S s,.int .i64 5,.int .i64 5,.int .i64 6]):=by
 refine Jc c79_ok rfl rfl fun N=>?_
 simp -implicitDefEqProofs only[c79,go_sem]
theorem JbM (s:List UInt8):Fn Tryz.prog 80 [S s] (.agg [S s,.int .i64 6,.int .i64 6,.int .i64 7]):=by
 refine Jc c80_ok rfl rfl fun N=>?_
 simp -implicitDefEqProofs only[c80,go_sem]
theorem Jd2 {E:Env}{H:List CObj}:CallsC Tryz.prog E 36 [] H fun v H'=>v=.map H.length∧H'=H++[.map J6]:=by
 refine QW c36_ok fun N=>?_
 simp -implicitDefEqProofs only[c36,go_sem]
 refine JaE (.inl rfl) rfl c78_ok (QA Jl _) (Xn _) ?_
 simp -implicitDefEqProofs only[go_sem]
 refine JaE (.inl rfl) rfl c78_ok (QA Jl _) (Xn _) ?_
 simp -implicitDefEqProofs only[go_sem]
 refine JaE (.inl rfl) rfl c78_ok (QA Jl _) (Xn _) ?_
 simp -implicitDefEqProofs only[go_sem]
 refine JaE (.inl rfl) rfl c78_ok (QA Jl _) (Xn _) ?_
 simp -implicitDefEqProofs only[go_sem]
 refine JaE (.inl rfl) rfl c78_ok (QA Jl _) (Xn _) ?_
 simp -implicitDefEqProofs only[go_sem]
 refine JaE (.inl rfl) rfl c78_ok (QA Jl _) (Xn _) ?_
 simp -implicitDefEqProofs only[go_sem]
 refine JaE (.inl rfl) rfl c79_ok (QA Jl _) (Jd3 _) ?_
 simp -implicitDefEqProofs only[go_sem]
 refine JaE (.inl rfl) rfl c79_ok (QA Jl _) (Jd3 _) ?_
 simp -implicitDefEqProofs only[go_sem]
 refine JaE (.inl rfl) rfl c80_ok (QA Jl _) (JbM _) ?_
 simp -implicitDefEqProofs only[go_sem]
 refine JaE (.inl rfl) rfl c80_ok (QA Jl _) (JbM _) ?_
 simp -implicitDefEqProofs only[go_sem]
 refine JaE (.inl rfl) rfl c80_ok (QA Jl _) (JbM _) ?_
 simp -implicitDefEqProofs only[go_sem]
 rfl
theorem find_op:∀ k:Nat,4≤k→k≤17→∃ i,QP .int (.int .u8 k) J6 0=some (some (i,opV k))
 |4,_,_=>⟨0,rfl⟩ | 5,_,_=>⟨1,rfl⟩ | 6,_,_=>⟨2,rfl⟩ | 7,_,_=>⟨3,rfl⟩ | 8,_,_=>⟨4,rfl⟩ | 9,_,_=>⟨5,rfl⟩ | 10,_,_=>⟨6,rfl⟩
 |11,_,_=>⟨7,rfl⟩ | 12,_,_=>⟨8,rfl⟩ | 13,_,_=>⟨9,rfl⟩ | 14,_,_=>⟨10,rfl⟩ | 15,_,_=>⟨11,rfl⟩ | 16,_,_=>⟨12,rfl⟩ | 17,_,_=>⟨13,rfl⟩
 |0,h,_ | 1,h,_ | 2,h,_ | 3,h,_=>absurd h (by decide)
 |k+18,_,h=>absurd h (by omega)
theorem find_none (k:Nat) (h:¬ (4≤k∧k≤17)):QP .int (.int .u8 k) J6 0=some none:=by
 have hn:∀ m:Nat,4≤m→m≤17→((k:Int) == (m:Int))=false:=fun m h1 h2=>kb (by omega)
 have h4:=hn 4 (by decide) (by decide); have h5:=hn 5 (by decide) (by decide); have h6:=hn 6 (by decide) (by decide); have h7:=hn 7 (by decide) (by decide)
 have h8:=hn 8 (by decide) (by decide); have h9:=hn 9 (by decide) (by decide); have h10:=hn 10 (by decide) (by decide); have h11:=hn 11 (by decide) (by decide)
 have h12:=hn 12 (by decide) (by decide); have h13:=hn 13 (by decide) (by decide); have h14:=hn 14 (by decide) (by decide); have h15:=hn 15 (by decide) (by decide)
 have h16:=hn 16 (by decide) (by decide); have h17:=hn 17 (by decide) (by decide)
 simp only[QP,J6,Xv,if_true]
 simp only[show ((4:Nat):Int)=4 from rfl,show ((5:Nat):Int)=5 from rfl,show ((6:Nat):Int)=6 from rfl,show ((7:Nat):Int)=7 from rfl,show ((8:Nat):Int)=8 from rfl,show ((9:Nat):Int)=9 from rfl,show ((10:Nat):Int)=10 from rfl,show ((11:Nat):Int)=11 from rfl,show ((12:Nat):Int)=12 from rfl,show ((13:Nat):Int)=13 from rfl,show ((14:Nat):Int)=14 from rfl,show ((15:Nat):Int)=15 from rfl,show ((16:Nat):Int)=16 from rfl,show ((17:Nat):Int)=17 from rfl]at h4 h5 h6 h7 h8 h9 h10 h11 h12 h13 h14 h15 h16 h17
 simp only[h4,h5,h6,h7,h8,h9,h10,h11,h12,h13,h14,h15,h16,h17]
def prn (t:Tr) (id:Nat):CV:=.agg [.rslc 5 (ndz t.nodes) none,.rslc 1 (iz t.items) none,.map id]
theorem Jv (t:Tr) (rest:List CV) (hr:Js rest=true):Moves fun id=>prn t id::rest:=by
 intro own own' imm x id id' vs hx hx' h
 simp only[JC,prn,rel]at h ⊢
 obtain ⟨r,rs,rfl,⟨a,rfl,r1,rs1,e1,h1,r2,rs2,rfl,h2,r3,rs3,rfl,⟨y,hy,rfl⟩,rfl⟩,h3⟩:=h
 rw[hx]at hy
 obtain rfl:=Option.some.inj hy
 exact ⟨_,rs,rfl,⟨a,rfl,r1,_,e1,h1,r2,_,rfl,h2,_,_,rfl,⟨_,hx',rfl⟩,rfl⟩,J7 _ _ hr h3⟩
section
variable {P:Program}{E:Env}{n0:Nat}{N:Fr}{Q:Exit→List CV→List CObj→Prop}{H:List CObj}{T:List CV}{k:List KItem}{l:List IOper}{kvs:List (CV×CV)}{id:Nat}
theorem KN {d:Option Nat}{g:Option (Nat×Bool)}{f:Nat}{ags:List IArg}{al:Nat→List CV}{v:CV}(hid:H[id]? = some (.map kvs)) (hg:GOk T g) (hcall:FnM P kvs f al v) (ha:ags.map (JM T)=al id) (h:vdr P E n0 N Q k l (put T d v) H):vdrC P E n0 N Q k ⟨d,.call f ags,g⟩ l T H:=
 ⟨v,.inr ⟨hg,.inr (.inl ⟨f,ags,rfl,by rw[ha]; exact hcall E H id hid⟩)⟩,h⟩
end
theorem JcC {f:Nat}{F:IFunc}{al:Nat→List CV}{v:CV}(hF:Jd Tryz.prog f=some F) (ha:Moves al) (hv:v.closed=true) (h:∀ n,vrun0 Tryz.prog Env.none 1 ⟨n,false⟩ (retQ F.results fun v' H'=>v'=v∧H'[0]? = some (.map J6)) [.code F.body] (al 0++List.replicate (F.ntmps-(al 0).length) .un) [.map J6]):FnM Tryz.prog J6 f al v:=
 fnM_of (QW hF h) XI ha hv
theorem tightM (t:Tr) (k:Int) (h0:0≤k) (h1:k < t.nodes.length):FnM Tryz.prog J6 112 (fun id=>[prn t id,.int .i64 k]) (.int .i64 (rnk (Jj t.nodes k))):=by
 obtain ⟨i,rfl⟩:∃ i:Nat,k=(i:Int):=⟨k.toNat,by omega⟩
 have hlt:i < t.nodes.length:=by omega
 have hg:=Ka hlt
 have hk:Jj t.nodes (i:Int)=(t.nodes.getD i default).k:=by unfold Jj; rw[Int.toNat_natCast]
 rw[hk]
 generalize t.nodes.getD i default=x at hg
 refine JcC c112_ok (Jv t _ rfl) rfl fun N=>?_
 by_cases hop:4≤x.k∧x.k≤17
 ·obtain ⟨j,hf⟩:=find_op x.k hop.1 hop.2
  simp -implicitDefEqProofs only[c112,go_sem,prn,Ja,hg,Nd.cv,hf,opV]
  exact ⟨by omega,by omega⟩
 ·have hf:=find_none x.k hop
  simp -implicitDefEqProofs only[c112,go_sem,prn,Ja,hg,Nd.cv,hf,opV]
  have e19:∀ m:Nat,((x.k:Int) == (m:Int))=true→x.k=m:=fun m h=>by rw[beq_iff_eq]at h; omega
  have n19:∀ m:Nat,((x.k:Int) == (m:Int))=false→x.k≠m:=fun m h=>by rw[beq_eq_false_iff_ne]at h; omega
  refine ⟨⟨by omega,by omega⟩,fun h=>?_,fun h=>⟨fun h2=>?_,fun h2=>⟨fun h3=>?_,fun h3=>?_⟩⟩⟩
  ·rw[e19 19 h]; rfl
  ·rw[e19 20 h2]; rfl
  ·rw[e19 18 h3]; rfl
  ·have a1:=n19 19 h
   have a2:=n19 20 h2
   have a3:=n19 18 h3
   unfold rnk
   rw[if_neg (by omega),if_neg (by omega),if_neg (by omega),if_neg (by omega),if_neg (by omega),if_neg (by omega),if_neg (by omega),if_neg (by omega),if_neg (by omega)]
def KE (t:Tr) (k:Int):Prop:=FnM Tryz.prog J6 38 (fun id=>[prn t id,.int .i64 k]) (S (Jh t.nodes k))
theorem operandM (t:Tr) (k r:Int) (h0:0≤k) (h1:k < t.nodes.length) (hs:KE t k) (hl:(Jh t.nodes k).length≤1000000):FnM Tryz.prog J6 82 (fun id=>[prn t id,.int .i64 k,.int .i64 r]) (S (opx (Jj t.nodes) (Jh t.nodes) k r)):=by
 have ht:=tightM t k h0 h1
 refine JcC c82_ok (Jv t _ rfl) rfl fun N=>?_
 unfold KE at hs
 unfold opx
 generalize Jh t.nodes k=u at hs hl ⊢
 generalize rnk (Jj t.nodes k)=v at ht ⊢
 simp -implicitDefEqProofs only[c82,go_sem,prn]
 refine vr_fM rfl (.inl rfl) hs rfl ?_
 simp -implicitDefEqProofs only[go_sem,prn]
 refine vr_fM rfl (.inl rfl) ht rfl ?_
 by_cases hv:v < r
 ·have d1:(v < r)=True:=eq_true hv
  simp -implicitDefEqProofs only[go_sem,prn,d1,if_true]
  exact ⟨by omega,by omega⟩
 ·have d1:(v < r)=False:=eq_false hv
  simp -implicitDefEqProofs only[go_sem,prn,d1,if_false]
def JeH (l:List (List UInt8)):List (List CV):=l.map fun t=>[S t]
theorem strz_len {l:List (List UInt8)}:(JeH l).length=l.length:=by simp[JeH]
theorem JaF:∀ l:List (List UInt8),Jr (JeH l)=true
 |[]=>rfl
 |x::l=>by simp[JeH,Jr,Js,CV.closed]; exact JaF l
theorem fnJoin (ts:List (List UInt8)) (sep:List UInt8) (hn:ts.length≤1000000) (hlen:(Lib.join ts sep).length≤140737488355328):Fn Tryz.prog 140 [.rslc 1 (JeH ts) none,S sep] (S (Lib.join ts sep)):=by
 intro E H
 refine JG fun m w vs hs hv=>?_
 simp only[JC,rel]at hv
 obtain ⟨r,rs,e,hr,r2,rs2,rfl,rfl,rfl⟩:=hv
 have hvs:vs=#[r,.string ⟨⟨sep⟩⟩]:=by cases vs; simp_all
 subst hvs
 refine ⟨.string ⟨⟨Lib.join ts sep⟩⟩,?_,rfl⟩
 have hjm:(ts.map fun t=>(⟨⟨t⟩⟩:ByteArray)).map (·.data.toList)=ts:=by
  rw[List.map_map]; exact List.map_id'' (fun _=>rfl) _
 rcases hr with ⟨_,h0,b,rfl⟩ | ⟨B,o,c,rfl,hc,_,hels⟩
 ·have:ts=[]:=by
   cases ts with
   |nil=>rfl
   |cons a l=>simp[JeH]at h0
  subst this
  exact (Tryz.strings_Join_none b 0 ⟨⟨sep⟩⟩ w).mono fun e w' ⟨h1,h2⟩=>⟨h1,by rw[h2]; exact Below.refl _ _⟩
 ·rw[strz_len]at hc ⊢
  have hcells:∀ (j:Nat) x,(ts.map fun t=>(⟨⟨t⟩⟩:ByteArray))[j]? = some x→w.cell? ⟨B,o+j,none⟩=some (.string x):=by
   intro j x hj
   rw[Gu]at hj
   obtain ⟨u,hu,rfl⟩:=Option.map_eq_some_iff.1 hj
   obtain ⟨r,hr1,hr2⟩:=((J4 _ o).1 hels j [S u] (by simp[JeH,hu])).2 0 (S u) rfl
   simp only[rel]at hr2
   subst hr2
   have:=hs.imm _ _ _ hr1
   simpa using this
  cases ts with
  |nil=>
   exact (Tryz.strings_Join_none (some ⟨B,o,none⟩) c ⟨⟨sep⟩⟩ w).mono fun e w' ⟨h1,h2⟩=>⟨h1,by rw[h2]; exact Below.refl _ _⟩
  |cons u l=>
   have hB:B < w.heap.size:=World.block_lt_of_cell? w _ (hcells 0 ⟨⟨u⟩⟩ rfl)
   have:=Tryz.strings_Join B o c ((u::l).map fun t=>(⟨⟨t⟩⟩:ByteArray)) ⟨⟨sep⟩⟩ w hcells hB (by rw[Gi]; omega) (by rw[Gi]; exact hc) (by rw[hjm]; exact hlen)
   rw[hjm,Gi]at this
   exact this
theorem fnJoin0 (sep:List UInt8):Fn Tryz.prog 140 [.nils,S sep] (S []):=by
 intro E H
 refine JG fun m w vs hs hv=>?_
 simp only[JC,rel]at hv
 obtain ⟨r,rs,e,rfl,r2,rs2,rfl,rfl,rfl⟩:=hv
 have hvs:vs=#[.slice none 0 0,.string ⟨⟨sep⟩⟩]:=by cases vs; simp_all
 subst hvs
 exact ⟨_,(Tryz.strings_Join_none none 0 ⟨⟨sep⟩⟩ w).mono fun e w' ⟨h1,h2⟩=>⟨h1,by rw[h2]; exact Below.refl _ _⟩,rfl⟩
theorem allM (t:Tr) (ks:List Int) (sep:List UInt8) (hks:∀ k∈ks,KE t k) (hn:ks.length≤1000) (hlen:(Lib.join (ks.map (Jh t.nodes)) sep).length≤140737488355328):FnM Tryz.prog J6 115 (fun id=>[prn t id,.rslc 1 (iz ks) none,S sep]) (S (Lib.join (ks.map (Jh t.nodes)) sep)):=by
 have hil:(iz ks).length=ks.length:=Jn
 refine JcC c115_ok (Jv t _ rfl) rfl fun N=>?_
 simp -implicitDefEqProofs only[c115,go_sem,prn,hil]
 refine Ja9 ?_
 simp only[go_sem,List.cons_append,List.nil_append]
 refine KG (I:=fun i:Nat=>i≤ks.length) (inv:=fun i=>gp [(2,S sep),(0,.ptr 1 0 0),(3,KP 2 (JeH ((ks.take i).map (Jh t.nodes)))),(2,.rslc 1 (iz ks) none),(0,.int .i64 (ks.length:Int)),(0,.int .i64 (i:Int))] 13) (hp:=fun i=>[.map J6,.arr 3 [[.rslc 5 (ndz t.nodes) none,.rslc 1 (iz t.items) none,.map 0]],Xb 1 (JeH ((ks.take i).map (Jh t.nodes)))]) (μ:=fun i=>ks.length-i) 0 [0,1,2] (by omega) rfl ?_ rfl ?_
 ·simp[forget,J8,ren,JH,gp,JeH,Q3]
 ·intro i hi
  by_cases hlt:i < ks.length
  ·have d1:((i:Int) < (ks.length:Int))=True:=eq_true (by omega)
   have hgi:=Kb hlt
   have hmem:ks.getD i 0∈ks:=by
    rw[Gd,Gg hlt]; exact Gm hlt
   have hs:=hks _ hmem
   have hts:JeH ((ks.take (i+1)).map (Jh t.nodes))=JeH ((ks.take i).map (Jh t.nodes))++[[S (Jh t.nodes (ks.getD i 0))]]:=by
    rw[Kw (d:=0) hlt,List.map_append]; simp[JeH]
   have hcl:=JaF ((ks.take (i+1)).map (Jh t.nodes))
   have hpl:(JeH ((ks.take i).map (Jh t.nodes))).length=i:=by rw[strz_len,Gi,Gy]; omega
   unfold KE at hs
   generalize JeH ((ks.take i).map (Jh t.nodes))=Z at hts hpl ⊢
   generalize ks.getD i 0=k at hgi hts hs
   generalize Jh t.nodes k=u at hs hts
   simp -implicitDefEqProofs only[go_sem,hil,d1,hgi,prn]
   refine ⟨by omega,?_⟩
   refine vr_fM rfl (.inl rfl) hs rfl ?_
   simp -implicitDefEqProofs only[go_sem,Jo]
   refine ⟨by omega,Jm (by omega) (by omega),i+1,[0,1,4],by omega,by omega,rfl,?_,?_⟩
   ·rw[hts]at hcl
    have hc:=Je (ρ:=[0,1,4]) hcl
    rw[hts,Kh]
    simp only[QH,Gh,GD,go_sem,JB,hc]
    rfl
   ·rw[hts,Kn]
    simp[forget,J8,ren,JH]
  ·have hie:i=ks.length:=by omega
   subst hie
   have d1:((ks.length:Int) < (ks.length:Int))=False:=eq_false (by omega)
   rw[Gx]
   have hJ:=fnJoin (ks.map (Jh t.nodes)) sep (by rw[Gi]; omega) hlen
   have hcl:=JaF (ks.map (Jh t.nodes))
   have hnl:ks=[]∨JeH (ks.map (Jh t.nodes))≠[]:=by cases ks with
    |nil=>exact .inl rfl
    |cons a l=>exact .inr (by simp[JeH])
   rcases hnl with rfl | hne
   ·simp -implicitDefEqProofs only[go_sem,d1,GD,JeH,Q3]
    refine JZ (fnJoin0 sep) ?_
    simp -implicitDefEqProofs only[go_sem,Lib.join_nil]
   ·generalize Lib.join (ks.map (Jh t.nodes)) sep=R at hJ ⊢
    generalize JeH (ks.map (Jh t.nodes))=Z at hJ hcl hne ⊢
    rw[QL hne,Ko hne]
    simp -implicitDefEqProofs only[go_sem,d1]
    refine Jk (id:=2) (z:=1) (els:=Z) rfl hcl ?_
    simp only[go_sem,Kt,KR,frz,Qo,List.drop_zero,Gx]
    refine JZ hJ ?_
    simp -implicitDefEqProofs only[go_sem]
    rfl
mutual
def XD:CV→Bool
 |.bool _=>true
 |.int _ _=>true
 |.str _=>true
 |.agg l=>flatL l
 |_=>false
def flatL:List CV→Bool
 |[]=>true
 |c::l=>XD c && flatL l
end
mutual
theorem Jfa {own own':List Own}{imm imm':Nat→Nat→Option Value}:∀ (c:CV) (v:Value),XD c=true→rel own imm c v→rel own' imm' c v
 |.un,_,h,_=>by simp[XD]at h
 |.bool _,_,_,h=>by simp only[rel]at h ⊢; exact h
 |.int _ _,_,_,h=>by simp only[rel]at h ⊢; exact h
 |.str _,_,_,h=>by simp only[rel]at h ⊢; exact h
 |.nilp,_,h,_=>by simp[XD]at h
 |.ptr _ _ _,_,h,_=>by simp[XD]at h
 |.rptr _,_,h,_=>by simp[XD]at h
 |.nils,_,h,_=>by simp[XD]at h
 |.slc _ _ _ _,_,h,_=>by simp[XD]at h
 |.rslc _ _ _,_,h,_=>by simp[XD]at h
 |.nilm,_,h,_=>by simp[XD]at h
 |.map _,_,h,_=>by simp[XD]at h
 |.fn _ _ _,_,h,_=>by simp[XD]at h
 |.yld _,_,h,_=>by simp[XD]at h
 |.nilf,_,h,_=>by simp[XD]at h
 |.iface _ _,_,h,_=>by simp[XD]at h
 |.nili,_,h,_=>by simp[XD]at h
 |.agg l,_,hf,h=>by
  simp only[XD]at hf
  simp only[rel]at h ⊢
  obtain ⟨vs,e,h1⟩:=h
  exact ⟨vs,e,flat_rels l _ hf h1⟩
 |.tup l,_,h,_=>by simp[XD]at h
theorem flat_rels {own own':List Own}{imm imm':Nat→Nat→Option Value}:∀ (l:List CV) (vs:List Value),flatL l=true→JC own imm l vs→JC own' imm' l vs
 |[],_,_,h=>by simp only[JC]at h ⊢; exact h
 |c::cs,_,hf,h=>by
  simp only[flatL,Gf]at hf
  simp only[JC]at h ⊢
  obtain ⟨r,rs,e,h1,h2⟩:=h
  exact ⟨r,rs,e,Jfa c _ hf.1 h1,flat_rels cs _ hf.2 h2⟩
end
def Jb8:List (CV×CV)→Bool
 |[]=>true
 |p::l=>XD p.1 && (XD p.2 && Jb8 l)
theorem Jeg:∀ {l:List (CV×CV)},Jb8 l=true→∀ (i:Nat) k v,l[i]? = some (k,v)→XD k=true∧XD v=true
 |[],_,i,k,v,h=>by simp at h
 |p::l,hc,0,k,v,h=>by
  simp only[Jb8,Gf]at hc
  simp at h; subst h
  exact ⟨hc.1,hc.2.1⟩
 |p::l,hc,i+1,k,v,h=>by
  simp only[Jb8,Gf]at hc
  exact Jeg hc.2.2 i k v (by simpa using h)
theorem map_flat {own own':List Own}{imm imm':Nat→Nat→Option Value}{x:Own}{kvs:List (CV×CV)}{w:World}(hc:Jb8 kvs=true) (h:Xr own imm x (.map kvs) w):Xr own' imm' x (.map kvs) w:=by
 obtain ⟨es,clock,h1,h2,h3⟩:=h
 refine ⟨es,clock,h1,h2,fun i k v e hk he=>?_⟩
 obtain ⟨c1,c2⟩:=Jeg hc i k v hk
 exact ⟨Jfa _ _ c1 (h3 i k v e hk he).1,Jfa _ _ c2 (h3 i k v e hk he).2⟩
theorem JbL:Jb8 J6=true:=rfl
section
variable {m:Bk}{w w' W W':World}{x:Own}{kvs:List (CV×CV)}
theorem Sim.again (hs:Sim Env.none { own:=[x],imm:=m.imm,ext:=fun _=>False } [.map kvs] w) (hW:Sim Env.none { own:=[x],imm:=m.imm,ext:=fun _=>False } [.map kvs] W) (hb:Below w.heap.size W W'):Sim Env.none { own:=[x],imm:=m.imm,ext:=fun _=>False } [.map kvs] W' where
 len:=rfl
 obj k o y hk hy:=by
  cases k with
  |zero=>
   simp at hk hy
   subst hk hy
   exact JW (J9.refl _) (JY.refl _) (fun _=>hb.block _ (Qx hs (k:=0) rfl rfl rfl)) (hW.obj 0 _ x rfl rfl)
  |succ k=>simp at hk
 imm B i v hv:=(cell?_congr (hb.block _ (X6 hs hv))).trans (hW.imm B i v hv)
 one:=hs.one
 sep:=hs.sep
 ro:=hs.ro
 ext k s b hk:=by
  cases k with
  |zero=>simp at hk
  |succ k=>simp at hk
 extsep:=hs.extsep
 extlt B h:=hW.gl.1.mono (fun B hB=>hb.block B (hs.gl.1.lt hB)) |>.lt (h.resolve_left fun h=>h)
 gl:=⟨hW.gl.1.mono fun B hB=>hb.block B (hs.gl.1.lt hB),fun B h=>h.elim⟩
theorem Sim.shrink {m':Bk}{H':List CObj}(hc:Jb8 kvs=true) (hs:Sim Env.none { own:=[x],imm:=m.imm,ext:=fun _=>False } [.map kvs] W) (hext:Ext 1 { own:=[x],imm:=m.imm,ext:=fun _=>False } [.map kvs] W m' H' W') (hs':Sim Env.none m' H' W') (h0:H'[0]? = some (.map kvs)):Sim Env.none { own:=[x],imm:=m.imm,ext:=fun _=>False } [.map kvs] W' where
 len:=rfl
 obj k o y hk hy:=by
  cases k with
  |zero=>
   simp at hk hy
   subst hk hy
   exact map_flat hc (hs'.obj 0 _ x h0 (hext.base 0 x (by omega) rfl))
  |succ k=>simp at hk
 imm B i v hv:=hs'.imm B i v (hext.imm B i v hv)
 one:=hs.one
 sep:=hs.sep
 ro:=hs.ro
 ext k s b hk:=by
  cases k with
  |zero=>simp at hk
  |succ k=>simp at hk
 extsep:=hs.extsep
 extlt B h:=hs'.gl.1.lt (h.resolve_left fun h=>h)
 gl:=⟨hs'.gl.1,fun B h=>h.elim⟩
theorem BelowX.ofExt {m':Bk}{H':List CObj}(hext:Ext 1 { own:=[x],imm:=m.imm,ext:=fun _=>False } [.map kvs] W m' H' W'):BelowX x.B W.heap.size W W':=by
 refine ⟨hext.same.1,hext.same.2.2,hext.same.2.1,hext.size,fun k hk hp=>hext.frame k hk ?_⟩
 rintro (h | ⟨j,o,y,hj,_,hy,rfl⟩)
 ·exact h
 ·cases j with
  |zero=>simp at hy; exact hp (by rw[hy])
  |succ j=>simp at hy
theorem BelowX.ext (h:BelowX x.B w.heap.size w w'):Ext 1 { own:=[x],imm:=m.imm,ext:=fun _=>False } [.map kvs] w { own:=[x],imm:=m.imm,ext:=fun _=>False } [.map kvs] w' where
 size:=h.size
 frame B hB hn:=h.block B hB fun e=>hn (.inr ⟨0,_,x,rfl,rfl,rfl,e.symm⟩)
 imm:=JY.refl _
 newOwn B h:=.inl h
 newImm B i v h:=.inl h
 base _ _ _ h:=h
 long h:=h
 same:=⟨h.os,h.output,h.tape⟩
end
theorem calls_M {kvs:List (CV×CV)}{f:Nat}{al:Nat→List CV}{s:List UInt8}{m:Bk}{x:Own}{W:World}{vs:Array Value}(hc:Jb8 kvs=true) (h:FnM Tryz.prog kvs f al (S s)) (hs:Sim Env.none { own:=[x],imm:=m.imm,ext:=fun _=>False } [.map kvs] W) (hv:JC [x] m.imm (al 0) vs.toList) :
  Calls Tryz.prog f vs W fun e W'=>e=.returned (.string ⟨⟨s⟩⟩)∧Sim Env.none { own:=[x],imm:=m.imm,ext:=fun _=>False } [.map kvs] W'∧BelowX x.B W.heap.size W W':=by
 refine ((h Env.none [.map kvs] 0 rfl _ W vs hs hv).calls fun k=>JaI none k).mono ?_
 rintro e W' ⟨r,m',v,H',rfl,hext,hs',hrel,rfl,rfl⟩
 simp only[rel]at hrel
 subst hrel
 exact ⟨rfl,hs.shrink hc hext hs' rfl,BelowX.ofExt hext⟩
theorem map_cell {w:World}{B i:Nat}{es:Array MapEntry}{c:Nat}{v:Value}(h:w.heap[B]? = some (.map es c)) (hc:w.cell? ⟨B,i,none⟩=some v):False:=by
 simp[World.cell?,h]at hc
theorem eachM (t:Tr) (ks:List Int) (hks:∀ k∈ks,KE t k) (hn:ks.length≤1000) (hl:∀ k∈ks,(Jh t.nodes k).length≤1000000):FnM Tryz.prog J6 116 (fun id=>[prn t id,.rslc 1 (iz ks) none]) (S (KF [59,32] (ks.map (Jh t.nodes)))):=by
 refine fnM_of ?_ XI (Jv t _ rfl) rfl
 intro m w vs hs hv
 obtain ⟨x,hx⟩:∃ x,m.own[0]? = some x:=⟨_,Gg (by rw[hs.len]; exact Nat.zero_lt_one)⟩
 have hs0:=hs.only (id:=0) rfl hx XI
 have hxB:x.B < w.heap.size:=Qx hs0 (k:=0) rfl rfl rfl
 have hmap:=hs0.obj 0 _ x rfl rfl
 have hmv:=Jv t [.rslc 1 (iz ks) none] rfl m.own [x] m.imm x 0 0 vs.toList hx rfl hv
 simp only[JC,prn,rel]at hmv
 obtain ⟨_,_,e0,⟨a,rfl,p0,_,e1,h1,p1,_,rfl,h2,_,_,rfl,⟨y,hy,rfl⟩,rfl⟩,r2,_,rfl,hk,rfl⟩:=hmv
 simp only[List.getElem?_cons_zero,Option.some.injEq]at hy
 subst hy
 have hvs:vs=#[.agg a,r2]:=by cases vs; simp_all
 have ha:a=#[p0,p1,.map (some x.B)]:=by cases a; simp_all
 subst hvs ha
 have hil:(iz ks).length=ks.length:=Jn
 obtain ⟨kp,kc,rfl,hcell⟩:∃ kp kc,r2=.slice kp ks.length kc∧∀ (j:Nat) k,ks[j]? = some k→∃ bk ko,kp=some ⟨bk,ko,none⟩∧bk≠x.B∧w.cell? ⟨bk,ko+j,none⟩=some (.int .i64 k):=by
  rcases hk with ⟨_,h0,b,rfl⟩ | ⟨B,o,c,rfl,_,_,hels⟩
  ·have:ks=[]:=by
    cases ks with
    |nil=>rfl
    |cons a l=>simp[iz]at h0
   subst this
   exact ⟨_,_,rfl,by simp⟩
  ·refine ⟨_,_,by rw[hil],fun j k hj=>⟨B,o,rfl,?_,?_⟩⟩
   all_goals obtain ⟨r,hr1,hr2⟩:=((J4 _ o).1 hels j [.int .i64 k] (by simp[iz,hj])).2 0 _ rfl
   all_goals simp only[rel]at hr2
   all_goals subst hr2
   all_goals have hcl:=hs0.imm _ _ _ hr1
   ·rintro rfl
    obtain ⟨es,c,h,_⟩:=hmap
    exact map_cell h hcl
   ·simpa using hcl
 have hW:=Tryz.each_walk x.B (fun W=>Sim Env.none { own:=[x],imm:=m.imm,ext:=fun _=>False } [.map J6] W) p0 p1 (.map (some x.B)) kp ks.length kc ks (ks.map (Jh t.nodes)) w rfl (by rw[Gi]) hn (fun u hu=>by
   obtain ⟨k,hk,rfl⟩:=List.mem_map.1 hu
   exact hl k hk) hxB hs0 (fun W W' hW hb=>hs0.again hW hb) hcell (fun j k s hj hsj W hW _=>by
   have hmem:=Gs hj
   have es:s=Jh t.nodes k:=by
    rw[Gu,hj]at hsj
    simpa using hsj.symm
   subst es
   refine calls_M JbL (hks k hmem) hW ?_
   simp only[JC,prn,rel]
   exact ⟨_,_,rfl,⟨_,rfl,p0,_,rfl,h1,p1,_,rfl,h2,_,_,rfl,⟨x,rfl,rfl⟩,rfl⟩,_,_,rfl,rfl,rfl⟩)
 refine ⟨trivial,fun cs _=>?_⟩
 obtain ⟨e,w',fr,⟨rfl,hW,hb⟩,hst,hl⟩:=hW cs
 obtain ⟨b1,b2⟩:=hs.backOnly (id:=0) rfl hx XI (BelowX.ext hb) hW rfl
 exact ⟨_,w',fr,⟨_,m,_,[.map J6],rfl,b2 _,b1,by simp only[rel],rfl,rfl⟩,(show StepsIn _ _ _ _ from Jcq hst),hl⟩
end
theorem fnItoa (n:Int) (h:InR .i64 n):Fn Tryz.prog 113 [.int .i64 n] (S (Lib.itoa n)):=by
 intro E H
 refine JG fun m w vs hs hv=>?_
 simp only[JC,rel]at hv
 obtain ⟨r,rs,e,rfl,rfl⟩:=hv
 have hvs:vs=#[.int .i64 n]:=by cases vs; simp_all
 subst hvs
 refine ⟨.string ⟨⟨Lib.itoa n⟩⟩,(Tryz.strconv_Itoa n h.1 h.2 w (Tryz.tab_of hs.gl.1)).mono ?_,rfl⟩
 rintro e w' ⟨rfl,k,os,rfl⟩
 exact ⟨rfl,rfl,rfl,rfl,by simp[Go.Sort.grow,World.drewN],fun i hi=>by
  simp only[Go.Sort.grow,World.drewN]
  rw[Array.getElem?_append_left hi]⟩
theorem fnBool1 (b:Bool):Fn Tryz.prog 139 [.bool b] (S (if b=true then [116,114,117,101] else [102,97,108,115,101])):=by
 refine Jc c139_ok rfl rfl fun N=>?_
 cases b <;> simp -implicitDefEqProofs only[c139,go_sem] <;> rfl
theorem fnBool (b:Bool):Fn Tryz.prog 114 [.bool b] (S (if b=true then [116,114,117,101] else [102,97,108,115,101])):=by
 refine Jc c114_ok rfl rfl fun N=>?_
 simp -implicitDefEqProofs only[c114,go_sem]
 refine JZ (fnBool1 b) ?_
 simp -implicitDefEqProofs only[go_sem]
theorem JD {f:Nat}{F:IFunc}{al:Nat→List CV}{v:CV}(hF:Jd Tryz.prog f=some F) (ha:Moves al) (hv:v.closed=true) (hn:(al 0).length≤F.ntmps) (h:∀ n,vrun0 Tryz.prog Env.none 1 ⟨n,false⟩ (retQ F.results fun v' H'=>v'=v∧H'[0]? = some (.map J6)) [.code F.body] (mkT F.ntmps (zipA 0 (al 0))) [.map J6]):FnM Tryz.prog J6 f al v:=
 JcC hF ha hv fun n=>by rw[mkT_start hn]; exact h n
structure KO (t:Tr) (x:Nd):Prop where
 shp:Shp x
 text:x.text.length≤60
 n:InR .i64 x.n
 few:x.kids.length≤30
 rng:∀ k∈x.kids,0≤k∧k < t.nodes.length
 show_:∀ k∈x.kids,KE t k
 len:∀ k∈x.kids,(Jh t.nodes k).length≤300000
theorem KO.opM {t:Tr}{x:Nd}(h:KO t x) {k:Int}(hk:k∈x.kids) (r:Int):FnM Tryz.prog J6 82 (fun id=>[prn t id,.int .i64 k,.int .i64 r]) (S (opx (Jj t.nodes) (Jh t.nodes) k r))∧(opx (Jj t.nodes) (Jh t.nodes) k r).length≤300004:=by
 have h1:=h.rng k hk
 have h2:=h.len k hk
 have h3:=opx_len (kd:=Jj t.nodes) (T:=Jh t.nodes) k r
 exact ⟨operandM t k r h1.1 h1.2 (h.show_ k hk) (by omega),by omega⟩
theorem KO.sum {t:Tr}{x:Nd}(h:KO t x):XZ (Jh t.nodes) x.kids≤30*300004:=by
 have:∀ l:List Int,(∀ k∈l,(Jh t.nodes k).length≤300000)→XZ (Jh t.nodes) l≤l.length*300004:=by
  intro l
  induction l with
  |nil=>intro _; simp[XZ]
  |cons k l ih=>
   intro hl
   have h1:=hl k (by simp)
   have h2:=ih fun j hj=>hl j (by simp[hj])
   simp only[XZ,Gh,Gj,Ga,Nat.add_mul]at h2 ⊢
   omega
 have h1:=this x.kids h.len
 have h2:x.kids.length*300004≤30*300004:=Gp _ h.few
 exact Gl h1 h2
theorem Jad {T:Int→List UInt8}(l:List Int) (n:Nat):XZ T (l.take n)≤XZ T l:=by have:=YF (T:=T) l n; omega
theorem Jbc {T:Int→List UInt8}(l:List Int) (n:Nat):XZ T (l.drop n)≤XZ T l:=by have:=YF (T:=T) l n; omega
theorem KO.allM {t:Tr}{x:Nd}(h:KO t x) (l:List Int) (hl:∀ k∈l,k∈x.kids) (hs:XZ (Jh t.nodes) l≤XZ (Jh t.nodes) x.kids) (hn:l.length≤30) (a b:UInt8):FnM Tryz.prog J6 115 (fun id=>[prn t id,.rslc 1 (iz l) none,S [a,b]]) (S (Lib.join (l.map (Jh t.nodes)) [a,b]))∧(Lib.join (l.map (Jh t.nodes)) [a,b]).length≤10000000:=by
 have h1:=h.sum
 have h2:=Je1 (T:=Jh t.nodes) l a b
 exact ⟨Go.Cm.allM t l [a,b] (fun k hk=>h.show_ k (hl k hk)) (by omega) (by omega),by omega⟩
theorem KO.eachM {t:Tr}{x:Nd}(h:KO t x) (l:List Int) (hl:∀ k∈l,k∈x.kids) (hs:XZ (Jh t.nodes) l≤XZ (Jh t.nodes) x.kids) (hn:l.length≤30):FnM Tryz.prog J6 116 (fun id=>[prn t id,.rslc 1 (iz l) none]) (S (KF [59,32] (l.map (Jh t.nodes))))∧(KF [59,32] (l.map (Jh t.nodes))).length≤10000000:=by
 have h1:=h.sum
 have h2:=each_len (T:=Jh t.nodes) l 59 32
 exact ⟨Go.Cm.eachM t l (fun k hk=>h.show_ k (hl k hk)) (by omega) fun k hk=>by have:=h.len k (hl k hk); omega,by omega⟩
theorem iz0:iz []=[]:=rfl
theorem iz1 {a:Int}:iz [a]=[[.int .i64 a]]:=rfl
theorem iz2 {a b:Int}:iz [a,b]=[[.int .i64 a],[.int .i64 b]]:=rfl
theorem iz3 {a b c:Int}:iz [a,b,c]=[[.int .i64 a],[.int .i64 b],[.int .i64 c]]:=rfl
theorem YQ {l:List Int}{n:Nat}:(iz l).take n=iz (l.take n):=by simp[iz]
theorem YT {l:List Int}{n:Nat}:(iz l).drop n=iz (l.drop n):=by simp[iz]
end Go.Cm
end
end
