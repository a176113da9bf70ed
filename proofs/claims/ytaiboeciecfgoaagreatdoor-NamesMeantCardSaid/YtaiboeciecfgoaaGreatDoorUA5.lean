/-
  A part of the proof. Conditions: none.
-/
import Derived.Test.YtaiboeciecfgoaaGreatDoorUA4
import Derived.Laws.Strings
set_option linter.unusedSimpArgs false
set_option linter.unusedVariables false
open Bool renaming and_eq_true→Gf,rec→Gi,false_eq_true→Gr,eq_false_iff→Gw
open Nat renaming ble→Ga,eq_of_beq_eq_true→Gj,beq→Gd,le_of_ble_eq_true→Gq,ble_eq_true_of_le→Gt,div→Gn,mod→Gs,add_sub_cancel→Gz,beq_eq→Gx,lt_succ_self→GA,add_comm→GD
open List renaming getD_eq_getElem?_getD→Gl,getElem?_eq_some_iff→Gm,rec→Gg,getElem?_eq_none→Gu,replicate→Gv,length_cons→Gy,getElem?_append_left→GG,getElem?_eq_getElem→GH,getElem?_cons_succ→GI,getElem?_set→GJ,ext_getElem?→GK,append_assoc→GL,length_set→GM,append_nil→GN,map_cons→GQ
open Option renaming rec→Gh
open Option.some renaming injEq→Gb
open Int renaming rec→Gp,natCast_nonneg→GR
open Prod.mk renaming injEq→Gc
noncomputable section
section
namespace Go.Cm
inductive D16 where
 |d0
 |d1
 |d2
 |d3
 |d4
 |d5
 |d6
 |d7
 |d8
 |d9
 |d10
 |d11
 |d12
 |d13
 |d14
 |d15
 deriving DecidableEq
structure R16 (α:Type) where
 a0:α
 a1:α
 a2:α
 a3:α
 a4:α
 a5:α
 a6:α
 a7:α
 a8:α
 a9:α
 a10:α
 a11:α
 a12:α
 a13:α
 a14:α
 a15:α
def dg0x2 (n:Nat):D16:=Gi (motive:=fun _=>D16) .d0 .d1 (Ga 1 n)
def dg2x4 (n:Nat):D16:=Gi (motive:=fun _=>D16) .d2 .d3 (Ga 3 n)
def dg0x4 (n:Nat):D16:=Gi (motive:=fun _=>D16) (dg0x2 n) (dg2x4 n) (Ga 2 n)
def dg4x6 (n:Nat):D16:=Gi (motive:=fun _=>D16) .d4 .d5 (Ga 5 n)
def dg6x8 (n:Nat):D16:=Gi (motive:=fun _=>D16) .d6 .d7 (Ga 7 n)
def dg4x8 (n:Nat):D16:=Gi (motive:=fun _=>D16) (dg4x6 n) (dg6x8 n) (Ga 6 n)
def dg0x8 (n:Nat):D16:=Gi (motive:=fun _=>D16) (dg0x4 n) (dg4x8 n) (Ga 4 n)
def dg8x10 (n:Nat):D16:=Gi (motive:=fun _=>D16) .d8 .d9 (Ga 9 n)
def dg10x12 (n:Nat):D16:=Gi (motive:=fun _=>D16) .d10 .d11 (Ga 11 n)
def dg8x12 (n:Nat):D16:=Gi (motive:=fun _=>D16) (dg8x10 n) (dg10x12 n) (Ga 10 n)
def dg12x14 (n:Nat):D16:=Gi (motive:=fun _=>D16) .d12 .d13 (Ga 13 n)
def dg14x16 (n:Nat):D16:=Gi (motive:=fun _=>D16) .d14 .d15 (Ga 15 n)
def dg12x16 (n:Nat):D16:=Gi (motive:=fun _=>D16) (dg12x14 n) (dg14x16 n) (Ga 14 n)
def dg8x16 (n:Nat):D16:=Gi (motive:=fun _=>D16) (dg8x12 n) (dg12x16 n) (Ga 12 n)
def dg0x16 (n:Nat):D16:=Gi (motive:=fun _=>D16) (dg0x8 n) (dg8x16 n) (Ga 8 n)
abbrev digit (n:Nat):D16:=dg0x16 n
def D16.num (d:D16):Nat:=match d with
 |.d0=>0
 |.d1=>1
 |.d2=>2
 |.d3=>3
 |.d4=>4
 |.d5=>5
 |.d6=>6
 |.d7=>7
 |.d8=>8
 |.d9=>9
 |.d10=>10
 |.d11=>11
 |.d12=>12
 |.d13=>13
 |.d14=>14
 |.d15=>15
theorem num_digit {n:Nat}(h:n < 16):(digit n).num=n:=by
 have:∀ n,n < 16→(digit n).num=n:=by decide +kernel
 exact this n h
theorem Jd9 {m n:Nat}(hm:m < 16) (hn:n < 16) (h:digit m=digit n):m=n:=by
 rw[← num_digit hm,← num_digit hn,h]
def R16.g0 {α:Type}(r:R16 α):α:=r.a0
def R16.g1 {α:Type}(r:R16 α):α:=r.a1
def R16.g2 {α:Type}(r:R16 α):α:=r.a2
def R16.g3 {α:Type}(r:R16 α):α:=r.a3
def R16.g4 {α:Type}(r:R16 α):α:=r.a4
def R16.g5 {α:Type}(r:R16 α):α:=r.a5
def R16.g6 {α:Type}(r:R16 α):α:=r.a6
def R16.g7 {α:Type}(r:R16 α):α:=r.a7
def R16.g8 {α:Type}(r:R16 α):α:=r.a8
def R16.g9 {α:Type}(r:R16 α):α:=r.a9
def R16.g10 {α:Type}(r:R16 α):α:=r.a10
def R16.g11 {α:Type}(r:R16 α):α:=r.a11
def R16.g12 {α:Type}(r:R16 α):α:=r.a12
def R16.g13 {α:Type}(r:R16 α):α:=r.a13
def R16.g14 {α:Type}(r:R16 α):α:=r.a14
def R16.g15 {α:Type}(r:R16 α):α:=r.a15
def R16.s0 {α:Type}(v:α) (r:R16 α):R16 α:=R16.rec (motive:=fun _=>R16 α) (fun a0 a1 a2 a3 a4 a5 a6 a7 a8 a9 a10 a11 a12 a13 a14 a15=>.mk v a1 a2 a3 a4 a5 a6 a7 a8 a9 a10 a11 a12 a13 a14 a15) r
def R16.s1 {α:Type}(v:α) (r:R16 α):R16 α:=R16.rec (motive:=fun _=>R16 α) (fun a0 a1 a2 a3 a4 a5 a6 a7 a8 a9 a10 a11 a12 a13 a14 a15=>.mk a0 v a2 a3 a4 a5 a6 a7 a8 a9 a10 a11 a12 a13 a14 a15) r
def R16.s2 {α:Type}(v:α) (r:R16 α):R16 α:=R16.rec (motive:=fun _=>R16 α) (fun a0 a1 a2 a3 a4 a5 a6 a7 a8 a9 a10 a11 a12 a13 a14 a15=>.mk a0 a1 v a3 a4 a5 a6 a7 a8 a9 a10 a11 a12 a13 a14 a15) r
def R16.s3 {α:Type}(v:α) (r:R16 α):R16 α:=R16.rec (motive:=fun _=>R16 α) (fun a0 a1 a2 a3 a4 a5 a6 a7 a8 a9 a10 a11 a12 a13 a14 a15=>.mk a0 a1 a2 v a4 a5 a6 a7 a8 a9 a10 a11 a12 a13 a14 a15) r
def R16.s4 {α:Type}(v:α) (r:R16 α):R16 α:=R16.rec (motive:=fun _=>R16 α) (fun a0 a1 a2 a3 a4 a5 a6 a7 a8 a9 a10 a11 a12 a13 a14 a15=>.mk a0 a1 a2 a3 v a5 a6 a7 a8 a9 a10 a11 a12 a13 a14 a15) r
def R16.s5 {α:Type}(v:α) (r:R16 α):R16 α:=R16.rec (motive:=fun _=>R16 α) (fun a0 a1 a2 a3 a4 a5 a6 a7 a8 a9 a10 a11 a12 a13 a14 a15=>.mk a0 a1 a2 a3 a4 v a6 a7 a8 a9 a10 a11 a12 a13 a14 a15) r
def R16.s6 {α:Type}(v:α) (r:R16 α):R16 α:=R16.rec (motive:=fun _=>R16 α) (fun a0 a1 a2 a3 a4 a5 a6 a7 a8 a9 a10 a11 a12 a13 a14 a15=>.mk a0 a1 a2 a3 a4 a5 v a7 a8 a9 a10 a11 a12 a13 a14 a15) r
def R16.s7 {α:Type}(v:α) (r:R16 α):R16 α:=R16.rec (motive:=fun _=>R16 α) (fun a0 a1 a2 a3 a4 a5 a6 a7 a8 a9 a10 a11 a12 a13 a14 a15=>.mk a0 a1 a2 a3 a4 a5 a6 v a8 a9 a10 a11 a12 a13 a14 a15) r
def R16.s8 {α:Type}(v:α) (r:R16 α):R16 α:=R16.rec (motive:=fun _=>R16 α) (fun a0 a1 a2 a3 a4 a5 a6 a7 a8 a9 a10 a11 a12 a13 a14 a15=>.mk a0 a1 a2 a3 a4 a5 a6 a7 v a9 a10 a11 a12 a13 a14 a15) r
def R16.s9 {α:Type}(v:α) (r:R16 α):R16 α:=R16.rec (motive:=fun _=>R16 α) (fun a0 a1 a2 a3 a4 a5 a6 a7 a8 a9 a10 a11 a12 a13 a14 a15=>.mk a0 a1 a2 a3 a4 a5 a6 a7 a8 v a10 a11 a12 a13 a14 a15) r
def R16.s10 {α:Type}(v:α) (r:R16 α):R16 α:=R16.rec (motive:=fun _=>R16 α) (fun a0 a1 a2 a3 a4 a5 a6 a7 a8 a9 a10 a11 a12 a13 a14 a15=>.mk a0 a1 a2 a3 a4 a5 a6 a7 a8 a9 v a11 a12 a13 a14 a15) r
def R16.s11 {α:Type}(v:α) (r:R16 α):R16 α:=R16.rec (motive:=fun _=>R16 α) (fun a0 a1 a2 a3 a4 a5 a6 a7 a8 a9 a10 a11 a12 a13 a14 a15=>.mk a0 a1 a2 a3 a4 a5 a6 a7 a8 a9 a10 v a12 a13 a14 a15) r
def R16.s12 {α:Type}(v:α) (r:R16 α):R16 α:=R16.rec (motive:=fun _=>R16 α) (fun a0 a1 a2 a3 a4 a5 a6 a7 a8 a9 a10 a11 a12 a13 a14 a15=>.mk a0 a1 a2 a3 a4 a5 a6 a7 a8 a9 a10 a11 v a13 a14 a15) r
def R16.s13 {α:Type}(v:α) (r:R16 α):R16 α:=R16.rec (motive:=fun _=>R16 α) (fun a0 a1 a2 a3 a4 a5 a6 a7 a8 a9 a10 a11 a12 a13 a14 a15=>.mk a0 a1 a2 a3 a4 a5 a6 a7 a8 a9 a10 a11 a12 v a14 a15) r
def R16.s14 {α:Type}(v:α) (r:R16 α):R16 α:=R16.rec (motive:=fun _=>R16 α) (fun a0 a1 a2 a3 a4 a5 a6 a7 a8 a9 a10 a11 a12 a13 a14 a15=>.mk a0 a1 a2 a3 a4 a5 a6 a7 a8 a9 a10 a11 a12 a13 v a15) r
def R16.s15 {α:Type}(v:α) (r:R16 α):R16 α:=R16.rec (motive:=fun _=>R16 α) (fun a0 a1 a2 a3 a4 a5 a6 a7 a8 a9 a10 a11 a12 a13 a14 a15=>.mk a0 a1 a2 a3 a4 a5 a6 a7 a8 a9 a10 a11 a12 a13 a14 v) r
def pick {α:Type}(d:D16):R16 α→α:=D16.rec (motive:=fun _=>R16 α→α) R16.g0 R16.g1 R16.g2 R16.g3 R16.g4 R16.g5 R16.g6 R16.g7 R16.g8 R16.g9 R16.g10 R16.g11 R16.g12 R16.g13 R16.g14 R16.g15 d
def JdD {α:Type}(d:D16):α→R16 α→R16 α:=D16.rec (motive:=fun _=>α→R16 α→R16 α) R16.s0 R16.s1 R16.s2 R16.s3 R16.s4 R16.s5 R16.s6 R16.s7 R16.s8 R16.s9 R16.s10 R16.s11 R16.s12 R16.s13 R16.s14 R16.s15 d
def Jem {α:Type}(a:α):R16 α:=.mk a a a a a a a a a a a a a a a a
theorem Jbz {α:Type}(d d':D16) (v:α) (r:R16 α):pick d (JdD d' v r)=if d=d' then v else pick d r:=by
 cases r
 cases d' <;> cases d <;> rfl
theorem JbA {α:Type}(d:D16) (a:α):pick d (Jem a)=a:=by cases d <;> rfl
def R16.l {α:Type}(r:R16 α):List α:=[r.a0,r.a1,r.a2,r.a3,r.a4,r.a5,r.a6,r.a7,r.a8,r.a9,r.a10,r.a11,r.a12,r.a13,r.a14,r.a15]
theorem l_get {α:Type}(r:R16 α) {i:Nat}(h:i < 16):r.l[i]? = some (pick (digit i) r):=by
 cases r
 rcases i with _ | _ | _ | _ | _ | _ | _ | _ | _ | _ | _ | _ | _ | _ | _ | _ | i
 all_goals first | rfl | omega
def appR {β:Type}(x y:List β):List β:=Gg (motive:=fun _=>List β) y (fun a _ ih=>a::ih) x
def catR {α β:Type}(f:α→List β) (l:List α):List β:=Gg (motive:=fun _=>List β) [] (fun a _ ih=>appR (f a) ih) l
theorem appR_eq {β:Type}(x y:List β):appR x y=x++y:=by
 induction x with
 |nil=>rfl
 |cons a x ih=>
  show a::appR x y=_
  rw[ih]; rfl
theorem Jgq {α β:Type}{f:α→List β}{w:Nat}(hw:0 < w) (hf:∀ a,(f a).length=w):∀ (l:List α) (i:Nat),(catR f l)[i]? = (l[i / w]?).bind fun a=>(f a)[i % w]?
 |[],i=>by
  show ([]:List β)[i]? = _
  simp
 |a::l,i=>by
  show (appR (f a) (catR f l))[i]? = _
  rw[appR_eq]
  by_cases h:i < w
  ·rw[GG (by rw[hf]; exact h),Nat.div_eq_of_lt h,Nat.mod_eq_of_lt h]; rfl
  ·rw[List.getElem?_append_right (by rw[hf]; omega),hf,Jgq hw hf l]
   have e1:i / w=(i-w) / w+1:=by
    have:i=(i-w)+w:=by omega
    rw[this,Nat.add_div_right _ hw,Gz]
   have e2:i % w=(i-w) % w:=by
    have:i=(i-w)+w:=by omega
    rw[this,Nat.add_mod_right,Gz]
   rw[e1,e2]; rfl
theorem catR_len {α β:Type}{f:α→List β}{w:Nat}(hf:∀ a,(f a).length=w):∀ (l:List α),(catR f l).length=l.length*w
 |[]=>by simp[catR]
 |a::l=>by
  show (appR (f a) (catR f l)).length=_
  rw[appR_eq,List.length_append,hf,catR_len hf l,Gy,Nat.succ_mul,GD]
def R16.l2 {α:Type}(r:R16 (R16 α)):List α:=catR R16.l r.l
def R16.l3 {α:Type}(r:R16 (R16 (R16 α))):List α:=catR R16.l2 r.l
theorem l2_get {α:Type}(r:R16 (R16 α)) {i:Nat}(h:i < 256):r.l2[i]? = some (pick (digit (i % 16)) (pick (digit (i / 16)) r)):=by
 unfold R16.l2
 rw[Jgq (w:=16) (by omega) (fun a=>(rfl:(R16.l a).length=16)),l_get r (by omega)]
 exact l_get _ (by omega)
theorem l_len {α:Type}(r:R16 α):r.l.length=16:=rfl
theorem l2_len {α:Type}(r:R16 (R16 α)):r.l2.length=256:=by
 unfold R16.l2
 rw[catR_len (w:=16) l_len,l_len]
theorem l3_get {α:Type}(r:R16 (R16 (R16 α))) {i:Nat}(h:i < 4096):r.l3[i]? = some (pick (digit (i % 256 % 16)) (pick (digit (i % 256 / 16)) (pick (digit (i / 256)) r))):=by
 unfold R16.l3
 rw[Jgq (w:=256) (by omega) l2_len,l_get r (by omega)]
 exact l2_get _ (by omega)
def takeR {α β:Type}(f:α→β) (n:Nat):List α→List β:=Nat.rec (motive:=fun _=>List α→List β) (fun _=>[]) (fun _ ih l=>Gg (motive:=fun _=>List β) [] (fun a l _=>f a::ih l) l) n
theorem Jdq {α β:Type}(f:α→β):∀ (n:Nat) (l:List α) (i:Nat),(takeR f n l)[i]? = if i < n then (l[i]?).map f else none
 |0,l,i=>by
  show ([]:List β)[i]? = _
  simp
 |n+1,[],i=>by
  show ([]:List β)[i]? = _
  simp
 |n+1,a::l,0=>by
  show (f a::takeR f n l)[0]? = _
  simp
 |n+1,a::l,i+1=>by
  show (f a::takeR f n l)[i+1]? = _
  rw[GI,Jdq f n l i]
  simp only[GI,Nat.add_lt_add_iff_right]
abbrev RV:=R16 (R16 CV)
def Jbs (n:Nat):Option (D16×D16):=cond (Ga (Nat.succ n) 256) (some (digit (Gn n 16),digit (Gs n 16))) none
def vgetP (t:RV) (p:D16×D16):CV:=Prod.rec (motive:=fun _=>CV) (fun a b=>pick b (pick a t)) p
def vget (t:RV) (n:Nat):CV:=Gh (motive:=fun _=>CV) .un (fun p=>vgetP t p) (Jbs n)
def vsetP (t:RV) (v:CV) (p:D16×D16):RV:=Prod.rec (motive:=fun _=>RV) (fun a b=>JdD a (JdD b v (pick a t)) t) p
def vset (t:RV) (n:Nat) (v:CV):RV:=Gh (motive:=fun _=>RV) t (fun p=>vsetP t v p) (Jbs n)
theorem JfC {n:Nat}(h:n < 256):Jbs n=some (digit (n / 16),digit (n % 16)):=by
 unfold Jbs
 have:Ga (Nat.succ n) 256=true:=Gt h
 rw[this]; rfl
theorem vpath_ge {n:Nat}(h:256≤n):Jbs n=none:=by
 unfold Jbs
 have:Ga (Nat.succ n) 256=false:=by
  cases hb:Ga (Nat.succ n) 256 with
  |false=>rfl
  |true=>have:=Gq hb; omega
 rw[this]; rfl
theorem JeK {m n:Nat}(hm:m < 256) (hn:n < 256) (h1:digit (m / 16)=digit (n / 16)) (h2:digit (m % 16)=digit (n % 16)):m=n:=by
 have a:=Jd9 (by omega) (by omega) h1
 have b:=Jd9 (by omega) (by omega) h2
 omega
theorem vget_set {t:RV}{i:Nat}(hi:i < 256) (j:Nat) (v:CV):vget (vset t i v) j=if j=i then v else vget t j:=by
 unfold vset
 rw[JfC hi]
 by_cases hj:j < 256
 ·unfold vget
  rw[JfC hj]
  show pick (digit (j % 16)) (pick (digit (j / 16)) (JdD (digit (i / 16)) (JdD (digit (i % 16)) v (pick (digit (i / 16)) t)) t))=if j=i then v else pick (digit (j % 16)) (pick (digit (j / 16)) t)
  rw[Jbz]
  by_cases h1:digit (j / 16)=digit (i / 16)
  ·rw[if_pos h1,Jbz]
   by_cases h2:digit (j % 16)=digit (i % 16)
   ·rw[if_pos h2,if_pos (JeK hj hi h1 h2)]
   ·rw[if_neg h2,if_neg (fun e=>h2 (by rw[e])),h1]
  ·rw[if_neg h1,if_neg (fun e=>h1 (by rw[e]))]
 ·unfold vget
  rw[vpath_ge (by omega)]
  rw[if_neg (by omega)]
abbrev RH:=R16 (R16 (R16 (Option CObj)))
def hget2 (t:R16 (R16 (Option CObj))) (n:Nat):Option CObj:=pick (digit (Gs n 16)) (pick (digit (Gn n 16)) t)
def hset2 (t:R16 (R16 (Option CObj))) (n:Nat) (o:CObj):R16 (R16 (Option CObj)):=JdD (digit (Gn n 16)) (JdD (digit (Gs n 16)) (some o) (pick (digit (Gn n 16)) t)) t
def hget (t:RH) (n:Nat):Option CObj:=cond (Ga n 4095) (hget2 (pick (digit (Gn n 256)) t) (Gs n 256)) none
def hset (t:RH) (n:Nat) (o:CObj):RH:=JdD (digit (Gn n 256)) (hset2 (pick (digit (Gn n 256)) t) (Gs n 256) o) t
theorem hget2_set {t:R16 (R16 (Option CObj))}{i j:Nat}(hi:i < 256) (hj:j < 256) (o:CObj):hget2 (hset2 t i o) j=if j=i then some o else hget2 t j:=by
 show pick (digit (j % 16)) (pick (digit (j / 16)) (JdD (digit (i / 16)) (JdD (digit (i % 16)) (some o) (pick (digit (i / 16)) t)) t))=if j=i then some o else pick (digit (j % 16)) (pick (digit (j / 16)) t)
 rw[Jbz]
 by_cases h1:digit (j / 16)=digit (i / 16)
 ·rw[if_pos h1,Jbz]
  by_cases h2:digit (j % 16)=digit (i % 16)
  ·rw[if_pos h2,if_pos (JeK hj hi h1 h2)]
  ·rw[if_neg h2,if_neg (fun e=>h2 (by rw[e])),h1]
 ·rw[if_neg h1,if_neg (fun e=>h1 (by rw[e]))]
theorem hget_set {t:RH}{i:Nat}(hi:i≤4095) (j:Nat) (o:CObj):hget (hset t i o) j=if j=i then some o else hget t j:=by
 unfold hget
 by_cases hj:j≤4095
 ·have e:Ga j 4095=true:=Gt hj
  rw[e]
  show hget2 (pick (digit (j / 256)) (JdD (digit (i / 256)) (hset2 (pick (digit (i / 256)) t) (i % 256) o) t)) (j % 256)=if j=i then some o else hget2 (pick (digit (j / 256)) t) (j % 256)
  rw[Jbz]
  by_cases h1:digit (j / 256)=digit (i / 256)
  ·rw[if_pos h1,hget2_set (by omega) (by omega)]
   have h3:=Jd9 (by omega) (by omega) h1
   by_cases h2:j % 256=i % 256
   ·rw[if_pos h2,if_pos (by omega)]
   ·rw[if_neg h2,if_neg (fun e=>h2 (by rw[e])),h1]
  ·rw[if_neg h1,if_neg (fun e=>h1 (by rw[e]))]
 ·have e:Ga j 4095=false:=by
   cases hb:Ga j 4095 with
   |false=>rfl
   |true=>have:=Gq hb; omega
  rw[e,if_neg (by omega)]; rfl
theorem beq_t {a b:Nat}(h:a=b):Gd a b=true:=by subst h; exact Nat.beq_refl a
theorem beq_f {a b:Nat}(h:a≠b):Gd a b=false:=by
 cases hb:Gd a b with
 |false=>rfl
 |true=>exact absurd (Gj hb) h
structure RepT (n:Nat) (t:RV) (T:List CV):Prop where
 len:T.length=n
 le:n≤255
 get:∀ i,vget t i=T.getD i .un
structure HP where
 t:RH
 n:Nat
structure RepH (h:HP) (H:List CObj):Prop where
 len:h.n=H.length
 le:h.n≤2047
 get:∀ i,hget h.t i=H[i]?
def Qm (t:RV) (a:IArg):CV:=IArg.rec (motive:=fun _=>CV) (fun n=>vget t n) (fun v=>v) a
theorem Kc {n:Nat}{t:RV}{T:List CV}(h:RepT n t T) (a:IArg):Qm t a=JO T a:=by
 cases a with
 |c v=>rfl
 |s i=>exact h.get i
def Jfi:RV:=Jem (Jem .un)
def Jd7:HP:=⟨Jem (Jem (Jem none)),0⟩
theorem Jb6:RepH Jd7 []:=⟨rfl,Nat.zero_le _,fun i=>by
 show cond (Ga i 4095) (pick (digit (i % 256 % 16)) (pick (digit (i % 256 / 16)) (pick (digit (i / 256)) (Jem (Jem (Jem none)))))) none=_
 rw[JbA,JbA,JbA]
 cases Ga i 4095 <;> rfl⟩
theorem rep_emptyT {n:Nat}(h:n≤255):RepT n Jfi (Gv n .un):=⟨by simp,h,fun i=>by
 have e:vget Jfi i=.un:=by
  unfold vget
  cases Jbs i with
  |none=>rfl
  |some p=>
   show pick p.2 (pick p.1 (Jem (Jem CV.un)))=_
   rw[JbA,JbA]
 rw[e]
 simp only[Gl,List.getElem?_replicate]
 split <;> rfl⟩
theorem RepT.set {n:Nat}{t:RV}{T:List CV}(h:RepT n t T) {d:Nat}(hd:d < n) (v:CV):RepT n (vset t d v) (T.set d v) where
 len:=by simp[h.len]
 le:=h.le
 get i:=by
  rw[vget_set (by have:=h.le; omega) i v]
  simp only[Gl,GJ]
  by_cases e:i=d
  ·subst e; rw[if_pos rfl,if_pos rfl,if_pos (by rw[h.len]; exact hd)]; rfl
  ·rw[if_neg e,if_neg (fun h=>e h.symm),h.get i,Gl]
theorem RepH.set {h:HP}{H:List CObj}(hr:RepH h H) {i:Nat}(hi:i < H.length) (o:CObj):RepH ⟨hset h.t i o,h.n⟩ (H.set i o) where
 len:=by simp[hr.len]
 le:=hr.le
 get j:=by
  rw[hget_set (by have:=hr.le; have:=hr.len; omega) j o,GJ]
  by_cases e:j=i
  ·subst e; rw[if_pos rfl,if_pos rfl,if_pos hi]
  ·rw[if_neg e,if_neg (fun h=>e h.symm),hr.get j]
theorem RepH.push {h:HP}{H:List CObj}(hr:RepH h H) (hn:h.n+1≤2046) (o:CObj):RepH ⟨hset h.t h.n o,h.n+1⟩ (H++[o]) where
 len:=by simp[hr.len]
 le:=by show h.n+1≤2047; omega
 get j:=by
  rw[hget_set (by omega) j o]
  have:=hr.len
  by_cases e:j=h.n
  ·subst e; rw[if_pos rfl,this]; simp
  ·rw[if_neg e,hr.get j]
   by_cases hlt:j < H.length
   ·rw[GG hlt]
   ·rw[Gu (by omega),Gu (by simp; omega)]
theorem RepH.lt {h:HP}{H:List CObj}(hr:RepH h H) {i:Nat}{o:CObj}(hg:hget h.t i=some o):i < H.length:=by
 rw[hr.get]at hg; exact (Gm.1 hg).1
def orDead (o:Option CObj):CObj:=Gh (motive:=fun _=>CObj) .dead (fun o=>o) o
def HP.toL (h:HP):List CObj:=takeR orDead h.n h.t.l3
theorem RepH.toL {h:HP}{H:List CObj}(hr:RepH h H):h.toL=H:=by
 refine GK fun i=>?_
 have hle:=hr.le
 have hlen:=hr.len
 unfold HP.toL
 rw[Jdq]
 by_cases hi:i < h.n
 ·rw[if_pos hi,l3_get _ (by omega)]
  have hg:=hr.get i
  have e:Ga i 4095=true:=Gt (by omega)
  have e2:hget h.t i=pick (digit (i % 256 % 16)) (pick (digit (i % 256 / 16)) (pick (digit (i / 256)) h.t)):=by
   unfold hget
   rw[e]; rfl
  rw[← e2,hg]
  rw[GH (by omega)]; rfl
 ·rw[if_neg hi,Gu (by omega)]
def HP.push (h:HP) (o:CObj):HP:=⟨hset h.t h.n o,Nat.succ h.n⟩
def HP.addL (l:List CObj):HP→HP:=Gg (motive:=fun _=>HP→HP) (fun h=>h) (fun o _ ih h=>ih (h.push o)) l
def HP.ofL (l:List CObj):Option HP:=cond (Ga l.length 2046) (some (HP.addL l Jd7)) none
theorem RepH.addL:∀ (l:List CObj) {h:HP}{H:List CObj},RepH h H→h.n+l.length≤2046→RepH (HP.addL l h) (H++l)
 |[],h,H,hr,_=>by rw[GN]; exact hr
 |o::l,h,H,hr,hn=>by
  have h1:RepH (h.push o) (H++[o]):=hr.push (by simp at hn; omega) o
  have:=RepH.addL l h1 (by show h.n+1+l.length≤2046; simp at hn; omega)
  rw[GL]at this
  exact this
theorem RepH.ofL {l:List CObj}{h:HP}(hh:HP.ofL l=some h):RepH h l:=by
 unfold HP.ofL at hh
 cases hb:Ga l.length 2046 with
 |false=>rw[hb]at hh; cases hh
 |true=>
  rw[hb]at hh
  simp only[cond_true,Gb]at hh
  subst hh
  have:=RepH.addL l Jb6 (by have:=Gq hb; show 0+l.length≤2046; omega)
  simpa using this
def idF (c:CV):CV:=c
def toLT (n:Nat) (t:RV):List CV:=takeR idF n t.l2
theorem RepT.toL {n:Nat}{t:RV}{T:List CV}(hr:RepT n t T):toLT n t=T:=by
 refine GK fun i=>?_
 have hle:=hr.le
 have hlen:=hr.len
 unfold toLT
 rw[Jdq]
 by_cases hi:i < n
 ·rw[if_pos hi,l2_get _ (by omega)]
  have hg:=hr.get i
  have e2:vget t i=pick (digit (i % 16)) (pick (digit (i / 16)) t):=by
   unfold vget
   rw[JfC (by omega)]; rfl
  rw[← e2,hg,Gl,GH (by omega)]; rfl
 ·rw[if_neg hi,Gu (by omega)]
def addT (l:List CV):Nat→RV→RV:=Gg (motive:=fun _=>Nat→RV→RV) (fun _ t=>t) (fun v _ ih i t=>ih (Nat.succ i) (vset t i v)) l
theorem RepT.add:∀ (l:List CV) {n i:Nat}{t:RV}{T1 T2:List CV},RepT n t (T1++T2)→T1.length=i→i+l.length≤n→RepT n (addT l i t) (T1++(l++T2.drop l.length))
 |[],n,i,t,T1,T2,h,_,_=>by
  show RepT n t _
  simpa using h
 |v::l,n,i,t,T1,T2,h,hi,hn=>by
  have hl:=h.len
  simp only[Gy]at hn
  have hs:=h.set (d:=i) (by omega) v
  have e:(T1++T2).set i v=(T1++[v])++T2.drop 1:=by
   rw[List.set_append_right _ _ (by omega),show i-T1.length=0 by omega]
   cases T2 with
   |nil=>simp at hl; omega
   |cons a T2=>simp
  rw[e]at hs
  have:=RepT.add l hs (i:=i+1) (by simp[hi]) (by omega)
  have e2:(T1++[v])++(l++(T2.drop 1).drop l.length)=T1++(v::l++T2.drop (v::l).length):=by simp[List.drop_drop,GD]
  rw[e2]at this
  exact this
theorem JfN {args:List CV}{n:Nat}(h1:args.length≤n) (h2:n≤255):RepT n (addT args 0 Jfi) (args++Gv (n-args.length) .un):=by
 have h0:RepT n Jfi ([]++Gv n .un):=by simpa using rep_emptyT h2
 have:=RepT.add args h0 (i:=0) rfl (by omega)
 rwa [List.nil_append,List.drop_replicate]at this
def getL {α:Type}(l:List α):Nat→Option α:=Gg (motive:=fun _=>Nat→Option α) (fun _=>none) (fun a _ ih i=>Nat.rec (motive:=fun _=>Option α) (some a) (fun j _=>ih j) i) l
theorem Jag {α:Type}:∀ (l:List α) (i:Nat),getL l i=l[i]?
 |[],_=>by simp only[List.getElem?_nil]; rfl
 |a::l,0=>by simp only[List.getElem?_cons_zero]; rfl
 |a::l,i+1=>by
  have:getL (a::l) (i+1)=getL l i:=rfl
  rw[this,Jag l i]; simp
def ilB (a b:Int):Bool:=Gp (motive:=fun _=>Bool) (fun m=>Gp (motive:=fun _=>Bool) (fun n=>Ga m n) (fun _=>false) b) (fun m=>Gp (motive:=fun _=>Bool) (fun _=>true) (fun n=>Ga n m) b) a
def ieB (a b:Int):Bool:=Gp (motive:=fun _=>Bool) (fun m=>Gp (motive:=fun _=>Bool) (fun n=>Gd m n) (fun _=>false) b) (fun m=>Gp (motive:=fun _=>Bool) (fun _=>false) (fun n=>Gd m n) b) a
theorem K7 {m n:Nat}:Ga m n=true↔m≤n:=⟨Gq,Gt⟩
theorem Yy {a b:Int}:ilB a b=true↔a≤b:=by
 cases a with
 |ofNat m=>cases b with
  |ofNat n=>show Ga m n=true↔(m:Int)≤n; rw[K7]; omega
  |negSucc n=>show false=true↔(m:Int)≤Int.negSucc n; simp; omega
 |negSucc m=>cases b with
  |ofNat n=>show true=true↔Int.negSucc m≤(n:Int); simp only[true_iff]; exact Int.le_trans (Int.le_of_lt (Int.negSucc_lt_zero m)) (GR n)
  |negSucc n=>show Ga n m=true↔Int.negSucc m≤Int.negSucc n; rw[K7]; omega
theorem ieB_iff {a b:Int}:ieB a b=true↔a=b:=by
 cases a with
 |ofNat m=>cases b with
  |ofNat n=>show Gd m n=true↔(m:Int)=n; rw[Gx]; omega
  |negSucc n=>show false=true↔(m:Int)=Int.negSucc n; simp
 |negSucc m=>cases b with
  |ofNat n=>show false=true↔Int.negSucc m=(n:Int); simp
  |negSucc n=>show Gd m n=true↔Int.negSucc m=Int.negSucc n; rw[Gx]; omega
theorem Jf3 {a b:Int}:ilB a b=decide (a≤b):=by
 by_cases h:a≤b
 ·rw[Yy.2 h,decide_eq_true h]
 ·rw[decide_eq_false h]; exact Gw.2 fun hh=>h (Yy.1 hh)
theorem ieB_dec {a b:Int}:ieB a b=(a == b):=by
 by_cases h:a=b
 ·rw[ieB_iff.2 h]; simp[h]
 ·have:(a == b)=false:=by simpa using h
  rw[this]; exact Gw.2 fun hh=>h (ieB_iff.1 hh)
def rngB (k:IntKind) (n:Int):Bool:=and (ilB k.min n) (ilB n k.max)
def yck (c:Cond):Bool:=
 Cond.rec (motive:=fun _=>Bool) true (fun k n=>rngB k n) (fun i n=>Gp (motive:=fun _=>Bool) (fun m=>Ga (Nat.succ m) n) (fun _=>false) i) (fun a b=>ilB a b) (fun a b=>Ga a b) (fun n=>not (ieB n 0)) (fun _ _ x y=>and x y) c
theorem X7:∀ {c:Cond},yck c=true→c.holds
 |.tt,_=>trivial
 |.rng k n,h=>by
  have h:(ilB k.min n && ilB n k.max)=true:=h
  simp only[Gf,Yy]at h
  exact ⟨h.1,h.2⟩
 |.idx i n,h=>by
  cases i with
  |ofNat m=>
   have h:Ga (m+1) n=true:=h
   have:=K7.1 h
   exact ⟨GR m,by show (m:Int) < n; omega⟩
  |negSucc m=>cases h
 |.ile a b,h=>Yy.1 h
 |.le a b,h=>K7.1 h
 |.nz n,h=>by
  have h:(!ieB n 0)=true:=h
  rw[Bool.not_eq_true']at h
  exact fun e=>by rw[ieB_iff.2 e]at h; cases h
 |.and a b,h=>by
  have h:(yck a && yck b)=true:=h
  simp only[Gf]at h
  exact ⟨X7 h.1,X7 h.2⟩
abbrev YR:=Option (CV×HP)
abbrev YQ:=Nat→List CV→HP→YR
def JcG (h:HP) (o:CObj) (k:Nat→CV):YR:=cond (Ga (Nat.succ h.n) 2046) (some (k h.n,⟨hset h.t h.n o,Nat.succ h.n⟩)) none
def yc (t:RV) (a:IArg):IArg:=.c (Qm t a)
def ycO (t:RV):Option IArg→Option IArg
 |none=>none
 |some a=>some (yc t a)
def JfB (r:Option (Cond×CV×List CObj)):YR:=
 match r with
 |some (c,v,H')=>cond (yck c) (match HP.ofL H' with
  |some h'=>some (v,h')
  |none=>none) none
 |none=>none
def y_mv (a:IArg) (t:RV) (h:HP):YR:=some (Qm t a,h)
def Jde (c a b:CV) (h:HP):YR:=match c with
 |.bool x=>some (cond x a b,h)
 |_=>none
def y_pick (c a b:IArg) (t:RV) (h:HP):YR:=Jde (Qm t c) (Qm t a) (Qm t b) h
def y_alloc (z:List CV) (_:RV) (h:HP):YR:=JcG h (.arr z.length [z]) fun id=>.ptr id 0 0
def y_box (a:IArg) (t:RV) (h:HP):YR:=match (Qm t a).cells with
 |some l=>cond (KY l) (JcG h (.arr l.length [l]) fun id=>.ptr id 0 0) none
 |none=>none
def y_build (z:List CV) (ps:List (Nat×Nat×IArg)) (t:RV) (h:HP):YR:=match Kl [] z (ps.map fun p=>(p.1,p.2.1,yc t p.2.2)) with
 |some l=>some (.agg l,h)
 |none=>none
def Jfz (z n:Nat) (zero:List CV) (ps:List (Nat×IArg)) (t:RV) (h:HP):YR:=match Qw [] z (Gv n zero) (ps.map fun p=>(p.1,yc t p.2)) with
 |some els=>JcG h (.arr z els) fun id=>.slc id 0 n (some n)
 |none=>none
def yldE (ag:Bool) (n off:Nat) (h:HP):Option (List CV)→YR
 |some e=>cond ag (cond (Ga (off+n) e.length) (some (.agg ((e.drop off).take n),h)) none) (match getL e off with
  |some c=>some (c,h)
  |none=>none)
 |none=>none
def yldR (ag:Bool) (n:Nat) (cs:List CV) (h:HP):YR:=cond ag (cond (Ga n cs.length) (some (.agg (cs.take n),h)) none) (match cs with
 |c::_=>some (c,h)
 |[]=>none)
def Jdf (ag:Bool) (n:Nat) (a:CV) (h:HP):YR:=match a with
 |.ptr id i off=>match hget h.t id with
  |some (.arr _ els)=>yldE ag n off h (getL els i)
  |_=>none
 |.rptr cs=>yldR ag n cs h
 |_=>none
def y_load (ag:Bool) (n:Nat) (a:IArg) (t:RV) (h:HP):YR:=Jdf ag n (Qm t a) h
def ystE (n id i off z:Nat) (els:List (List CV)) (l:List CV) (h:HP):Option (List CV)→YR
 |some e=>cond (and (Gd l.length n) (and (KY l) (Ga (off+n) e.length))) (some (.un,⟨hset h.t id (.arr z (els.set i (splice e off l))),h.n⟩)) none
 |none=>none
def Jbm (n:Nat) (a v:CV) (h:HP):YR:=match a with
 |.ptr id i off=>match v.cells with
  |some l=>match hget h.t id with
   |some (.arr z els)=>ystE n id i off z els l h (getL els i)
   |_=>none
  |none=>none
 |_=>none
def y_store (n:Nat) (a v:IArg) (t:RV) (h:HP):YR:=Jbm n (Qm t a) (Qm t v) h
def ypos (k:IntKind) (n:Int):Option CV:=cond (rngB k n) (some (.int k n)) none
def ybAdd (k:IntKind) (x y:Int):Option CV:=ypos k (Int.add x y)
def ybSub (k:IntKind) (x y:Int):Option CV:=ypos k (Int.sub x y)
def ybEq (_:IntKind) (x y:Int):Option CV:=some (.bool (ieB x y))
def ybNe (_:IntKind) (x y:Int):Option CV:=some (.bool (not (ieB x y)))
def ybLt (_:IntKind) (x y:Int):Option CV:=some (.bool (not (ilB y x)))
def ybLe (_:IntKind) (x y:Int):Option CV:=some (.bool (ilB x y))
def ybGt (_:IntKind) (x y:Int):Option CV:=some (.bool (not (ilB x y)))
def ybGe (_:IntKind) (x y:Int):Option CV:=some (.bool (ilB y x))
def yckO (r:Option (Cond×CV)):Option CV:=match r with
 |some (c,v)=>cond (yck c) (some v) none
 |none=>none
def K5 (op:BinOp) (k:IntKind) (x y:Int):Option CV:=yckO (binI op k x y)
def ybin (op:BinOp):IntKind→Int→Int→Option CV:=
 BinOp.casesOn (motive:=fun _=>IntKind→Int→Int→Option CV) op ybAdd ybSub (K5 .mul) (K5 .quo) (K5 .rem) (K5 .and) (K5 .or) (K5 .xor) (K5 .shl) (K5 .shr) (K5 .andNot) ybEq ybNe ybLt ybLe ybGt ybGe
def kEq (a b:IntKind):Bool:=Gd a.ctorIdx b.ctorIdx
theorem kEq_ok {a b:IntKind}(h:kEq a b=true):a=b:=by
 cases a <;> cases b <;> first | rfl | cases h
def vInt (c:CV):Option (IntKind×Int):=CV.rec (motive_1:=fun _=>Option (IntKind×Int)) (motive_2:=fun _=>Unit) (motive_3:=fun _=>Unit) none (fun _=>none) (fun k n=>some (k,n)) (fun _=>none) none (fun _ _ _=>none) (fun _ _=>none) none (fun _ _ _ _=>none) (fun _ _ _ _=>none) none (fun _=>none) (fun _ _ _ _ _=>none) (fun _=>none) none (fun _ _ _=>none) none (fun _ _=>none) (fun _ _=>none) () (fun _ _ _ _=>()) () (fun _ _ _ _=>()) c
theorem vInt_ok {c:CV}{p:IntKind×Int}(h:vInt c=some p):c=.int p.1 p.2:=by
 cases c <;> first | (cases h; rfl) | cases h
def ybs (l:List UInt8):List UInt8→Bool:=Gg (motive:=fun _=>List UInt8→Bool) (fun m=>Gg (motive:=fun _=>Bool) true (fun _ _ _=>false) m) (fun a _ ih m=>Gg (motive:=fun _=>Bool) false (fun b m' _=>and (Gd a.toNat b.toNat) (ih m')) m) l
def ybinS (op:BinOp) (x y:ByteArray):Option CV:=match op with
 |.eql=>some (.bool (ybs x.data.toList y.data.toList))
 |.neq=>some (.bool (not (ybs x.data.toList y.data.toList)))
 |op=>yckO (binS op x y)
def yO (h:HP) (r:Option CV):YR:=match r with
 |some v=>some (v,h)
 |none=>none
def yii (op:BinOp) (p q:IntKind×Int):Option CV:=cond (kEq p.1 q.1) (ybin op p.1 p.2 q.2) (yckO (binK op p.1 q.1 p.2 q.2))
def yother (op:BinOp) (tk:TK) (a b:CV):Option CV:=match a with
 |.str a=>match b with
  |.str b=>ybinS op a b
  |_=>none
 |a=>yckO (exBin op tk a b)
def yii1 (op:BinOp) (tk:TK) (a b:CV) (r:Option (IntKind×Int)):Option CV:=match r with
 |some p=>match vInt b with
  |some q=>yii op p q
  |none=>none
 |none=>yother op tk a b
def y_bin (op:BinOp) (tk:TK) (x y:IArg) (t:RV) (h:HP):YR:=yO h (yii1 op tk (Qm t x) (Qm t y) (vInt (Qm t x)))
def JgC (x:CV) (h:HP):YR:=match x with
 |.bool b=>some (.bool (not b),h)
 |_=>none
def y_not (x:IArg) (t:RV) (h:HP):YR:=JgC (Qm t x) h
def y_conv (k:IntKind) (x:IArg) (t:RV) (h:HP):YR:=match Qm t x with
 |.int _ n=>cond (rngB k n) (some (.int k n,h)) none
 |_=>none
def Jer (t:RV) (l:List IArg):List CV:=Gg (motive:=fun _=>List CV) [] (fun a _ ih=>Qm t a::ih) l
def y_mkfn (f:Nat) (l1 l2:List IArg) (t:RV) (h:HP):YR:=some (.fn f (Jer t l1) (Jer t l2),h)
def y_mkmap (_:RV) (h:HP):YR:=JcG h (.map []) fun id=>.map id
def yslc (z id off len:Nat) (cap:Option Nat) (l h:Int):Option Int→Option CV
 |none=>yckO (some (.and (.ile 0 l) (.and (.ile l h) (.ile h len)),.slc id (off+l.toNat) (h.toNat-l.toNat) (cap.map (· - l.toNat))))
 |some m=>yckO (some (.and (.ile 0 l) (.and (.ile l h) (.and (.ile h m) (.and (.ile h len) (.ile m (cap.getD len))))),.slc id (off+l.toNat) (h.toNat-l.toNat) (some (m.toNat-l.toNat))))
def ysl (z:Nat) (l hh:Int) (m:Option Int) (h:HP) (v:CV):YR:=match v with
 |.slc id off len cap=>match hget h.t id with
  |some (.arr z' _)=>cond (Gd z' z) (match yslc z id off len cap l hh m with
   |some v=>some (v,h)
   |none=>none) none
  |_=>none
 |v=>match yckO (K6 z [] v l hh m) with
  |some v=>some (v,h)
  |none=>none
def y_slice (z:Nat) (x:IArg) (lo hi mx:Option IArg) (t:RV) (h:HP):YR:=
 match KR [] 0 (ycO t lo),exHi [] (Qm t x) (ycO t hi),exMx [] (ycO t mx) with
 |some l,some hh,some m=>ysl z l hh m h (Qm t x)
 |_,_,_=>none
def Jbp (off:Nat) (x:CV) (h:HP):YR:=match x with
 |.ptr id i o=>some (.ptr id i (o+off),h)
 |.rptr cs=>cond (Ga off cs.length) (some (.rptr (cs.drop off),h)) none
 |_=>none
def y_faddr (off:Nat) (x:IArg) (t:RV) (h:HP):YR:=Jbp off (Qm t x) h
def Jbo (ag:Bool) (off n:Nat) (x:CV) (h:HP):YR:=match x with
 |.agg l=>cond ag (cond (Ga (off+n) l.length) (some (.agg ((l.drop off).take n),h)) none) (match getL l off with
  |some c=>some (c,h)
  |none=>none)
 |_=>none
def y_field (ag:Bool) (off n:Nat) (x:IArg) (t:RV) (h:HP):YR:=Jbo ag off n (Qm t x) h
def Jbn (z:Nat) (x i:CV) (h:HP):YR:=match i with
 |.int _ n=>match x with
  |.slc id off len _=>match hget h.t id with
   |some (.arr z' _)=>cond (and (Gd z' z) (yck (.idx n len))) (some (.ptr id (off+n.toNat) 0,h)) none
   |_=>none
  |.rslc z' els _=>cond (and (Gd z' z) (ilB 0 n)) (match getL els n.toNat with
   |some e=>some (.rptr e,h)
   |none=>none) none
  |_=>none
 |_=>none
def y_iaddr (z:Nat) (x i:IArg) (t:RV) (h:HP):YR:=Jbn z (Qm t x) (Qm t i) h
def Y0 (x i:CV) (h:HP):YR:=match x with
 |.str s=>match i with
  |.int _ n=>cond (ilB 0 n) (match getL s.data.toList n.toNat with
   |some b=>some (.int .u8 (Int.ofNat b.toNat),h)
   |none=>none) none
  |_=>none
 |_=>none
def Jfy (x i:IArg) (t:RV) (h:HP):YR:=Y0 (Qm t x) (Qm t i) h
def Jfv (x:IArg) (lo hi:Option IArg) (t:RV) (h:HP):YR:=match Qm t x with
 |.str s=>match KR [] 0 (ycO t lo),KR [] s.data.toList.length (ycO t hi) with
  |some l,some hh=>cond (and (ilB 0 l) (and (ilB l hh) (ilB hh s.data.toList.length))) (some (.str ⟨⟨(s.data.toList.drop l.toNat).take (hh.toNat-l.toNat)⟩⟩,h)) none
  |_,_=>none
 |_=>none
def ykey (tk:TK) (x y:CV):Option Bool:=
 match x with
 |.int j a=>match y with
  |.int k b=>match tk with
   |.int=>match decEq j k with
    |isTrue _=>some (ieB a b)
    |isFalse _=>none
   |_=>none
  |_=>none
 |.str a=>match y with
  |.str b=>match tk with
   |.str=>some (ybs a.data.toList b.data.toList)
   |_=>none
  |_=>none
 |_=>XR tk x y
def yfind (tk:TK) (k:CV) (l:List (CV×CV)):Nat→Option (Option (Nat×CV)):=
 Gg (motive:=fun _=>Nat→Option (Option (Nat×CV))) (fun _=>some none) (fun p _ ih i=>Gh (motive:=fun _=>Option (Option (Nat×CV))) none (fun b=>cond b (some (some (i,p.2))) (ih (Nat.succ i))) (ykey tk k p.1)) l
def Jfx (tk:TK) (zero:CV) (ok:Bool) (m k:IArg) (t:RV) (h:HP):YR:=cond (isKey tk (Qm t k)) (match Qm t m with
 |.nilm=>some (cond ok (.tup [zero,.bool false]) zero,h)
 |.map id=>match hget h.t id with
  |some (.map kvs)=>match yfind tk (Qm t k) kvs 0 with
   |some (some r)=>some (cond ok (.tup [r.2,.bool true]) r.2,h)
   |some none=>some (cond ok (.tup [zero,.bool false]) zero,h)
   |none=>none
  |_=>none
 |_=>none) none
def Jfw (tk:TK) (m k v:IArg) (t:RV) (h:HP):YR:=cond (isKey tk (Qm t k)) (match Qm t m with
 |.map id=>match hget h.t id with
  |some (.map kvs)=>match yfind tk (Qm t k) kvs 0 with
   |some (some r)=>some (.un,⟨hset h.t id (.map (kvs.set r.1 (Qm t k,Qm t v))),h.n⟩)
   |some none=>some (.un,⟨hset h.t id (.map (kvs++[(Qm t k,Qm t v)])),h.n⟩)
   |none=>none
  |_=>none
 |_=>none) none
def ylen (n:Nat) (a b:TK) (h:HP):YR:=match decEq a b with
 |isTrue _=>some (.int .i64 (Int.ofNat n),h)
 |isFalse _=>none
def JgE (tk:TK) (x:CV) (h:HP):YR:=match x with
 |.str s=>ylen s.data.toList.length tk .str h
 |.nils=>ylen 0 tk .slice h
 |.slc _ _ len _=>ylen len tk .slice h
 |.rslc _ els _=>ylen els.length tk .slice h
 |.nilm=>ylen 0 tk .map h
 |.map id=>match hget h.t id with
  |some (.map kvs)=>ylen kvs.length tk .map h
  |_=>none
 |_=>none
def y_len (tk:TK) (x:IArg) (t:RV) (h:HP):YR:=JgE tk (Qm t x) h
def yels (h:HP) (z:Nat) (v:CV):Option (List (List CV)):=match v with
 |.slc id off len _=>match hget h.t id with
  |some (.arr z' els)=>cond (and (Gd z' z) (Ga (off+len) els.length)) (some ((els.drop off).take len)) none
  |_=>none
 |v=>JcO [] z v
def yapp1 (z bytes:Nat) (h:HP) (id off len:Nat) (x0:List CV) (xs':List (List CV)) (els:List (List CV)) (cap:Option Nat):YR:=match cap with
 |none=>cond (yck (JM (len+(x0::xs').length) bytes)) (JcG ⟨hset h.t id .dead,h.n⟩ (.arr z (els.drop off++(x0::xs'))) fun nid=>.slc nid 0 (len+(x0::xs').length) none) none
 |some c=>cond (and (Ga (Nat.succ c) (len+(x0::xs').length)) (yck (JM (len+(x0::xs').length) bytes))) (JcG h (.arr z (els.drop off++(x0::xs'))) fun nid=>.slc nid 0 (len+(x0::xs').length) none) none
def yappT (z bytes:Nat) (h:HP) (id off len:Nat) (x0:List CV) (xs':List (List CV)) (els:List (List CV)) (cap:Option Nat):YR:=match cap with
 |none=>cond (Ga (off+len) els.length) (yapp1 z bytes h id off len x0 xs' (els.take (off+len)) none) none
 |some _=>none
def yapp (z bytes:Nat) (h:HP) (s:CV) (xs:List (List CV)):YR:=match xs with
 |[]=>match s with
  |.nils=>some (s,h)
  |.slc _ _ _ _=>some (s,h)
  |.rslc _ _ _=>some (s,h)
  |_=>none
 |x0::xs'=>match s with
  |.nils=>cond (yck (JM (x0::xs').length bytes)) (JcG h (.arr z (x0::xs')) fun nid=>.slc nid 0 (x0::xs').length none) none
  |.slc id off len cap=>match hget h.t id with
   |some (.arr z' els)=>cond (Gd z' z) (cond (Gd (off+len) els.length) (yapp1 z bytes h id off len x0 xs' els cap) (yappT z bytes h id off len x0 xs' els cap)) none
   |_=>none
  |.rslc z' els (some c)=>cond (and (Gd z' z) (and (Ga (Nat.succ c) (els.length+(x0::xs').length)) (yck (JM (els.length+(x0::xs').length) bytes)))) (JcG h (.arr z (els++(x0::xs'))) fun nid=>.slc nid 0 (els.length+(x0::xs').length) none) none
  |_=>none
def Y1 (z bytes:Nat) (s x:CV) (h:HP):YR:=match yels h z x with
 |some xs=>yapp z bytes h s xs
 |none=>none
def JfA (z bytes:Nat) (s x:IArg) (t:RV) (h:HP):YR:=Y1 z bytes (Qm t s) (Qm t x) h
def X9 (x:CV) (i:Nat) (h:HP):YR:=match x with
 |.tup l=>match getL l i with
  |some c=>some (c,h)
  |none=>none
 |_=>none
def Jdg (x:IArg) (i:Nat) (t:RV) (h:HP):YR:=X9 (Qm t x) i h
def y_nchk (x:IArg) (t:RV) (h:HP):YR:=match Qm t x with
 |.ptr a b c=>some (.ptr a b c,h)
 |.rptr cs=>some (.rptr cs,h)
 |.fn f l1 l2=>some (.fn f l1 l2,h)
 |_=>none
def y_eqs (ks:List TK) (ng:Bool) (x y:IArg) (t:RV) (h:HP):YR:=JfB (exec (.eqs ks ng (yc t x) (yc t y)) [] h.toL)
def y_neg (x:IArg) (t:RV) (h:HP):YR:=JfB (exec (.neg (yc t x)) [] h.toL)
def y_mkslice (z b:Nat) (zero:List CV) (l c:IArg) (t:RV) (h:HP):YR:=JfB (exec (.mkslice z b zero (yc t l) (yc t c)) [] h.toL)
def y_clear (zero:List CV) (x:IArg) (t:RV) (h:HP):YR:=JfB (exec (.clear zero (yc t x)) [] h.toL)
def y_mmx (b:Bool) (x y:IArg) (t:RV) (h:HP):YR:=JfB (exec (.mmx b (yc t x) (yc t y)) [] h.toL)
def y_copy (z:Nat) (x y:IArg) (t:RV) (h:HP):YR:=JfB (exec (.copy z (yc t x) (yc t y)) [] h.toL)
def y_call (cl:YQ) (f:Nat) (l:List IArg) (t:RV) (h:HP):YR:=cl f (Jer t l) h
def appL (l m:List CV):List CV:=Gg (motive:=fun _=>List CV) m (fun a _ ih=>a::ih) l
def y_callv (cl:YQ) (x:IArg) (l:List IArg) (t:RV) (h:HP):YR:=match Qm t x with
 |.fn f l1 l2=>cl f (appL l1 (appL (Jer t l) l2)) h
 |_=>none
def yop (cl:YQ) (op:IOp):RV→HP→YR:=
 IOp.casesOn (motive:=fun _=>RV→HP→YR) op y_mv y_pick y_alloc y_box y_build Jfz y_load y_store y_bin y_eqs y_not y_neg y_conv y_mkfn y_mkmap y_mkslice y_slice y_faddr y_field y_iaddr Jfy Jfx Jfw y_len JfA y_clear Jdg y_nchk Jfv y_mmx y_copy (y_call cl) (y_callv cl)
section
theorem cnd {α:Type}{b:Bool}{x:Option α}{r:α}(h:cond b x none=some r):b=true∧x=some r:=by
 cases b with
 |false=>cases h
 |true=>exact ⟨rfl,h⟩
def Q5 (op:IOp) (T:List CV) (H:List CObj) (v:CV) (h':HP):Prop:=∃ H',RepH h' H'∧∃ c,exec op T H=some (c,v,H')∧c.holds
theorem Yn {r:Option (Cond×CV)}{v:CV}(h:yckO r=some v):∃ c,r=some (c,v)∧c.holds:=by
 unfold yckO at h
 split at h
 ·rename_i c v'
  obtain ⟨h1,h2⟩:=cnd h
  cases h2
  exact ⟨c,rfl,X7 h1⟩
 ·cases h
section
variable {n:Nat}{t:RV}{T:List CV}{h:HP}{H:List CObj}{v:CV}{h':HP}
theorem Xy (hH:RepH h H) {o:CObj}{k:Nat→CV}(hp:JcG h o k=some (v,h')):v=k H.length∧RepH h' (H++[o]):=by
 obtain ⟨h1,h2⟩:=cnd hp
 simp only[Gb,Gc]at h2
 obtain ⟨rfl,rfl⟩:=h2
 exact ⟨by rw[hH.len],hH.push (K7.1 h1) o⟩
theorem XN (hT:RepT n t T) (a:IArg):JO [] (yc t a)=JO T a:=Kc hT a
theorem JcT (hT:RepT n t T):∀ (l:List IArg),Jer t l=l.map (JO T)
 |[]=>rfl
 |a::l=>by
  show Qm t a::Jer t l=_
  rw[JcT hT l,Kc hT]; rfl
theorem appL_eq:∀ (l m:List CV),appL l m=l++m
 |[],_=>rfl
 |a::l,m=>by
  show a::appL l m=_
  rw[appL_eq l m]; rfl
theorem JcD (hT:RepT n t T):∀ (ps:List (Nat×Nat×IArg)) (z:List CV),Kl [] z (ps.map fun p=>(p.1,p.2.1,yc t p.2.2))=Kl T z ps
 |[],_=>rfl
 |(o,k,a)::ps,z=>by
  simp only[GQ,Kl,XN hT]
  split
  ·rfl
  ·split
   ·exact JcD hT ps _
   ·rfl
theorem Jff (hT:RepT n t T) {z:Nat}:∀ (ps:List (Nat×IArg)) (els:List (List CV)),Qw [] z els (ps.map fun p=>(p.1,yc t p.2))=Qw T z els ps
 |[],_=>rfl
 |(i,a)::ps,els=>by
  simp only[GQ,Qw,XN hT]
  split
  ·rfl
  ·split
   ·exact Jff hT ps _
   ·rfl
theorem Jfh (hT:RepT n t T) {d:Int}(x:Option IArg):KR [] d (ycO t x)=KR T d x:=by
 cases x with
 |none=>rfl
 |some a=>simp only[ycO,KR,XN hT]
theorem exHi_eq (hT:RepT n t T) {x:CV}(a:Option IArg):exHi [] x (ycO t a)=exHi T x a:=by
 cases a with
 |none=>rfl
 |some a=>simp only[ycO,exHi,XN hT]
theorem exMx_eq (hT:RepT n t T) (a:Option IArg):exMx [] (ycO t a)=exMx T a:=by
 cases a with
 |none=>rfl
 |some a=>simp only[ycO,exMx,XN hT]
theorem ySlow_ok {r:Option (Cond×CV×List CObj)}(hy:JfB r=some (v,h')):∃ H',RepH h' H'∧∃ c,r=some (c,v,H')∧c.holds:=by
 unfold JfB at hy
 split at hy
 ·rename_i c v' H'
  obtain ⟨h1,h2⟩:=cnd hy
  split at h2
  ·rename_i h2' hh
   simp only[Gb,Gc]at h2
   obtain ⟨rfl,rfl⟩:=h2
   exact ⟨H',RepH.ofL hh,c,rfl,X7 h1⟩
  ·cases h2
 ·cases hy
theorem y_alloc_ok (hH:RepH h H) {z:List CV}(hy:y_alloc z t h=some (v,h')):Q5 (.alloc z) T H v h':=by
 obtain ⟨rfl,h2⟩:=Xy hH hy
 exact ⟨_,h2,.tt,rfl,trivial⟩
theorem y_mkmap_ok (hH:RepH h H) (hy:y_mkmap t h=some (v,h')):Q5 .mkmap T H v h':=by
 obtain ⟨rfl,h2⟩:=Xy hH hy
 exact ⟨_,h2,.tt,rfl,trivial⟩
theorem X8 (hH:RepH h H) {op op':IOp}(he:exec op' [] H=exec op T H) (hy:JfB (exec op' [] h.toL)=some (v,h')):Q5 op T H v h':=by
 rw[hH.toL]at hy
 obtain ⟨H',h1,c,h2,h3⟩:=ySlow_ok hy
 exact ⟨H',h1,c,by rw[← he]; exact h2,h3⟩
theorem ybin_ok {op:BinOp}{k:IntKind}{x y:Int}(hy:ybin op k x y=some v):∃ c,binI op k x y=some (c,v)∧c.holds:=by
 cases op
 case add=>
  obtain ⟨h1,h2⟩:=cnd (show cond (rngB k (Int.add x y)) (some (CV.int k (Int.add x y))) none=some v from hy)
  cases h2
  exact ⟨.rng k (x+y),rfl,X7 (c:=.rng k (x+y)) h1⟩
 case sub=>
  obtain ⟨h1,h2⟩:=cnd (show cond (rngB k (Int.sub x y)) (some (CV.int k (Int.sub x y))) none=some v from hy)
  cases h2
  exact ⟨.rng k (x-y),rfl,X7 (c:=.rng k (x-y)) h1⟩
 case eql=>have hy:some (CV.bool (ieB x y))=some v:=hy; cases hy; exact ⟨.tt,by simp only[binI,ieB_dec],trivial⟩
 case neq=>have hy:some (CV.bool (not (ieB x y)))=some v:=hy; cases hy; exact ⟨.tt,by simp only[binI,ieB_dec]; rfl,trivial⟩
 case lss=>have hy:some (CV.bool (not (ilB y x)))=some v:=hy; cases hy; exact ⟨.tt,by simp only[binI,Jf3,← decide_not,Int.not_le],trivial⟩
 case leq=>have hy:some (CV.bool (ilB x y))=some v:=hy; cases hy; exact ⟨.tt,by simp only[binI,Jf3],trivial⟩
 case gtr=>have hy:some (CV.bool (not (ilB x y)))=some v:=hy; cases hy; exact ⟨.tt,by simp only[binI,Jf3,← decide_not,Int.not_le],trivial⟩
 case geq=>have hy:some (CV.bool (ilB y x))=some v:=hy; cases hy; exact ⟨.tt,by simp only[binI,Jf3],trivial⟩
 all_goals (unfold ybin at hy; exact Yn hy)
theorem ybs_iff:∀ {l m:List UInt8},ybs l m=true↔l=m
 |[],[]=>Iff.intro (fun _=>rfl) (fun _=>rfl)
 |[],_::_=>Iff.intro (fun h=>nomatch (show false=true from h)) (fun h=>nomatch h)
 |_::_,[]=>Iff.intro (fun h=>nomatch (show false=true from h)) (fun h=>nomatch h)
 |a::l,b::m=>by
  show (Gd a.toNat b.toNat && ybs l m)=true↔_
  rw[Gf,ybs_iff,Gx,List.cons.injEq,UInt8.toNat_inj]
variable (hT:RepT n t T) (hH:RepH h H)
include hT hH
theorem y_mv_ok {a:IArg}(hy:y_mv a t h=some (v,h')):Q5 (.mv a) T H v h':=by
 simp only[y_mv,Kc hT,Gb,Gc]at hy
 obtain ⟨rfl,rfl⟩:=hy
 exact ⟨H,hH,.tt,rfl,trivial⟩
theorem y_pick_ok {c a b:IArg}(hy:y_pick c a b t h=some (v,h')):Q5 (.pick c a b) T H v h':=by
 simp only[y_pick,Jde,Kc hT]at hy
 split at hy
 ·rename_i x hx
  simp only[Gb,Gc]at hy
  obtain ⟨rfl,rfl⟩:=hy
  refine ⟨H,hH,.tt,?_,trivial⟩
  simp only[exec,hx]
  cases x <;> rfl
 ·cases hy
theorem y_box_ok {a:IArg}(hy:y_box a t h=some (v,h')):Q5 (.box a) T H v h':=by
 simp only[y_box,Kc hT]at hy
 split at hy
 ·rename_i l hl
  obtain ⟨h1,h2⟩:=cnd hy
  obtain ⟨rfl,h3⟩:=Xy hH h2
  exact ⟨_,h3,.tt,by simp only[exec,hl,h1,if_true],trivial⟩
 ·cases hy
theorem y_build_ok {z:List CV}{ps:List (Nat×Nat×IArg)}(hy:y_build z ps t h=some (v,h')):Q5 (.build z ps) T H v h':=by
 simp only[y_build,JcD hT]at hy
 split at hy
 ·rename_i l hl
  simp only[Gb,Gc]at hy
  obtain ⟨rfl,rfl⟩:=hy
  exact ⟨H,hH,.tt,by simp only[exec,hl],trivial⟩
 ·cases hy
theorem y_bslice_ok {z k:Nat}{zero:List CV}{ps:List (Nat×IArg)}(hy:Jfz z k zero ps t h=some (v,h')):Q5 (.bslice z k zero ps) T H v h':=by
 simp only[Jfz,Jff hT]at hy
 split at hy
 ·rename_i els hl
  obtain ⟨rfl,h3⟩:=Xy hH hy
  exact ⟨_,h3,.tt,by simp only[exec,hl],trivial⟩
 ·cases hy
theorem JgD {ag:Bool}{k:Nat}{a:IArg}(hy:y_load ag k a t h=some (v,h')):Q5 (.load ag k a) T H v h':=by
 simp only[y_load,Jdf,Kc hT]at hy
 split at hy
 ·rename_i id i off ha
  split at hy
  ·rename_i z els hg
   rw[hH.get]at hg
   rw[Jag]at hy
   unfold yldE at hy
   split at hy
   ·rename_i e he
    have hlt:i+1≤els.length:=(Gm.1 he).1
    have hd:els.getD i []=e:=by rw[Gl,he]; rfl
    cases ag with
    |true=>
     simp only[cond_true]at hy
     obtain ⟨h1,h2⟩:=cnd hy
     simp only[Gb,Gc]at h2
     obtain ⟨rfl,rfl⟩:=h2
     refine ⟨H,hH,.and (.le (i+1) els.length) (.le (off+k) e.length),?_,hlt,K7.1 h1⟩
     simp only[exec,ha,hg,hd,if_true]
    |false=>
     simp only[cond_false,Jag]at hy
     split at hy
     ·rename_i c hc
      simp only[Gb,Gc]at hy
      obtain ⟨rfl,rfl⟩:=hy
      refine ⟨H,hH,.and (.le (i+1) els.length) (.le (off+1) e.length),?_,hlt,(Gm.1 hc).1⟩
      have:e.getD off .un=c:=by rw[Gl,hc]; rfl
      simp only[exec,ha,hg,hd,this,Gr,if_false]
     ·cases hy
   ·cases hy
  ·cases hy
 ·rename_i cs ha
  unfold yldR at hy
  cases ag with
  |true=>
   simp only[cond_true]at hy
   obtain ⟨h1,h2⟩:=cnd hy
   simp only[Gb,Gc]at h2
   obtain ⟨rfl,rfl⟩:=h2
   exact ⟨H,hH,.le k cs.length,by simp only[exec,ha,if_true],K7.1 h1⟩
  |false=>
   simp only[cond_false]at hy
   split at hy
   ·rename_i c cs'
    simp only[Gb,Gc]at hy
    obtain ⟨rfl,rfl⟩:=hy
    exact ⟨H,hH,.tt,by simp only[exec,ha,Gr,if_false],trivial⟩
   ·cases hy
 ·cases hy
theorem y_store_ok {k:Nat}{a b:IArg}(hy:y_store k a b t h=some (v,h')):Q5 (.store k a b) T H v h':=by
 simp only[y_store,Jbm,Kc hT]at hy
 split at hy
 ·rename_i id i off ha
  split at hy
  ·rename_i l hl
   split at hy
   ·rename_i z els hg
    have hlt0:=hH.lt hg
    rw[hH.get]at hg
    rw[Jag]at hy
    unfold ystE at hy
    split at hy
    ·rename_i e he
     obtain ⟨h1,h2⟩:=cnd hy
     simp only[Gb,Gc]at h2
     obtain ⟨rfl,rfl⟩:=h2
     rw[Gf,Gf]at h1
     have h3:=Gj h1.1
     have hlt:i+1≤els.length:=(Gm.1 he).1
     have hd:els.getD i []=e:=by rw[Gl,he]; rfl
     refine ⟨_,hH.set hlt0 _,.and (.le (i+1) els.length) (.le (off+k) e.length),?_,hlt,K7.1 h1.2.2⟩
     simp only[exec,ha,hl,hg,hd,h3,h1.2.1,and_self,if_true]
    ·cases hy
   ·cases hy
  ·cases hy
 ·cases hy
theorem y_not_ok {x:IArg}(hy:y_not x t h=some (v,h')):Q5 (.not x) T H v h':=by
 simp only[y_not,JgC,Kc hT]at hy
 split at hy
 ·rename_i b hb
  simp only[Gb,Gc]at hy
  obtain ⟨rfl,rfl⟩:=hy
  exact ⟨H,hH,.tt,by simp only[exec,hb],trivial⟩
 ·cases hy
theorem y_conv_ok {k:IntKind}{x:IArg}(hy:y_conv k x t h=some (v,h')):Q5 (.conv k x) T H v h':=by
 simp only[y_conv,Kc hT]at hy
 split at hy
 ·rename_i k' m hb
  obtain ⟨h1,h2⟩:=cnd hy
  simp only[Gb,Gc]at h2
  obtain ⟨rfl,rfl⟩:=h2
  exact ⟨H,hH,.rng k m,by simp only[exec,hb],X7 (c:=.rng k m) h1⟩
 ·cases hy
theorem y_mkfn_ok {f:Nat}{l1 l2:List IArg}(hy:y_mkfn f l1 l2 t h=some (v,h')):Q5 (.mkfn f l1 l2) T H v h':=by
 simp only[y_mkfn,JcT hT,Gb,Gc]at hy
 obtain ⟨rfl,rfl⟩:=hy
 exact ⟨H,hH,.tt,rfl,trivial⟩
theorem y_faddr_ok {off:Nat}{x:IArg}(hy:y_faddr off x t h=some (v,h')):Q5 (.faddr off x) T H v h':=by
 simp only[y_faddr,Jbp,Kc hT]at hy
 split at hy
 ·rename_i hb
  simp only[Gb,Gc]at hy
  obtain ⟨rfl,rfl⟩:=hy
  exact ⟨H,hH,.tt,by simp only[exec,hb],trivial⟩
 ·rename_i cs hb
  obtain ⟨h1,h2⟩:=cnd hy
  simp only[Gb,Gc]at h2
  obtain ⟨rfl,rfl⟩:=h2
  exact ⟨H,hH,.le off cs.length,by simp only[exec,hb],K7.1 h1⟩
 ·cases hy
theorem y_field_ok {ag:Bool}{off k:Nat}{x:IArg}(hy:y_field ag off k x t h=some (v,h')):Q5 (.field ag off k x) T H v h':=by
 simp only[y_field,Jbo,Kc hT]at hy
 split at hy
 ·rename_i l hb
  cases ag with
  |true=>
   simp only[cond_true]at hy
   obtain ⟨h1,h2⟩:=cnd hy
   simp only[Gb,Gc]at h2
   obtain ⟨rfl,rfl⟩:=h2
   exact ⟨H,hH,.le (off+k) l.length,by simp only[exec,hb,if_true],K7.1 h1⟩
  |false=>
   simp only[cond_false,Jag]at hy
   split at hy
   ·rename_i c hc
    simp only[Gb,Gc]at hy
    obtain ⟨rfl,rfl⟩:=hy
    have:l.getD off .un=c:=by rw[Gl,hc]; rfl
    exact ⟨H,hH,.le (off+1) l.length,by simp only[exec,hb,this,Gr,if_false],(Gm.1 hc).1⟩
   ·cases hy
 ·cases hy
theorem y_iaddr_ok {z:Nat}{x i:IArg}(hy:y_iaddr z x i t h=some (v,h')):Q5 (.iaddr z x i) T H v h':=by
 simp only[y_iaddr,Jbn,Kc hT]at hy
 split at hy
 ·rename_i k m hi
  split at hy
  ·rename_i id off len cap hx
   split at hy
   ·rename_i z' els hg
    rw[hH.get]at hg
    obtain ⟨h1,h2⟩:=cnd hy
    rw[Gf]at h1
    have h3:=Gj h1.1
    simp only[Gb,Gc]at h2
    obtain ⟨rfl,rfl⟩:=h2
    exact ⟨H,hH,.idx m len,by simp only[exec,hx,hi,hg,h3,if_true],X7 h1.2⟩
   ·cases hy
  ·rename_i z' els cap hx
   obtain ⟨h1,h2⟩:=cnd hy
   rw[Gf]at h1
   have h3:=Gj h1.1
   have h4:=Yy.1 h1.2
   rw[Jag]at h2
   split at h2
   ·rename_i e he
    simp only[Gb,Gc]at h2
    obtain ⟨rfl,rfl⟩:=h2
    have hlt:=(Gm.1 he).1
    have hd:els.getD m.toNat []=e:=by rw[Gl,he]; rfl
    exact ⟨H,hH,.idx m els.length,by simp only[exec,hx,hi,h3,hd,if_true],h4,by omega⟩
   ·cases h2
  ·cases hy
 ·cases hy
theorem y_extract_ok {x:IArg}{i:Nat}(hy:Jdg x i t h=some (v,h')):Q5 (.extract x i) T H v h':=by
 simp only[Jdg,X9,Kc hT]at hy
 split at hy
 ·rename_i l hb
  rw[Jag]at hy
  split at hy
  ·rename_i c hc
   simp only[Gb,Gc]at hy
   obtain ⟨rfl,rfl⟩:=hy
   have:l.getD i .un=c:=by rw[Gl,hc]; rfl
   exact ⟨H,hH,.tt,by simp only[exec,hb,this,if_pos (Gm.1 hc).1],trivial⟩
  ·cases hy
 ·cases hy
theorem y_nchk_ok {x : IArg} (hy : y_nchk x t h = some (v, h')) : Q5 (.nchk x) T H v h' := by
  simp only [y_nchk, Kc hT] at hy
  split at hy
  all_goals first
    | (cases hy; done)
    | (rename_i hb
       simp only [Gb, Gc] at hy
       obtain ⟨rfl, rfl⟩ := hy
       exact ⟨H, hH, .tt, by simp only [exec, hb], trivial⟩)
theorem y_slice_ok {z:Nat}{x:IArg}{lo hi mx:Option IArg}(hy:y_slice z x lo hi mx t h=some (v,h')):Q5 (.slice z x lo hi mx) T H v h':=by
 simp only[y_slice,Jfh hT,exHi_eq hT,exMx_eq hT,Kc hT]at hy
 split at hy
 ·rename_i l hh m e1 e2 e3
  unfold ysl at hy
  split at hy
  ·rename_i id off len cap hx
   rw[hx]at e2
   split at hy
   ·rename_i z' els hg
    rw[hH.get]at hg
    obtain ⟨h1,h2⟩:=cnd hy
    have h3:=Gj h1
    split at h2
    ·rename_i v' hv
     simp only[Gb,Gc]at h2
     obtain ⟨rfl,rfl⟩:=h2
     cases m with
     |none=>
      simp only[yslc]at hv
      obtain ⟨c,h4,h5⟩:=Yn hv
      refine ⟨H,hH,c,?_,h5⟩
      simp only[exec,e1,e2,e3,hx,K6,hg,h3,if_true]
      simp only[Gb,Gc]at h4
      rw[h4.1,h4.2]
     |some m=>
      simp only[yslc]at hv
      obtain ⟨c,h4,h5⟩:=Yn hv
      refine ⟨H,hH,c,?_,h5⟩
      simp only[exec,e1,e2,e3,hx,K6,hg,h3,if_true]
      simp only[Gb,Gc]at h4
      rw[h4.1,h4.2]
    ·cases h2
   ·cases hy
  ·rename_i hne
   split at hy
   ·rename_i v' hv
    simp only[Gb,Gc]at hy
    obtain ⟨rfl,rfl⟩:=hy
    obtain ⟨c,h4,h5⟩:=Yn hv
    exact ⟨H,hH,c,by simp only[exec,e1,e2,e3,Jd2 h4 H],h5⟩
   ·cases hy
 ·cases hy
end
end
section
theorem JbU (x:ByteArray):x.toList=x.data.toList:=Go.ByteArray.toList_eq x
theorem ybs_dec (x y:ByteArray):ybs x.data.toList y.data.toList=(x.toList == y.toList):=by
 rw[JbU,JbU]
 by_cases h:x.data.toList=y.data.toList
 ·rw[ybs_iff.2 h]; simp[h]
 ·have:(x.data.toList == y.data.toList)=false:=by simpa using h
  rw[this]; exact Gw.2 fun hh=>h (ybs_iff.1 hh)
theorem ybinS_ok {op:BinOp}{x y:ByteArray}{v:CV}(hy:ybinS op x y=some v):∃ c,binS op x y=some (c,v)∧c.holds:=by
 cases op
 case eql=>cases hy; exact ⟨.tt,by simp only[binS,ybs_dec],trivial⟩
 case neq=>cases hy; exact ⟨.tt,by simp only[binS,ybs_dec],trivial⟩
 all_goals exact Yn hy
section
variable {n:Nat}{t:RV}{T:List CV}{h:HP}{H:List CObj}{v:CV}{h':HP}(hT:RepT n t T) (hH:RepH h H)
include hT hH
theorem y_bin_ok {op:BinOp}{tk:TK}{x y:IArg}(hy:y_bin op tk x y t h=some (v,h')):Q5 (.bin op tk x y) T H v h':=by
 have fin:∀ {v1:CV},(∃ c,exBin op tk (JO T x) (JO T y)=some (c,v1)∧c.holds)→Q5 (.bin op tk x y) T H v1 h:=by
  rintro v1 ⟨c,h1,h2⟩
  exact ⟨H,hH,c,by simp only[exec,h1],h2⟩
 simp only[y_bin,Kc hT]at hy
 unfold yO at hy
 split at hy
 ·rename_i v' hv
  simp only[Gb,Gc]at hy
  obtain ⟨rfl,rfl⟩:=hy
  refine fin ?_
  unfold yii1 at hv
  split at hv
  ·rename_i p hp
   have hx:=vInt_ok hp
   split at hv
   ·rename_i q hq
    have hy':=vInt_ok hq
    rw[hx,hy']
    simp only[exBin]
    unfold yii at hv
    cases hk:kEq p.1 q.1 with
    |true=>
     rw[hk]at hv
     have hk:=kEq_ok hk
     obtain ⟨c,h1,h2⟩:=ybin_ok hv
     exact ⟨c,by simp only[binK,if_pos hk]; exact h1,h2⟩
    |false=>
     rw[hk]at hv
     exact Yn hv
   ·cases hv
  ·unfold yother at hv
   split at hv
   ·rename_i a hx
    rw[hx]
    split at hv
    ·rename_i b hy'
     rw[hy']
     exact ybinS_ok hv
    ·cases hv
   ·exact Yn hv
 ·cases hy
theorem y_indexS_ok {x i:IArg}(hy:Jfy x i t h=some (v,h')):Q5 (.indexS x i) T H v h':=by
 simp only[Jfy,Y0,Kc hT]at hy
 split at hy
 ·rename_i s hx
  split at hy
  ·rename_i k m hi
   obtain ⟨h1,h2⟩:=cnd hy
   have h4:=Yy.1 h1
   rw[Jag]at h2
   split at h2
   ·rename_i b hb
    simp only[Gb,Gc]at h2
    obtain ⟨rfl,rfl⟩:=h2
    have hlt:=(Gm.1 hb).1
    have hsz:s.size=s.data.toList.length:=by simp
    refine ⟨H,hH,.idx m s.size,?_,h4,by rw[hsz]; omega⟩
    have hd:s.data.getD m.toNat 0=b:=by
     rw[Array.getD_eq_getD_getElem?,← Array.getElem?_toList,hb]; rfl
    simp only[exec,hx,hi,hd]; rfl
   ·cases h2
  ·cases hy
 ·cases hy
theorem y_sliceS_ok {x:IArg}{lo hi:Option IArg}(hy:Jfv x lo hi t h=some (v,h')):Q5 (.sliceS x lo hi) T H v h':=by
 simp only[Jfv,Kc hT,Jfh hT]at hy
 split at hy
 ·rename_i s hx
  have hsz:(s.data.toList.length:Int)=s.size:=by simp
  rw[hsz]at hy
  split at hy
  ·rename_i l hh e1 e2
   obtain ⟨h1,h2⟩:=cnd hy
   rw[Gf,Gf,Yy,Yy,Yy]at h1
   simp only[Gb,Gc]at h2
   obtain ⟨rfl,rfl⟩:=h2
   refine ⟨H,hH,.and (.ile 0 l) (.and (.ile l hh) (.ile hh s.size)),?_,h1.1,h1.2.1,h1.2.2⟩
   have he:s.extract l.toNat hh.toNat=⟨⟨(s.data.toList.drop l.toNat).take (hh.toNat-l.toNat)⟩⟩:=by
    refine str_ext ?_
    simp[ByteArray.data_extract]
   simp only[exec,hx,e1,e2,he]
  ·cases hy
 ·cases hy
omit hT hH in
theorem ykey_ok {tk:TK}{x y:CV}{b:Bool}(hy:ykey tk x y=some b):XR tk x y=some b:=by
 unfold ykey at hy
 split at hy
 ·split at hy
  ·split at hy
   ·split at hy
    ·rename_i hk _
     simp only[XR,if_pos hk]
     rw[ieB_dec]at hy; exact hy
    ·cases hy
   ·cases hy
  ·cases hy
 ·split at hy
  ·split at hy
   ·rename_i a _ b'
    simp only[XR]
    rw[ybs_dec]at hy
    simp only[Gb]at hy ⊢
    rw[← hy]
    have h1:∀ {a b:ByteArray},(a == b)=(a.toList == b.toList):=by
     rintro ⟨x⟩ ⟨y⟩
     have e1:((⟨x⟩:ByteArray) == ⟨y⟩)=(x == y):=rfl
     rw[e1,JbU,JbU,Bool.eq_iff_iff,beq_iff_eq,beq_iff_eq]
     exact ⟨fun h=>by rw[h],fun h=>by cases x; cases y; simp at h; rw[h]⟩
    exact h1
   ·cases hy
  ·cases hy
 ·exact hy
omit hT hH in
theorem Jbl {tk:TK}{k:CV}:∀ {l:List (CV×CV)}{i:Nat}{r:Option (Nat×CV)},yfind tk k l i=some r→XI tk k l i=some r
 |[],i,r,hy=>hy
 |p::l,i,r,hy=>by
  have hy:Gh (motive:=fun _=>Option (Option (Nat×CV))) none (fun b=>cond b (some (some (i,p.2))) (yfind tk k l (i+1))) (ykey tk k p.1)=some r:=hy
  obtain ⟨k',v'⟩:=p
  simp only[XI]
  cases hk:ykey tk k k' with
  |none=>simp only[hk]at hy; cases hy
  |some b=>
   simp only[hk]at hy
   rw[ykey_ok hk]
   cases b with
   |true=>exact hy
   |false=>exact Jbl hy
theorem y_lookup_ok {tk:TK}{zero:CV}{ok:Bool}{m k:IArg}(hy:Jfx tk zero ok m k t h=some (v,h')):Q5 (.lookup tk zero ok m k) T H v h':=by
 simp only[Jfx,Kc hT]at hy
 obtain ⟨h1,h2⟩:=cnd hy
 split at h2
 ·rename_i hm
  simp only[Gb,Gc]at h2
  obtain ⟨rfl,rfl⟩:=h2
  exact ⟨H,hH,.tt,by simp only[exec,h1,if_true,hm]; cases ok <;> rfl,trivial⟩
 ·rename_i id hm
  split at h2
  ·rename_i kvs hg
   rw[hH.get]at hg
   split at h2
   ·rename_i r hr
    simp only[Gb,Gc]at h2
    obtain ⟨rfl,rfl⟩:=h2
    exact ⟨H,hH,.tt,by simp only[exec,h1,if_true,hm,hg,Jbl hr]; cases ok <;> rfl,trivial⟩
   ·rename_i hr
    simp only[Gb,Gc]at h2
    obtain ⟨rfl,rfl⟩:=h2
    exact ⟨H,hH,.tt,by simp only[exec,h1,if_true,hm,hg,Jbl hr]; cases ok <;> rfl,trivial⟩
   ·cases h2
  ·cases h2
 ·cases h2
theorem y_mapset_ok {tk:TK}{m k x:IArg}(hy:Jfw tk m k x t h=some (v,h')):Q5 (.mapset tk m k x) T H v h':=by
 simp only[Jfw,Kc hT]at hy
 obtain ⟨h1,h2⟩:=cnd hy
 split at h2
 ·rename_i id hm
  split at h2
  ·rename_i kvs hg
   have hlt:=hH.lt hg
   rw[hH.get]at hg
   split at h2
   ·rename_i r hr
    simp only[Gb,Gc]at h2
    obtain ⟨rfl,rfl⟩:=h2
    exact ⟨_,hH.set hlt _,.tt,by simp only[exec,h1,if_true,hm,hg,Jbl hr],trivial⟩
   ·rename_i hr
    simp only[Gb,Gc]at h2
    obtain ⟨rfl,rfl⟩:=h2
    exact ⟨_,hH.set hlt _,.tt,by simp only[exec,h1,if_true,hm,hg,Jbl hr],trivial⟩
   ·cases h2
  ·cases h2
 ·cases h2
omit hT hH in
theorem JbZ {k:Nat}{a b:TK}(hy:ylen k a b h=some (v,h')):a=b∧v=.int .i64 (k:Int)∧h'=h:=by
 unfold ylen at hy
 split at hy
 ·rename_i hk _
  simp only[Gb,Gc]at hy
  exact ⟨hk,hy.1.symm,hy.2.symm⟩
 ·cases hy
theorem y_len_ok {tk:TK}{x:IArg}(hy:y_len tk x t h=some (v,h')):Q5 (.len tk x) T H v h':=by
 simp only[y_len,JgE,Kc hT]at hy
 split at hy
 ·rename_i s hx
  obtain ⟨rfl,rfl,rfl⟩:=JbZ hy
  have hsz:(s.data.toList.length:Int)=s.size:=by simp
  exact ⟨H,hH,.tt,by simp only[exec,hx,if_true,hsz],trivial⟩
 ·rename_i hx
  obtain ⟨rfl,rfl,rfl⟩:=JbZ hy
  exact ⟨H,hH,.tt,by simp only[exec,hx,if_true]; rfl,trivial⟩
 ·rename_i hx
  obtain ⟨rfl,rfl,rfl⟩:=JbZ hy
  exact ⟨H,hH,.tt,by simp only[exec,hx,if_true],trivial⟩
 ·rename_i hx
  obtain ⟨rfl,rfl,rfl⟩:=JbZ hy
  exact ⟨H,hH,.tt,by simp only[exec,hx,if_true],trivial⟩
 ·rename_i hx
  obtain ⟨rfl,rfl,rfl⟩:=JbZ hy
  exact ⟨H,hH,.tt,by simp only[exec,hx,if_true]; rfl,trivial⟩
 ·rename_i hx
  split at hy
  ·rename_i kvs hg
   rw[hH.get]at hg
   obtain ⟨rfl,rfl,rfl⟩:=JbZ hy
   exact ⟨H,hH,.tt,by simp only[exec,hx,hg,if_true],trivial⟩
  ·cases hy
 ·cases hy
omit hT in
theorem yels_ok {z:Nat}{x:CV}{xs:List (List CV)}(hy:yels h z x=some xs):JcO H z x=some xs:=by
 unfold yels at hy
 split at hy
 ·split at hy
  ·rename_i z' els hg
   rw[hH.get]at hg
   obtain ⟨h1,h2⟩:=cnd hy
   rw[Gf]at h1
   have h3:=Gj h1.1
   simp only[JcO,hg]
   rw[if_pos ⟨h3,K7.1 h1.2⟩]; exact h2
  ·cases hy
 ·rename_i hne
  cases x <;> first | exact hy | (exfalso; exact hne _ _ _ _ rfl)
omit hT in
theorem yapp_ok {z bytes : Nat} {s : CV} {xs : List (List CV)} (hy : yapp z bytes h s xs = some (v, h')) : ∃ H', RepH h' H' ∧ ∃ c, J3 z bytes H s xs = some (c, v, H') ∧ c.holds := by
  unfold yapp at hy
  split at hy
  · split at hy
    all_goals first
      | (cases hy; done)
      | (simp only [Gb, Gc] at hy
         obtain ⟨rfl, rfl⟩ := hy
         exact ⟨H, hH, .tt, rfl, trivial⟩)
  · rename_i x0 xs'
    split at hy
    · obtain ⟨h1, h2⟩ := cnd hy
      obtain ⟨rfl, h3⟩ := Xy hH h2
      exact ⟨_, h3, _, rfl, X7 h1⟩
    · rename_i id off len cap
      split at hy
      · rename_i z' els hg
        have hlt := hH.lt hg
        rw [hH.get] at hg
        obtain ⟨h1, h2⟩ := cnd hy
        have h3 := Gj h1
        simp only [J3, hg]
        cases h40 : Gd (off + len) els.length with
        | true =>
          rw [h40] at h2
          have h4 := Gj h40
          rw [if_pos ⟨h3, h4⟩]
          cases cap with
          | none =>
            obtain ⟨h5, h6⟩ := cnd (show cond (yck (JM (len + (x0 :: xs').length) bytes)) (JcG ⟨hset h.t id .dead, h.n⟩ (.arr z (els.drop off ++ (x0 :: xs'))) fun nid => .slc nid 0 (len + (x0 :: xs').length) none) none = some (v, h') from h2)
            obtain ⟨rfl, h7⟩ := Xy (hH.set hlt .dead) h6
            exact ⟨_, h7, _, by simp only [GM], X7 h5⟩
          | some c =>
            obtain ⟨h5, h6⟩ := cnd (show cond (and (Ga (Nat.succ c) (len + (x0 :: xs').length)) (yck (JM (len + (x0 :: xs').length) bytes))) (JcG h (.arr z (els.drop off ++ (x0 :: xs'))) fun nid => .slc nid 0 (len + (x0 :: xs').length) none) none = some (v, h') from h2)
            rw [Gf] at h5
            obtain ⟨rfl, h7⟩ := Xy hH h6
            exact ⟨_, h7, .and (.le (c + 1) (len + (x0 :: xs').length)) (JM (len + (x0 :: xs').length) bytes), rfl, K7.1 h5.1, X7 h5.2⟩
        | false =>
          rw [h40] at h2
          have h4 : off + len ≠ els.length := Nat.ne_of_beq_eq_false h40
          rw [if_neg (fun h => h4 h.2)]
          cases cap with
          | some c => cases h2
          | none =>
            obtain ⟨h8, h9⟩ := cnd (show cond (Ga (off + len) els.length) (yapp1 z bytes h id off len x0 xs' (els.take (off + len)) none) none = some (v, h') from h2)
            rw [if_pos ⟨h3, Gq h8, rfl⟩]
            obtain ⟨h5, h6⟩ := cnd (show cond (yck (JM (len + (x0 :: xs').length) bytes)) (JcG ⟨hset h.t id .dead, h.n⟩ (.arr z ((els.take (off + len)).drop off ++ (x0 :: xs'))) fun nid => .slc nid 0 (len + (x0 :: xs').length) none) none = some (v, h') from h9)
            obtain ⟨rfl, h7⟩ := Xy (hH.set hlt .dead) h6
            exact ⟨_, h7, _, by simp only [GM], X7 h5⟩
      · cases hy
    · rename_i z' els c
      obtain ⟨h1, h2⟩ := cnd hy
      rw [Gf, Gf] at h1
      have h3 := Gj h1.1
      obtain ⟨rfl, h7⟩ := Xy hH h2
      refine ⟨_, h7, .and (.le (c + 1) (els.length + (x0 :: xs').length)) (JM (els.length + (x0 :: xs').length) bytes), ?_, K7.1 h1.2.1, X7 h1.2.2⟩
      simp only [J3, if_pos h3]
    · cases hy
theorem y_append_ok {z bytes:Nat}{s x:IArg}(hy:JfA z bytes s x t h=some (v,h')):Q5 (.append z bytes s x) T H v h':=by
 simp only[JfA,Y1,Kc hT]at hy
 split at hy
 ·rename_i xs hxs
  obtain ⟨H',h1,c,h2,h3⟩:=yapp_ok hH hy
  exact ⟨H',h1,c,by simp only[exec,yels_ok hH hxs,h2],h3⟩
 ·cases hy
end
end
section
def Xop (P:Program) (E:Env) (op:IOp) (T:List CV) (H:List CObj) (v:CV) (H':List CObj):Prop:=
 (∃ c,exec op T H=some (c,v,H')∧c.holds)∨
 (∃ f as,op=.call f as∧CallsC P E f (as.map (JO T)) H fun v' H2=>v'=v∧H2=H')∨
 (∃ x as f l1 l2,op=.callv x as∧JO T x=.fn f l1 l2∧FnOk P f∧CallsC P E f (l1++as.map (JO T)++l2) H fun v' H2=>v'=v∧H2=H')
section
variable {P:Program}{E:Env}{n0:Nat}{N:Fr}{Q:Exit→List CV→List CObj→Prop}{H H':List CObj}{T T2:List CV}{k:List KItem}{op:IOp}{v:CV}
theorem Xop.leads {d:Option Nat}{g:Option (Nat×Bool)}(hg:GOk T g) (h:Xop P E op T H v H'):Leads P E n0 N Q k ⟨d,op,g⟩ T H (put T d v) H':=by
 intro l' hok
 rcases h with ⟨c,h1,h2⟩ | ⟨f,as,rfl,hC⟩ | ⟨x,as,f,l1,l2,rfl,hx,⟨fn,h1,h2,h3⟩,hC⟩
 ·exact JcK (io:=⟨d,op,g⟩) hg h1 h2 hok
 ·exact Ja1 hg hC fun v' H2 ⟨h1,h2⟩=>by rw[h1,h2]; exact hok
 ·exact JbC hg hx h1 h2 h3 hC fun v' H2 ⟨h4,h5⟩=>by rw[h4,h5]; exact hok
theorem Xop.congr (ha:agree op.rd T T2) (h:Xop P E op T H v H'):Xop P E op T2 H v H':=by
 rcases h with ⟨c,h1,h2⟩ | ⟨f,as,rfl,hC⟩ | ⟨x,as,f,l1,l2,rfl,hx,hf,hC⟩
 ·exact .inl ⟨c,by rw[← Kw ha]; exact h1,h2⟩
 ·simp only[IOp.rd]at ha
  exact .inr (.inl ⟨f,as,rfl,by rw[← K4 ha]; exact hC⟩)
 ·simp only[IOp.rd]at ha
  exact .inr (.inr ⟨x,as,f,l1,l2,rfl,by rw[← Jj (Jg ha).1]; exact hx,hf,by rw[← K4 (Jg ha).2]; exact hC⟩)
inductive Runs (P:Program) (E:Env):List IOper→List CV→List CObj→List CV→List CObj→Prop
 |nil {T:List CV} {H:List CObj}:Runs P E [] T H T H
 |op {io:IOper} {l:List IOper} {T T2:List CV} {H H' H2:List CObj} {v:CV}:xgd T io.guard=some true→Xop P E io.op T H v H'→Runs P E l (put T io.dst v) H' T2 H2→Runs P E (io::l) T H T2 H2
 |skip {io:IOper} {l:List IOper} {T T2:List CV} {H H2:List CObj}:xgd T io.guard=some false→Runs P E l (put T io.dst (.tup [])) H T2 H2→Runs P E (io::l) T H T2 H2
theorem runs_ok {l:List IOper}{H2:List CObj}(h:Runs P E l T H T2 H2) (hok:Ok P E n0 N Q k T2 H2):Ok P E n0 N Q (.ops l::k) T H:=by
 induction h with
 |nil=>exact Yg hok
 |op hg hx _ ih=>exact hx.leads (Jat hg) _ (ih hok)
 |skip hg _ ih=>exact Jbq hg (ih hok)
def fastd (l:List IOper) (es:List (List Nat)):Bool:=JcP l.length es (clo es) && Xe l (clo es) (l.map fun io=>if vop io.op then Foot.no else if rop io.op then (.all,.on []) else Foot.any)
theorem vop_all {c:Cond}(hv:vop op=true) (h:exec op T H=some (c,v,H')):H'=H∧∀ H2,exec op T H2=some (c,v,H2):=by
 cases op <;> simp only[vop,Gr]at hv
 case mmx big a b=>
  simp only[exec]at h ⊢
  split at h
  ·split at h
   ·rename_i hk
    simp only[Gb,Gc]at h
    refine ⟨h.2.2.symm,fun H2=>?_⟩
    rw[if_pos hk]
    simp only[Gb,Gc]
    exact ⟨h.1,h.2.1,trivial⟩
   ·cases h
  ·cases h
 all_goals
  simp only[exec]at h ⊢
  repeat' split at h
  all_goals simp_all
theorem rop_same {c:Cond}(hv:rop op=true) (h:exec op T H=some (c,v,H')):H'=H:=by
 cases op <;> simp only[rop,Gr]at hv
 all_goals
  simp only[exec]at h
  repeat' split at h
  all_goals simp_all
theorem Jfa (op:IOp):(vop op=true∧(if vop op then Foot.no else if rop op then (.all,.on []) else Foot.any)=Foot.no)∨(rop op=true∧(if vop op then Foot.no else if rop op then (.all,.on []) else Foot.any)=((.all,.on []):Foot×Foot))∨((if vop op then Foot.no else if rop op then (.all,.on []) else Foot.any)=Foot.any):=by
 cases hv:vop op with
 |true=>exact .inl ⟨rfl,rfl⟩
 |false=>cases hr:rop op with
  |true=>exact .inr (.inl ⟨rfl,rfl⟩)
  |false=>exact .inr (.inr rfl)
theorem vop_plain (h:vop op=true∨rop op=true) (hx:Xop P E op T H v H'):∃ c,exec op T H=some (c,v,H')∧c.holds:=by
 rcases hx with hx | ⟨f,as,rfl,_⟩ | ⟨x,as,f,l1,l2,rfl,_⟩
 ·exact hx
 ·simp[vop,rop]at h
 ·simp[vop,rop]at h
theorem hs_run {io:IOper}(hg:xgd T io.guard=some true) (hx:Xop P E io.op T H v H'):HS P E io T H v H' (if vop io.op then Foot.no else if rop io.op then (.all,.on []) else Foot.any):=by
 have hgk:=Jat hg
 rcases Jfa io.op with ⟨hv,e⟩ | ⟨hr,e⟩ | e
 ·rw[e]
  obtain ⟨c,h1,h2⟩:=vop_plain (.inl hv) hx
  obtain ⟨rfl,h3⟩:=vop_all hv h1
  exact ⟨fun _ _=>rfl,fun T2 H2 ha _=>⟨H2,fun y hy=>(by cases hy),fun _ _=>rfl,fun _ _ _ _ _ hok=>JcK (Yj ha hgk) (by rw[← Kw (Jg ha).2]; exact h3 H2) h2 hok⟩⟩
 ·rw[e]
  obtain ⟨c,h1,h2⟩:=vop_plain (.inr hr) hx
  obtain rfl:=rop_same hr h1
  refine ⟨fun _ _=>rfl,fun T2 H2 ha hxx=>?_⟩
  have hH:H2=H':=Jcl fun y=>hxx y trivial
  subst hH
  exact ⟨H2,fun y hy=>(by cases hy),fun _ _=>rfl,fun _ _ _ _ _ hok=>JcK (Yj ha hgk) (by rw[← Kw (Jg ha).2]; exact h1) h2 hok⟩
 ·rw[e]
  refine ⟨fun _ hn=>absurd trivial hn,fun T2 H2 ha hxx=>?_⟩
  have hH:H2=H:=Jcl fun y=>hxx y trivial
  subst hH
  exact ⟨H',fun _ _=>rfl,fun _ hn=>absurd trivial hn,fun _ _ _ _ l hok=>(hx.congr (Jg ha).2).leads (d:=io.dst) (Yj ha hgk) l hok⟩
theorem hs_skip {io:IOper}(hg:xgd T io.guard=some false):HS P E io T H (.tup []) H (if vop io.op then Foot.no else if rop io.op then (.all,.on []) else Foot.any):=by
 have key:∀ T2 H2,agree io.rd T T2→∀ (n0:Nat) (N:Fr) (Q:Exit→List CV→List CObj→Prop) (k:List KItem) (l:List IOper),Ok P E n0 N Q (.ops l::k) (put T2 io.dst (.tup [])) H2→Ok P E n0 N Q (.ops (io::l)::k) T2 H2:=
  fun T2 H2 ha _ _ _ _ _ hok=>Jbq (by rw[← Ya ha]; exact hg) hok
 rcases Jfa io.op with ⟨_,e⟩ | ⟨_,e⟩ | e
 ·rw[e]; exact ⟨fun _ _=>rfl,fun T2 H2 ha _=>⟨H2,fun y hy=>(by cases hy),fun _ _=>rfl,key T2 H2 ha⟩⟩
 ·rw[e]; exact ⟨fun _ _=>rfl,fun T2 H2 ha _=>⟨H2,fun y hy=>(by cases hy),fun _ _=>rfl,key T2 H2 ha⟩⟩
 ·rw[e]
  refine ⟨fun _ _=>rfl,fun T2 H2 ha hxx=>?_⟩
  have hH:H2=H:=Jcl fun y=>hxx y trivial
  subst hH
  exact ⟨H2,fun _ _=>rfl,fun _ _=>rfl,key T2 H2 ha⟩
theorem runs_vals {l:List IOper}{H2:List CObj}(h:Runs P E l T H T2 H2):∃ (v:Nat→CV) (hh:Nat→List CObj),hh 0=H∧(∀ j,j < l.length→HS P E (KG l j) (tst l v T j) (hh j) (v j) (hh (j+1)) (Xh (l.map fun io=>if vop io.op then Foot.no else if rop io.op then (.all,.on []) else Foot.any) j))∧tst l v T l.length=T2∧hh l.length=H2:=by
 have step:∀ {io:IOper} {l:List IOper} {T T2:List CV} {H H' H2:List CObj} {v0:CV},HS P E io T H v0 H' (if vop io.op then Foot.no else if rop io.op then (.all,.on []) else Foot.any)→
   (∃ (v:Nat→CV) (hh:Nat→List CObj),hh 0=H'∧(∀ j,j < l.length→HS P E (KG l j) (tst l v (put T io.dst v0) j) (hh j) (v j) (hh (j+1)) (Xh (l.map fun io=>if vop io.op then Foot.no else if rop io.op then (.all,.on []) else Foot.any) j))∧tst l v (put T io.dst v0) l.length=T2∧hh l.length=H2)→
   ∃ (v:Nat→CV) (hh:Nat→List CObj),hh 0=H∧(∀ j,j < (io::l).length→HS P E (KG (io::l) j) (tst (io::l) v T j) (hh j) (v j) (hh (j+1)) (Xh ((io::l).map fun io=>if vop io.op then Foot.no else if rop io.op then (.all,.on []) else Foot.any) j))∧tst (io::l) v T (io::l).length=T2∧hh (io::l).length=H2:=by
  rintro io l T T2 H H' H2 v0 hs ⟨v,hh,h0,h1,h2,h3⟩
  let v':Nat→CV:=fun j=>match j with | 0=>v0 | j+1=>v j
  let hh':Nat→List CObj:=fun j=>match j with | 0=>H | j+1=>hh j
  have key:∀ j,tst (io::l) v' T (j+1)=tst l v (put T io.dst v0) j:=by
   intro j
   induction j with
   |zero=>rfl
   |succ j ih=>rw[tst,ih]; rfl
  refine ⟨v',hh',rfl,fun j hj=>?_,by rw[Gy,key]; exact h2,h3⟩
  cases j with
  |zero=>
   have e:hh' (0+1)=H':=h0
   rw[e]; exact hs
  |succ j=>rw[key]; exact h1 j (by simpa using hj)
 induction h with
 |nil=>rename_i T H; exact ⟨fun _=>.un,fun _=>H,rfl,by simp,rfl,rfl⟩
 |op hg hx _ ih=>exact step (hs_run hg hx) ih
 |skip hg _ ih=>exact step (hs_skip hg) ih
theorem runs_dreg {l:List IOper}{es:List (List Nat)}{H2:List CObj}(h:Runs P E l T H T2 H2) (hf:fastd l es=true) (hm:P.follows .mixedOrders=true) (hok:Ok P E n0 N Q k T2 H2):Ok P E n0 N Q (.code (.dreg l es)::k) T H:=by
 simp only[fastd,Gf]at hf
 obtain ⟨v,hh,h0,h1,h2,h3⟩:=runs_vals h
 exact JfX hf.1 hm hf.2 h1 h0 (by rw[h2,h3]; exact hok)
end
inductive LowR:ICode→ICode→Prop
 |skip:LowR .skip .skip
 |reg {l:List IOper}:LowR (.reg l) (.reg l)
 |dreg {l:List IOper} {es:List (List Nat)}:LowR (.dreg l es) (.dreg l es)
 |fast {l:List IOper} {es:List (List Nat)}:fastd l es=true→LowR (.dreg l es) (.reg l)
 |seq {a b a' b':ICode}:LowR a a'→LowR b b'→LowR (.seq a b) (.seq a' b')
 |cond {i:IArg} {a b a' b':ICode}:LowR a a'→LowR b b'→LowR (.cond i a b) (.cond i a' b')
 |block {id:Nat} {a a':ICode}:LowR a a'→LowR (.block id a) (.block id a')
 |loop {a a':ICode}:LowR a a'→LowR (.loop a) (.loop a')
 |rfunc {f:IArg} {ps:List Nat} {a b a' b':ICode}:LowR a a'→LowR b b'→LowR (.rfunc f ps a b) (.rfunc f ps a' b')
 |exit {id:Nat}:LowR (.exit id) (.exit id)
 |ret:LowR .ret .ret
 |bad:LowR .bad .bad
def low:ICode→List Bool→ICode×List Bool
 |.dreg l es,fl=>match fl with
  |true::fl=>(.reg l,fl)
  |_::fl=>(.dreg l es,fl)
  |[]=>(.dreg l es,[])
 |.seq a b,fl=>(.seq (low a fl).1 (low b (low a fl).2).1,(low b (low a fl).2).2)
 |.cond i a b,fl=>(.cond i (low a fl).1 (low b (low a fl).2).1,(low b (low a fl).2).2)
 |.block id a,fl=>(.block id (low a fl).1,(low a fl).2)
 |.loop a,fl=>(.loop (low a fl).1,(low a fl).2)
 |.rfunc f ps a b,fl=>(.rfunc f ps (low a fl).1 (low b (low a fl).2).1,(low b (low a fl).2).2)
 |c,fl=>(c,fl)
def Yi:ICode→List Bool→Bool
 |.dreg l es,fl=>match fl with
  |true::_=>fastd l es
  |_=>true
 |.seq a b,fl=>Yi a fl && Yi b (low a fl).2
 |.cond _ a b,fl=>Yi a fl && Yi b (low a fl).2
 |.block _ a,fl=>Yi a fl
 |.loop a,fl=>Yi a fl
 |.rfunc _ _ a b,fl=>Yi a fl && Yi b (low a fl).2
 |_,_=>true
theorem QX:∀ (c:ICode) (fl:List Bool),Yi c fl=true→LowR c (low c fl).1
 |.skip,_,_=>.skip
 |.reg _,_,_=>.reg
 |.dreg l es,fl,h=>by
  match fl,h with
  |true::fl,h=>exact .fast h
  |false::fl,_=>exact .dreg
  |[],_=>exact .dreg
 |.seq a b,fl,h=>by
  simp only[Yi,Gf]at h
  exact .seq (QX a fl h.1) (QX b _ h.2)
 |.cond i a b,fl,h=>by
  simp only[Yi,Gf]at h
  exact .cond (QX a fl h.1) (QX b _ h.2)
 |.block id a,fl,h=>.block (QX a fl h)
 |.loop a,fl,h=>.loop (QX a fl h)
 |.rfunc f ps a b,fl,h=>by
  simp only[Yi,Gf]at h
  exact .rfunc (QX a fl h.1) (QX b _ h.2)
 |.exit _,_,_=>.exit
 |.ret,_,_=>.ret
 |.bad,_,_=>.bad
end
section
inductive YE where
 |code (c:ICode) (n:Nat) (rs:List RVar)
 |pure (c:ICode) (n:Nat) (rs:List RVar)
 |nat (g:List CV→Option CV)
 |iter (g:List CV→List CV→Option (List (List CV)))
 |heap (g:List CV→Option (List CObj×(Nat→CV)))
 |look (g:List CV→HP→Option CV)
inductive YX where
 |norm (t:RV) (h:HP)
 |exit (id:Nat) (t:RV) (h:HP)
 |ret (t:RV) (h:HP)
 |fail
abbrev YO:=Option (RV×HP)
abbrev JcQ:=Bool→ICode→Nat→RV→HP→YX
def ygd (t:RV) (g:Option (Nat×Bool)):Option Bool:=match g with
 |none=>some true
 |some g=>match Qm t (.s g.1) with
  |.bool b=>some (cond g.2 b (not b))
  |.tup []=>some false
  |_=>none
def yput (d:Option Nat) (v:CV) (n:Nat) (t:RV) (k:RV→YO):YO:=match d with
 |none=>k t
 |some d=>cond (Ga (Nat.succ d) n) (k (vset t d v)) none
def yopsR (d:Option Nat) (n:Nat) (t:RV) (k:RV→HP→YO) (r:YR):YO:=match r with
 |some (v,h')=>yput d v n t fun t'=>k t' h'
 |none=>none
def Jgz (cl:YQ) (io:IOper) (k:Nat→RV→HP→YO) (n:Nat) (t:RV) (h:HP):YO:=match ygd t io.guard with
 |some true=>yopsR io.dst n t (k n) (yop cl io.op t h)
 |some false=>yput io.dst (.tup []) n t fun t'=>k n t' h
 |none=>none
def yops (cl:YQ) (l:List IOper):Nat→RV→HP→YO:=Gg (motive:=fun _=>Nat→RV→HP→YO) (fun _ t h=>some (t,h)) (fun io _ ih=>Jgz cl io ih) l
structure CG where
 get:RV→CV
def cgetP (p:D16×D16):CG:=Prod.rec (motive:=fun _=>CG) (fun a b=>⟨fun t=>pick b (pick a t)⟩) p
def XM (a:IArg):CG:=IArg.rec (motive:=fun _=>CG) (fun n=>Gh (motive:=fun _=>CG) ⟨fun _=>.un⟩ cgetP (Jbs n)) (fun v=>⟨fun _=>v⟩) a
theorem Qx (a:IArg) (t:RV):(XM a).get t=Qm t a:=by
 cases a with
 |c v=>rfl
 |s n=>
  show (Gh (motive:=fun _=>CG) ⟨fun _=>.un⟩ cgetP (Jbs n)).get t=vget t n
  unfold vget
  cases Jbs n <;> rfl
structure CB where
 f:IntKind→Int→Int→Option CV
def cbin (op:BinOp):CB:=
 BinOp.rec (motive:=fun _=>CB) ⟨ybAdd⟩ ⟨ybSub⟩ ⟨K5 .mul⟩ ⟨K5 .quo⟩ ⟨K5 .rem⟩ ⟨K5 .and⟩ ⟨K5 .or⟩ ⟨K5 .xor⟩ ⟨K5 .shl⟩ ⟨K5 .shr⟩ ⟨K5 .andNot⟩ ⟨ybEq⟩ ⟨ybNe⟩ ⟨ybLt⟩ ⟨ybLe⟩ ⟨ybGt⟩ ⟨ybGe⟩ op
theorem cbin_eq (op:BinOp):(cbin op).f=ybin op:=by cases op <;> rfl
abbrev YK:=CV→HP→YO
structure CO where
 run:YQ→RV→HP→YK→YO
def kR (k:YK) (r:YR):YO:=match r with
 |some (v,h)=>k v h
 |none=>none
def kO (h:HP) (k:YK) (r:Option CV):YO:=Gh (motive:=fun _=>YO) none (fun v=>k v h) r
theorem kO_eq (h:HP) (k:YK) (r:Option CV):kO h k r=kR k (yO h r):=by cases r <;> rfl
def cii (op:BinOp) (b:CB) (p q:IntKind×Int):Option CV:=cond (kEq p.1 q.1) (b.f p.1 p.2 q.2) (yckO (binK op p.1 q.1 p.2 q.2))
def cii1 (op:BinOp) (tk:TK) (bf:CB) (a b:CV) (r:Option (IntKind×Int)):Option CV:=Gh (motive:=fun _=>Option CV) (yother op tk a b) (fun p=>Gh (motive:=fun _=>Option CV) none (fun q=>cii op bf p q) (vInt b)) r
theorem cii1_eq (op:BinOp) (tk:TK) (a b:CV) (r:Option (IntKind×Int)):cii1 op tk (cbin op) a b r=yii1 op tk a b r:=by
 cases r with
 |none=>rfl
 |some p=>
  show Gh (motive:=fun _=>Option CV) none (fun q=>cii op (cbin op) p q) (vInt b)=(match vInt b with
   |some q=>yii op p q
   |none=>none)
  cases vInt b with
  |none=>rfl
  |some q=>
   show cii op (cbin op) p q=yii op p q
   unfold cii yii
   rw[cbin_eq]
def YJ (op:IOp):CO:=⟨fun cl t h k=>kR k (yop cl op t h)⟩
def c_mv (a:IArg):CO:=⟨fun _ t h k=>k ((XM a).get t) h⟩
def c_bin (op:BinOp) (tk:TK) (x y:IArg):CO:=⟨fun _ t h k=>kO h k (cii1 op tk (cbin op) ((XM x).get t) ((XM y).get t) (vInt ((XM x).get t)))⟩
def c_pick (c a b:IArg):CO:=⟨fun _ t h k=>kR k (Jde ((XM c).get t) ((XM a).get t) ((XM b).get t) h)⟩
def c_load (ag:Bool) (n:Nat) (a:IArg):CO:=⟨fun _ t h k=>kR k (Jdf ag n ((XM a).get t) h)⟩
def c_store (n:Nat) (a v:IArg):CO:=⟨fun _ t h k=>kR k (Jbm n ((XM a).get t) ((XM v).get t) h)⟩
def c_not (x:IArg):CO:=⟨fun _ t h k=>kR k (JgC ((XM x).get t) h)⟩
def c_faddr (off:Nat) (x:IArg):CO:=⟨fun _ t h k=>kR k (Jbp off ((XM x).get t) h)⟩
def c_field (ag:Bool) (off n:Nat) (x:IArg):CO:=⟨fun _ t h k=>kR k (Jbo ag off n ((XM x).get t) h)⟩
def c_iaddr (z:Nat) (x i:IArg):CO:=⟨fun _ t h k=>kR k (Jbn z ((XM x).get t) ((XM i).get t) h)⟩
def c_indexS (x i:IArg):CO:=⟨fun _ t h k=>kR k (Y0 ((XM x).get t) ((XM i).get t) h)⟩
def c_len (tk:TK) (x:IArg):CO:=⟨fun _ t h k=>kR k (JgE tk ((XM x).get t) h)⟩
def c_append (z bytes:Nat) (s x:IArg):CO:=⟨fun _ t h k=>kR k (Y1 z bytes ((XM s).get t) ((XM x).get t) h)⟩
def c_extract (x:IArg) (i:Nat):CO:=⟨fun _ t h k=>kR k (X9 ((XM x).get t) i h)⟩
def cgets (l:List IArg):List CG:=Gg (motive:=fun _=>List CG) [] (fun a _ ih=>XM a::ih) l
def runG (t:RV) (l:List CG):List CV:=Gg (motive:=fun _=>List CV) [] (fun g _ ih=>g.get t::ih) l
theorem runG_eq (t:RV):∀ (l:List IArg),runG t (cgets l)=Jer t l
 |[]=>rfl
 |a::l=>by
  show (XM a).get t::runG t (cgets l)=Qm t a::Jer t l
  rw[Qx,runG_eq t l]
def c_call (f:Nat) (l:List IArg):CO:=⟨fun cl t h k=>kR k (cl f (runG t (cgets l)) h)⟩
def copn (op:IOp):CO:=
 IOp.rec (motive:=fun _=>CO) c_mv c_pick (fun z=>YJ (.alloc z)) (fun a=>YJ (.box a)) (fun z ps=>YJ (.build z ps)) (fun z n zero ps=>YJ (.bslice z n zero ps)) c_load c_store c_bin (fun ks g x y=>YJ (.eqs ks g x y)) c_not (fun x=>YJ (.neg x)) (fun k x=>YJ (.conv k x)) (fun f a b=>YJ (.mkfn f a b)) (YJ .mkmap) (fun z b zero l c=>YJ (.mkslice z b zero l c)) (fun z x lo hi mx=>YJ (.slice z x lo hi mx)) c_faddr c_field c_iaddr c_indexS (fun tk z ok m k=>YJ (.lookup tk z ok m k)) (fun tk m k v=>YJ (.mapset tk m k v)) c_len c_append (fun z x=>YJ (.clear z x)) c_extract (fun x=>YJ (.nchk x)) (fun x lo hi=>YJ (.sliceS x lo hi)) (fun b x y=>YJ (.mmx b x y)) (fun z x y=>YJ (.copy z x y)) c_call (fun x l=>YJ (.callv x l)) op
theorem copn_eq (op:IOp) (cl:YQ) (t:RV) (h:HP) (k:YK):(copn op).run cl t h k=kR k (yop cl op t h):=by
 cases op
 case mv a=>show k ((XM a).get t) h=k (Qm t a) h; rw[Qx]
 case bin op tk x y=>
  show kO h k (cii1 op tk (cbin op) ((XM x).get t) ((XM y).get t) (vInt ((XM x).get t)))=kR k (yO h (yii1 op tk (Qm t x) (Qm t y) (vInt (Qm t x))))
  rw[Qx,Qx,cii1_eq,kO_eq]
 case pick c a b=>show kR k (Jde ((XM c).get t) ((XM a).get t) ((XM b).get t) h)=kR k (Jde (Qm t c) (Qm t a) (Qm t b) h); simp only[Qx]
 case load ag n a=>show kR k (Jdf ag n ((XM a).get t) h)=kR k (Jdf ag n (Qm t a) h); simp only[Qx]
 case store n a v=>show kR k (Jbm n ((XM a).get t) ((XM v).get t) h)=kR k (Jbm n (Qm t a) (Qm t v) h); simp only[Qx]
 case not x=>show kR k (JgC ((XM x).get t) h)=kR k (JgC (Qm t x) h); simp only[Qx]
 case faddr off x=>show kR k (Jbp off ((XM x).get t) h)=kR k (Jbp off (Qm t x) h); simp only[Qx]
 case field ag off n x=>show kR k (Jbo ag off n ((XM x).get t) h)=kR k (Jbo ag off n (Qm t x) h); simp only[Qx]
 case iaddr z x i=>show kR k (Jbn z ((XM x).get t) ((XM i).get t) h)=kR k (Jbn z (Qm t x) (Qm t i) h); simp only[Qx]
 case indexS x i=>show kR k (Y0 ((XM x).get t) ((XM i).get t) h)=kR k (Y0 (Qm t x) (Qm t i) h); simp only[Qx]
 case len tk x=>show kR k (JgE tk ((XM x).get t) h)=kR k (JgE tk (Qm t x) h); simp only[Qx]
 case append z bytes s x=>show kR k (Y1 z bytes ((XM s).get t) ((XM x).get t) h)=kR k (Y1 z bytes (Qm t s) (Qm t x) h); simp only[Qx]
 case extract x i=>show kR k (X9 ((XM x).get t) i h)=kR k (X9 (Qm t x) i h); simp only[Qx]
 case call f l=>show kR k (cl f (runG t (cgets l)) h)=kR k (cl f (Jer t l) h); rw[runG_eq]
 all_goals rfl
structure CD where
 run:CV→RV→(RV→YO)→YO
def cdst (n:Nat) (d:Option Nat):CD:=Gh (motive:=fun _=>CD) ⟨fun _ t k=>k t⟩ (fun d=>cond (Ga (Nat.succ d) n) (Gh (motive:=fun _=>CD) ⟨fun _ t k=>k t⟩ (fun p=>⟨fun v t k=>k (vsetP t v p)⟩) (Jbs d)) ⟨fun _ _ _=>none⟩) d
theorem cdst_eq (n:Nat) (d:Option Nat) (v:CV) (t:RV) (k:RV→YO):(cdst n d).run v t k=yput d v n t k:=by
 cases d with
 |none=>rfl
 |some d=>
  show (cond (Ga (Nat.succ d) n) (Gh (motive:=fun _=>CD) ⟨fun _ t k=>k t⟩ (fun p=>⟨fun v t k=>k (vsetP t v p)⟩) (Jbs d)) ⟨fun _ _ _=>none⟩:CD).run v t k=cond (Ga (Nat.succ d) n) (k (vset t d v)) none
  cases Ga (Nat.succ d) n with
  |false=>rfl
  |true=>
   show (Gh (motive:=fun _=>CD) ⟨fun _ t k=>k t⟩ (fun p=>⟨fun v t k=>k (vsetP t v p)⟩) (Jbs d):CD).run v t k=k (vset t d v)
   unfold vset
   cases Jbs d <;> rfl
structure CS where
 run:YQ→RV→HP→(RV→HP→YO)→YO
def cgd (w b:Bool) (x y:YO):YO:=cond (cond w b (not b)) x y
def cstep (n:Nat) (io:IOper):CS:=Gh (motive:=fun _=>CS) ⟨fun cl t h k=>(copn io.op).run cl t h fun v h'=>(cdst n io.dst).run v t fun t'=>k t' h'⟩
 (fun g=>⟨fun cl t h k=>match (XM (.s g.1)).get t with
  |.bool b=>cgd g.2 b ((copn io.op).run cl t h fun v h'=>(cdst n io.dst).run v t fun t'=>k t' h') ((cdst n io.dst).run (.tup []) t fun t'=>k t' h)
  |.tup []=>(cdst n io.dst).run (.tup []) t fun t'=>k t' h
  |_=>none⟩) io.guard
theorem cstep_eq (n:Nat) (io:IOper) (cl:YQ) (t:RV) (h:HP) (k:RV→HP→YO):(cstep n io).run cl t h k=Jgz cl io (fun _=>k) n t h:=by
 have key:((copn io.op).run cl t h fun v h'=>(cdst n io.dst).run v t fun t'=>k t' h')=yopsR io.dst n t k (yop cl io.op t h):=by
  rw[copn_eq]
  unfold kR yopsR
  cases yop cl io.op t h with
  |none=>rfl
  |some r=>exact cdst_eq n io.dst r.1 t _
 obtain ⟨d,op,g⟩:=io
 cases g with
 |none=>exact key
 |some g=>
  show (match (XM (.s g.1)).get t with
   |.bool b=>cgd g.2 b ((copn op).run cl t h fun v h'=>(cdst n d).run v t fun t'=>k t' h') ((cdst n d).run (.tup []) t fun t'=>k t' h)
   |.tup []=>(cdst n d).run (.tup []) t fun t'=>k t' h
   |_=>none)=(match (match Qm t (.s g.1) with
    |.bool b=>some (cond g.2 b (not b))
    |.tup []=>some false
    |_=>none) with
   |some true=>yopsR d n t k (yop cl op t h)
   |some false=>yput d (.tup []) n t fun t'=>k t' h
   |none=>none)
  rw[Qx,cdst_eq]
  have key:((copn op).run cl t h fun v h'=>(cdst n d).run v t fun t'=>k t' h')=yopsR d n t k (yop cl op t h):=key
  rw[key]
  split
  ·rename_i b _
   unfold cgd
   cases cond g.2 b (not b) <;> rfl
  ·rfl
  ·rfl
def ccomp (n:Nat) (l:List IOper):List CS:=Gg (motive:=fun _=>List CS) [] (fun io _ ih=>cstep n io::ih) l
def crun (cl:YQ) (l:List CS):RV→HP→YO:=Gg (motive:=fun _=>RV→HP→YO) (fun t h=>some (t,h)) (fun c _ ih t h=>c.run cl t h ih) l
theorem Jgo (cl:YQ) (n:Nat):∀ (l:List IOper) (t:RV) (h:HP),crun cl (ccomp n l) t h=yops cl l n t h
 |[],_,_=>rfl
 |io::l,t,h=>by
  show (cstep n io).run cl t h (crun cl (ccomp n l))=Jgz cl io (yops cl l) n t h
  have e:crun cl (ccomp n l)=yops cl l n:=by funext t h; exact Jgo cl n l t h
  rw[cstep_eq,e]
  unfold Jgz
  rfl
def yresR (t:RV) (h:HP) (r:RVar):Option CV:=match r with
 |.tmp s=>some (Qm t (.s s))
 |.cell ag n s=>match y_load ag n (.s s) t h with
  |some (v,_)=>some v
  |none=>none
def yresL (t:RV) (h:HP) (l:List RVar):Option (List CV):=Gg (motive:=fun _=>Option (List CV)) (some []) (fun r _ ih=>match yresR t h r,ih with
 |some v,some vs=>some (v::vs)
 |_,_=>none) l
def yres (rs:List RVar) (t:RV) (h:HP):YR:=match yresL t h rs with
 |some vs=>match vs with
  |[v]=>some (v,h)
  |vs=>some (.tup vs,h)
 |none=>none
def yend (rs:List RVar) (x:YX):YR:=match x with
 |.norm t h=>yres rs t h
 |.ret t h=>yres rs t h
 |_=>none
def ycode (run:JcQ) (args:List CV) (h:HP) (c:ICode) (n:Nat) (rs:List RVar):YR:=cond (and (Ga args.length n) (Ga n 255)) (yend rs (run false c n (addT args 0 Jfi) h)) none
def JgB (h:HP) (r:YR):YR:=match r with
 |some (v,h2)=>match xfzV 3000 v h2.toL with
  |some v'=>some (v',h)
  |none=>none
 |none=>none
def ypure (run:JcQ) (args:List CV) (h:HP) (c:ICode) (n:Nat) (rs:List RVar):YR:=cond (Jk args) (JgB h (ycode run args Jd7 c n rs)) none
def ynat (args:List CV) (h:HP) (g:List CV→Option CV):YR:=match g args with
 |some v=>some (v,h)
 |none=>none
def yheap (args:List CV) (h:HP) (g:List CV→Option (List CObj×(Nat→CV))):YR:=match g args with
 |some p=>cond (Ga (h.n+p.1.length) 2046) (some (p.2 h.n,HP.addL p.1 h)) none
 |none=>none
def ylook (args:List CV) (h:HP) (g:List CV→HP→Option CV):YR:=match g args h with
 |some v=>some (v,h)
 |none=>none
theorem ylook_ok {args:List CV}{h h':HP}{g:List CV→HP→Option CV}{v:CV}(hy:ylook args h g=some (v,h')):g args h=some v∧h'=h:=by
 unfold ylook at hy
 split at hy
 ·rename_i v' hv
  simp only[Gb,Gc]at hy
  exact ⟨by rw[hv,hy.1],hy.2.symm⟩
 ·cases hy
theorem yheap_ok {args:List CV}{h h':HP}{g:List CV→Option (List CObj×(Nat→CV))}{v:CV}(hy:yheap args h g=some (v,h')) {H:List CObj}(hH:RepH h H):∃ obs mk,g args=some (obs,mk)∧v=mk H.length∧RepH h' (H++obs):=by
 unfold yheap at hy
 split at hy
 ·rename_i p hp
  obtain ⟨h1,h2⟩:=cnd hy
  simp only[Gb,Gc]at h2
  obtain ⟨rfl,rfl⟩:=h2
  refine ⟨p.1,p.2,hp,by rw[hH.1],RepH.addL _ hH ?_⟩
  have:=Gq h1
  exact this
 ·cases hy
def ycallE (run:JcQ) (args:List CV) (h:HP) (e:YE):YR:=
 YE.casesOn (motive:=fun _=>YR) e (ycode run args h) (ypure run args h) (ynat args h) (fun _=>none) (yheap args h) (ylook args h)
def Jdd (tb:BT YE) (run:JcQ):YQ:=fun f args h=>Gh (motive:=fun _=>YR) none (fun e=>ycallE run args h e) (tb.get f)
def ycl (cl:YQ):JcS:=fun f args H=>match HP.ofL H with
 |some h=>match cl f args h with
  |some (v,h')=>some (v,h'.toL)
  |none=>none
 |none=>none
def ofLT (n:Nat) (T:List CV):Option (RV):=cond (Gd T.length n) (some (addT T 0 Jfi)) none
def ynorm (n:Nat) (T:List CV) (H:List CObj):YX:=match ofLT n T,HP.ofL H with
 |some t,some h=>.norm t h
 |_,_=>.fail
def JbY (run:JcQ) (ps:List Nat) (x y:ICode) (n:Nat) (t:RV) (T:List CV) (xs:List (List CV)):HP→YX:=
 Gg (motive:=fun _=>HP→YX) (fun h=>.norm t h) (fun c _ ih h=>match ofLT n (pset T ps c) with
  |some t1=>match run true x n t1 h with
   |.norm t2 h2=>match run true y n t2 h2 with
    |.norm _ h3=>ih h3
    |.exit id _ h3=>.exit id t h3
    |.ret _ h3=>.ret t h3
    |.fail=>.fail
   |_=>.fail
  |none=>.fail) xs
def yiter (tb:BT YE) (g:Nat) (l1 l2:List CV):Option (List (List CV)):=match tb.get g with
 |some (.iter hh)=>hh l1 l2
 |_=>none
def yrfunc2 (tb:BT YE) (run:JcQ) (ps:List Nat) (x y:ICode) (n:Nat) (T:List CV) (H:List CObj) (v:CV):YX:=match v with
 |.fn g l1 l2=>match yiter tb g l1 l2 with
  |some xs=>cond (and (Jk l1) (and (Jk l2) (xs.all fun c=>Gd c.length ps.length))) (match ofLT n T,HP.ofL H with
   |some t,some h=>JbY run ps x y n t T xs h
   |_,_=>.fail) .fail
  |none=>.fail
 |_=>.fail
def Jgy (tb:BT YE) (run:JcQ) (rnd:Bool) (f:IArg) (ps:List Nat) (x y:ICode) (n:Nat) (t:RV) (h:HP):YX:=cond rnd .fail (match xfz f 50 (toLT n t) h.toL with
 |some (T,H)=>yrfunc2 tb run ps x y n T H (JO T f)
 |none=>.fail)
def yskip (_:Nat) (t:RV) (h:HP):YX:=.norm t h
def yoX (r:YO):YX:=match r with
 |some (t,h)=>.norm t h
 |none=>.fail
def yreg (tb:BT YE) (run:JcQ) (l:List IOper) (n:Nat) (t:RV) (h:HP):YX:=yoX (crun (Jdd tb run) (ccomp n l) t h)
def ydreg (tb:BT YE) (run:JcQ) (l:List IOper) (es:List (List Nat)) (n:Nat) (t:RV) (h:HP):YX:=match xdreg (ycl (Jdd tb run)) l es (toLT n t) h.toL with
 |some (T',H')=>ynorm n T' H'
 |none=>.fail
def yseqX (k:RV→HP→YX) (x:YX):YX:=match x with
 |.norm t h=>k t h
 |x=>x
def yseq (run:JcQ) (rnd:Bool) (a b:ICode) (n:Nat) (t:RV) (h:HP):YX:=yseqX (run rnd b n) (run rnd a n t h)
def ycond (run:JcQ) (rnd:Bool) (i:IArg) (a b:ICode) (n:Nat) (t:RV) (h:HP):YX:=match Qm t i with
 |.bool x=>run rnd (cond x a b) n t h
 |_=>.fail
def yblockX (id:Nat) (x:YX):YX:=match x with
 |.exit id' t h=>cond (Gd id' id) (.norm t h) (.exit id' t h)
 |x=>x
def yblock (run:JcQ) (rnd:Bool) (id:Nat) (a:ICode) (n:Nat) (t:RV) (h:HP):YX:=yblockX id (run rnd a n t h)
def yloop (run:JcQ) (rnd:Bool) (a:ICode) (n:Nat) (t:RV) (h:HP):YX:=yseqX (run rnd (.loop a) n) (run rnd a n t h)
def yexit (id:Nat) (_:Nat) (t:RV) (h:HP):YX:=.exit id t h
def yret (_:Nat) (t:RV) (h:HP):YX:=.ret t h
def ybad (_:Nat) (_:RV) (_:HP):YX:=.fail
def ystep (tb:BT YE) (run:JcQ):JcQ:=fun rnd c=>
 ICode.casesOn (motive:=fun _=>Nat→RV→HP→YX) c yskip (yreg tb run) (ydreg tb run) (yseq run rnd) (ycond run rnd) (yblock run rnd) (yloop run rnd) (Jgy tb run rnd) yexit yret ybad
def JbV (tb:BT YE) (n:Nat):JcQ:=Nat.rec (motive:=fun _=>JcQ) (fun _ _ _ _ _=>.fail) (fun _ ih=>ystep tb ih) n
def yfn (tb:BT YE) (n f:Nat) (args:List CV):Option CV:=match Jdd tb (JbV tb n) f args Jd7 with
 |some (v,_)=>some v
 |none=>none
def Jfr (P:Program) (f:Nat):YE→Prop
 |.code c n rs=>FnOk P f∧∃ F,Jd P f=some F∧LowR F.body c∧n=F.ntmps∧rs=F.results
 |.pure c n rs=>FnOk P f∧∃ F,Jd P f=some F∧LowR F.body c∧n=F.ntmps∧rs=F.results
 |.nat g=>FnOk P f∧∀ args v,g args=some v→Fn P f args v
 |.iter g=>FnOk P f∧∀ l1 l2 xs,Jk l1=true→Jk l2=true→g l1 l2=some xs→Iter P f l1 l2 xs
 |.look g=>FnOk P f∧∀ args h v,g args h=some v→∀ E H,RepH h H→CallsC P E f args H fun v' H'=>v'=v∧H'=H
 |.heap g=>FnOk P f∧∀ args obs mk,g args=some (obs,mk)→∀ E H,CallsC P E f args H fun v H2=>v=mk H.length∧H2=H++obs
def YC (C:Nat→List CV→List CObj→CV→List CObj→Prop) (cl:YQ):Prop:=∀ f args h v h',cl f args h=some (v,h')→∀ H,RepH h H→∃ H',RepH h' H'∧C f args H v H'
def CAny:Nat→List CV→List CObj→CV→List CObj→Prop:=fun _ _ _ _ _=>True
def COk (P:Program) (E:Env):Nat→List CV→List CObj→CV→List CObj→Prop:=fun f args H v H'=>FnOk P f∧CallsC P E f args H fun v' H2=>v'=v∧H2=H'
def yk (P:Program) (E:Env) (n0:Nat) (N:Fr) (Q:Exit→List CV→List CObj→Prop) (k:List KItem) (n:Nat):YX→Prop
 |.norm t h=>∀ T H,RepT n t T→RepH h H→Ok P E n0 N Q k T H
 |.exit id t h=>∀ T H,RepT n t T→RepH h H→match Q6 id k with
  |some k'=>Ok P E n0 N Q k' T H
  |none=>Q (.exit id) T H
 |.ret t h=>∀ T H,RepT n t T→RepH h H→Q .ret T H
 |.fail=>False
def YRunOk (P:Program) (run:JcQ):Prop:=
 ∀ (E:Env) (n0:Nat) (N:Fr) (Q:Exit→List CV→List CObj→Prop) (k:List KItem) (rnd:Bool) (c c':ICode) (n:Nat) (t:RV) (T:List CV) (h:HP) (H:List CObj),LowR c c'→(rnd=false→N.rnd=false)→RepT n t T→RepH h H→yk P E n0 N Q k n (run rnd c' n t h)→Ok P E n0 N Q (.code c::k) T H
section
variable {P:Program}{E:Env}{tb:BT YE}
theorem yop_gen {C:Nat→List CV→List CObj→CV→List CObj→Prop}{cl:YQ}(hcl:YC C cl) {n:Nat}{t:RV}{T:List CV}{h:HP}{H:List CObj}{v:CV}{h':HP}(hT:RepT n t T) (hH:RepH h H) {op:IOp}(hy:yop cl op t h=some (v,h')):∃ H',RepH h' H'∧((∃ c,exec op T H=some (c,v,H')∧c.holds)∨(∃ f as,op=.call f as∧C f (as.map (JO T)) H v H')∨(∃ x as f l1 l2,op=.callv x as∧JO T x=.fn f l1 l2∧C f (l1++as.map (JO T)++l2) H v H')):=by
 have pl:∀ {op:IOp},Q5 op T H v h'→∃ H',RepH h' H'∧((∃ c,exec op T H=some (c,v,H')∧c.holds)∨(∃ f as,op=.call f as∧C f (as.map (JO T)) H v H')∨(∃ x as f l1 l2,op=.callv x as∧JO T x=.fn f l1 l2∧C f (l1++as.map (JO T)++l2) H v H')):=fun ⟨H',h1,h2⟩=>⟨H',h1,.inl h2⟩
 cases op
 case mv a=>exact pl (y_mv_ok hT hH hy)
 case pick a b c=>exact pl (y_pick_ok hT hH hy)
 case alloc z=>exact pl (y_alloc_ok (t:=t) hH hy)
 case box a=>exact pl (y_box_ok hT hH hy)
 case build z ps=>exact pl (y_build_ok hT hH hy)
 case bslice z k zero ps=>exact pl (y_bslice_ok hT hH hy)
 case load ag k a=>exact pl (JgD hT hH hy)
 case store k a b=>exact pl (y_store_ok hT hH hy)
 case bin op tk x y=>exact pl (y_bin_ok hT hH hy)
 case eqs ks ng x y=>exact pl (X8 hH (by simp only[exec,XN hT]) hy)
 case not x=>exact pl (y_not_ok hT hH hy)
 case neg x=>exact pl (X8 hH (by simp only[exec,XN hT]) hy)
 case conv k x=>exact pl (y_conv_ok hT hH hy)
 case mkfn f l1 l2=>exact pl (y_mkfn_ok hT hH hy)
 case mkmap=>exact pl (y_mkmap_ok (t:=t) hH hy)
 case mkslice z b zero l c=>exact pl (X8 hH (by simp only[exec,XN hT]) hy)
 case slice z x lo hi mx=>exact pl (y_slice_ok hT hH hy)
 case faddr off x=>exact pl (y_faddr_ok hT hH hy)
 case field ag off k x=>exact pl (y_field_ok hT hH hy)
 case iaddr z x i=>exact pl (y_iaddr_ok hT hH hy)
 case indexS x i=>exact pl (y_indexS_ok hT hH hy)
 case lookup tk zero ok m k=>exact pl (y_lookup_ok hT hH hy)
 case mapset tk m k x=>exact pl (y_mapset_ok hT hH hy)
 case len tk x=>exact pl (y_len_ok hT hH hy)
 case append z b s x=>exact pl (y_append_ok hT hH hy)
 case clear zero x=>exact pl (X8 hH (by simp only[exec,XN hT]) hy)
 case extract x i=>exact pl (y_extract_ok hT hH hy)
 case nchk x=>exact pl (y_nchk_ok hT hH hy)
 case sliceS x lo hi=>exact pl (y_sliceS_ok hT hH hy)
 case mmx b x y=>exact pl (X8 hH (by simp only[exec,XN hT]) hy)
 case copy z x y=>exact pl (X8 hH (by simp only[exec,XN hT]) hy)
 case call f as=>
  have hy:cl f (Jer t as) h=some (v,h'):=hy
  rw[JcT hT]at hy
  obtain ⟨H',h1,h2⟩:=hcl _ _ _ _ _ hy H hH
  exact ⟨H',h1,.inr (.inl ⟨f,as,rfl,h2⟩)⟩
 case callv x as=>
  have hy:y_callv cl x as t h=some (v,h'):=hy
  simp only[y_callv,Kc hT,JcT hT,appL_eq]at hy
  split at hy
  ·rename_i f l1 l2 hx
   obtain ⟨H',h1,h2⟩:=hcl _ _ _ _ _ hy H hH
   exact ⟨H',h1,.inr (.inr ⟨x,as,f,l1,l2,rfl,hx,by rw[GL]; exact h2⟩)⟩
  ·cases hy
theorem yop_ok {cl:YQ}(hcl:YC (COk P E) cl) {n:Nat}{t:RV}{T:List CV}{h:HP}{H:List CObj}{v:CV}{h':HP}(hT:RepT n t T) (hH:RepH h H) {op:IOp}(hy:yop cl op t h=some (v,h')):∃ H',RepH h' H'∧Xop P E op T H v H':=by
 obtain ⟨H',h1,h2⟩:=yop_gen hcl hT hH hy
 refine ⟨H',h1,?_⟩
 rcases h2 with h2 | ⟨f,as,e,h2⟩ | ⟨x,as,f,l1,l2,e,hx,h2⟩
 ·exact .inl h2
 ·exact .inr (.inl ⟨f,as,e,h2.2⟩)
 ·exact .inr (.inr ⟨x,as,f,l1,l2,e,hx,h2.1,h2.2⟩)
theorem ygd_ok {n:Nat}{t:RV}{T:List CV}(hT:RepT n t T) {g:Option (Nat×Bool)}{b:Bool}(hy:ygd t g=some b):xgd T g=some b:=by
 unfold ygd at hy
 split at hy
 ·exact hy
 ·rename_i g
  obtain ⟨s,want⟩:=g
  simp only[Kc hT,JO]at hy
  simp only[xgd]
  split at hy
  ·rename_i x hx
   rw[hx]
   simp only[Gb]at hy
   rw[← hy]
   cases x <;> cases want <;> rfl
  ·rename_i hx
   rw[hx]; exact hy
  ·cases hy
theorem Jfs {d:Option Nat}{v:CV}{n:Nat}{t:RV}{T:List CV}(hT:RepT n t T) {k:RV→YO}{r:RV×HP}(hy:yput d v n t k=some r):∃ t',RepT n t' (put T d v)∧k t'=some r:=by
 unfold yput at hy
 split at hy
 ·exact ⟨t,hT,hy⟩
 ·rename_i d
  obtain ⟨h1,h2⟩:=cnd hy
  exact ⟨_,hT.set (K7.1 h1) v,h2⟩
theorem Jfu {cl:YQ}(hcl:YC (COk P E) cl):∀ (l:List IOper) {n:Nat}{t:RV}{T:List CV}{h:HP}{H:List CObj}{t':RV}{h':HP},RepT n t T→RepH h H→yops cl l n t h=some (t',h')→∃ T' H',RepT n t' T'∧RepH h' H'∧Runs P E l T H T' H'
 |[],n,t,T,h,H,t',h',hT,hH,hy=>by
  cases hy; exact ⟨T,H,hT,hH,.nil⟩
 |io::l,n,t,T,h,H,t',h',hT,hH,hy=>by
  have hy:Jgz cl io (yops cl l) n t h=some (t',h'):=hy
  unfold Jgz at hy
  split at hy
  ·rename_i hg
   have hg:=ygd_ok hT hg
   unfold yopsR at hy
   split at hy
   ·rename_i v h1 hop
    obtain ⟨H1,hH1,hx⟩:=yop_ok hcl hT hH hop
    obtain ⟨t1,hT1,h2⟩:=Jfs hT hy
    obtain ⟨T',H',a,b,c⟩:=Jfu hcl l hT1 hH1 h2
    exact ⟨T',H',a,b,.op hg hx c⟩
   ·cases hy
  ·rename_i hg
   have hg:=ygd_ok hT hg
   obtain ⟨t1,hT1,h2⟩:=Jfs hT hy
   obtain ⟨T',H',a,b,c⟩:=Jfu hcl l hT1 hH h2
   exact ⟨T',H',a,b,.skip hg c⟩
  ·cases hy
theorem Jft {cl:YQ}(hcl:YC CAny cl):∀ (l:List IOper) {n:Nat}{t:RV}{T:List CV}{h:HP}{H:List CObj}{t':RV}{h':HP},RepT n t T→RepH h H→yops cl l n t h=some (t',h')→∃ T' H',RepT n t' T'∧RepH h' H'
 |[],n,t,T,h,H,t',h',hT,hH,hy=>by
  cases hy; exact ⟨T,H,hT,hH⟩
 |io::l,n,t,T,h,H,t',h',hT,hH,hy=>by
  have hy:Jgz cl io (yops cl l) n t h=some (t',h'):=hy
  unfold Jgz at hy
  split at hy
  ·unfold yopsR at hy
   split at hy
   ·rename_i v h1 hop
    obtain ⟨H1,hH1,_⟩:=yop_gen hcl hT hH hop
    obtain ⟨t1,hT1,h2⟩:=Jfs hT hy
    exact Jft hcl l hT1 hH1 h2
   ·cases hy
  ·obtain ⟨t1,hT1,h2⟩:=Jfs hT hy
   exact Jft hcl l hT1 hH h2
  ·cases hy
theorem yresL_ok {n:Nat}{t:RV}{T:List CV}{h:HP}{H:List CObj}(hT:RepT n t T) (hH:RepH h H):∀ (rs:List RVar) {vs:List CV},yresL t h rs=some vs→∃ c,Qc T H rs=some (c,vs)∧c.holds
 |[],vs,hy=>by cases hy; exact ⟨.tt,rfl,trivial⟩
 |r::rs,vs,hy=>by
  have hy:(match yresR t h r,yresL t h rs with
   |some v,some vs=>some (v::vs)
   |_,_=>none)=some vs:=hy
  split at hy
  ·rename_i v vs' h1 h2
   simp only[Gb]at hy
   subst hy
   obtain ⟨c,h3,h4⟩:=yresL_ok hT hH rs h2
   have h5:∃ c,JaQ T H r=some (c,v)∧c.holds:=by
    unfold yresR at h1
    split at h1
    ·rw[Kc hT]at h1
     simp only[Gb]at h1
     exact ⟨.tt,by rw[← h1]; rfl,trivial⟩
    ·split at h1
     ·rename_i v' h' hl
      simp only[Gb]at h1
      subst h1
      obtain ⟨H',_,c,h6,h7⟩:=JgD hT hH hl
      exact ⟨c,by simp only[JaQ,h6],h7⟩
     ·cases h1
   obtain ⟨c',h6,h7⟩:=h5
   exact ⟨.and c' c,by simp only[Qc,h6,h3],h7,h4⟩
  ·cases hy
theorem yres_ok {rs:List RVar}{n:Nat}{t:RV}{T:List CV}{h:HP}{H:List CObj}(hT:RepT n t T) (hH:RepH h H) {v:CV}{h':HP}(hy:yres rs t h=some (v,h')):h'=h∧resK (Qc T H rs) (fun v' H2=>v'=v∧H2=H) H:=by
 unfold yres at hy
 split at hy
 ·rename_i vs hvs
  obtain ⟨c,h1,h2⟩:=yresL_ok hT hH rs hvs
  rw[h1]
  split at hy
  ·simp only[Gb,Gc]at hy
   obtain ⟨rfl,rfl⟩:=hy
   exact ⟨rfl,h2,rfl,rfl⟩
  ·rename_i hne
   simp only[Gb,Gc]at hy
   obtain ⟨rfl,rfl⟩:=hy
   rcases vs with _ | ⟨v,_ | ⟨v',vs⟩⟩
   ·exact ⟨rfl,h2,rfl,rfl⟩
   ·exact absurd rfl (hne v)
   ·exact ⟨rfl,h2,rfl,rfl⟩
 ·cases hy
theorem Jbk {rs:List RVar}{t:RV}{h h':HP}{v:CV}(hh:yres rs t h=some (v,h')):h'=h:=by
 unfold yres at hh
 split at hh
 ·split at hh
  ·simp only[Gb,Gc]at hh; exact hh.2.symm
  ·simp only[Gb,Gc]at hh; exact hh.2.symm
 ·cases hh
def RepX (n:Nat):YX→Prop
 |.norm t h=>∃ T H,RepT n t T∧RepH h H
 |.exit _ t h=>∃ T H,RepT n t T∧RepH h H
 |.ret t h=>∃ T H,RepT n t T∧RepH h H
 |.fail=>True
def Jbi (run:JcQ):Prop:=∀ rnd c n t T h H,RepT n t T→RepH h H→RepX n (run rnd c n t h)
theorem RepH.canon {h:HP}(hr:∃ H,RepH h H):RepH h h.toL:=by
 obtain ⟨H,hr⟩:=hr
 rw[hr.toL]; exact hr
theorem JgA {run:JcQ}(hr:Jbi run) {args:List CV}{h:HP}{H:List CObj}(hH:RepH h H) {c:ICode}{n:Nat}{rs:List RVar}{v:CV}{h':HP}(hy:ycode run args h c n rs=some (v,h')):∃ H',RepH h' H':=by
 obtain ⟨h1,h2⟩:=cnd hy
 rw[Gf,K7,K7]at h1
 have hT0:=JfN h1.1 h1.2
 have hx:=hr false c n _ _ _ _ hT0 hH
 unfold yend at h2
 split at h2
 ·rename_i t h3 e
  rw[e]at hx
  obtain ⟨_,H',_,hH'⟩:=hx
  rw[Jbk h2]; exact ⟨H',hH'⟩
 ·rename_i t h3 e
  rw[e]at hx
  obtain ⟨_,H',_,hH'⟩:=hx
  rw[Jbk h2]; exact ⟨H',hH'⟩
 ·cases h2
theorem ycall_rep {run:JcQ}(hr:Jbi run):YC CAny (Jdd tb run):=by
 intro f args h v h' hy H hH
 refine (?_:∃ H',RepH h' H').elim fun H' h1=>⟨H',h1,trivial⟩
 have hy:Gh (motive:=fun _=>YR) none (fun e=>ycallE run args h e) (tb.get f)=some (v,h'):=hy
 cases hf:tb.get f with
 |none=>rw[hf]at hy; cases hy
 |some e=>
  rw[hf]at hy
  cases e with
  |code c n rs=>exact JgA hr hH hy
  |pure c n rs=>
   obtain ⟨_,h2⟩:=cnd (show cond (Jk args) (JgB h (ycode run args Jd7 c n rs)) none=some (v,h') from hy)
   unfold JgB at h2
   split at h2
   ·split at h2
    ·simp only[Gb,Gc]at h2
     rw[← h2.2]; exact ⟨H,hH⟩
    ·cases h2
   ·cases h2
  |nat g=>
   have hy:ynat args h g=some (v,h'):=hy
   unfold ynat at hy
   split at hy
   ·simp only[Gb,Gc]at hy
    rw[← hy.2]; exact ⟨H,hH⟩
   ·cases hy
  |iter g=>cases hy
  |heap g=>
   obtain ⟨obs,mk,_,_,h1⟩:=yheap_ok (show yheap args h g=some (v,h') from hy) hH
   exact ⟨_,h1⟩
  |look g=>
   obtain ⟨_,rfl⟩:=ylook_ok (show ylook args h g=some (v,h') from hy)
   exact ⟨H,hH⟩
theorem Jcf {n:Nat}{T:List CV}{t:RV}(hn:n≤255) (h:ofLT n T=some t):RepT n t T:=by
 obtain ⟨h1,h2⟩:=cnd h
 have h3:=Gj h1
 simp only[Gb]at h2
 subst h2
 have:=JfN (args:=T) (n:=n) (by omega) hn
 rwa [h3,Nat.sub_self,List.replicate_zero,GN]at this
theorem ynorm_rep {n:Nat}(hn:n≤255) (T:List CV) (H:List CObj):RepX n (ynorm n T H):=by
 unfold ynorm
 split
 ·rename_i t h h1 h2
  exact ⟨T,H,Jcf hn h1,RepH.ofL h2⟩
 ·trivial
theorem Jdc {run:JcQ}(hr:Jbi run) {ps:List Nat}{x y:ICode}{n:Nat}{t:RV}{T:List CV}(hT:RepT n t T):∀ (xs:List (List CV)) (h:HP) (H:List CObj),RepH h H→RepX n (JbY run ps x y n t T xs h)
 |[],h,H,hH=>⟨T,H,hT,hH⟩
 |c::xs,h,H,hH=>by
  show RepX n (match ofLT n (pset T ps c) with
   |some t1=>match run true x n t1 h with
    |.norm t2 h2=>match run true y n t2 h2 with
     |.norm _ h3=>JbY run ps x y n t T xs h3
     |.exit id _ h3=>.exit id t h3
     |.ret _ h3=>.ret t h3
     |.fail=>.fail
    |_=>.fail
   |none=>.fail)
  split
  ·rename_i t1 h1
   have r1:=hr true x n t1 _ h H (Jcf hT.le h1) hH
   split
   ·rename_i t2 h2 e
    rw[e]at r1
    obtain ⟨T2,H2,hT2,hH2⟩:=r1
    have r2:=hr true y n t2 _ h2 _ hT2 hH2
    split
    ·rename_i h3 e2
     rw[e2]at r2
     obtain ⟨_,H3,_,hH3⟩:=r2
     exact Jdc hr hT xs h3 H3 hH3
    ·rename_i e2
     rw[e2]at r2
     obtain ⟨_,H3,_,hH3⟩:=r2
     exact ⟨T,H3,hT,hH3⟩
    ·rename_i e2
     rw[e2]at r2
     obtain ⟨_,H3,_,hH3⟩:=r2
     exact ⟨T,H3,hT,hH3⟩
    ·trivial
   ·trivial
  ·trivial
theorem yrun_rep (m:Nat):Jbi (JbV tb m):=by
 induction m with
 |zero=>intro _ _ _ _ _ _ _ _ _; trivial
 |succ m ih=>
  intro rnd c n t T h H hT hH
  have hcl:=ycall_rep (tb:=tb) ih
  show RepX n (ystep tb (JbV tb m) rnd c n t h)
  have seqx:∀ (k:RV→HP→YX) (x:YX),RepX n x→(∀ t' h' T' H',RepT n t' T'→RepH h' H'→RepX n (k t' h'))→RepX n (yseqX k x):=by
   intro k x hx hk
   cases x with
   |norm t' h'=>obtain ⟨T',H',a,b⟩:=hx; exact hk t' h' T' H' a b
   |exit id t' h'=>exact hx
   |ret t' h'=>exact hx
   |fail=>trivial
  cases c with
  |skip=>exact ⟨T,H,hT,hH⟩
  |reg l=>
   show RepX n (yoX (crun (Jdd tb (JbV tb m)) (ccomp n l) t h))
   rw[Jgo]
   cases hx:yops (Jdd tb (JbV tb m)) l n t h with
   |none=>trivial
   |some r=>
    obtain ⟨t',h'⟩:=r
    obtain ⟨T',H',a,b⟩:=Jft hcl l hT hH hx
    exact ⟨T',H',a,b⟩
  |dreg l es=>
   show RepX n (ydreg tb (JbV tb m) l es n t h)
   unfold ydreg
   split
   ·exact ynorm_rep hT.le _ _
   ·trivial
  |seq a b=>exact seqx _ _ (ih rnd a n t T h H hT hH) fun t' h' T' H' a' b'=>ih rnd b n t' T' h' H' a' b'
  |cond i a b=>
   show RepX n (ycond (JbV tb m) rnd i a b n t h)
   unfold ycond
   split
   ·exact ih rnd _ n t T h H hT hH
   ·trivial
  |block id a=>
   show RepX n (yblockX id (JbV tb m rnd a n t h))
   have:=ih rnd a n t T h H hT hH
   cases hx:JbV tb m rnd a n t h with
   |norm t' h'=>rw[hx]at this; exact this
   |exit id' t' h'=>
    rw[hx]at this
    show RepX n (cond (Gd id' id) (.norm t' h') (.exit id' t' h'))
    cases Gd id' id <;> exact this
   |ret t' h'=>rw[hx]at this; exact this
   |fail=>trivial
  |loop a=>exact seqx _ _ (ih rnd a n t T h H hT hH) fun t' h' T' H' a' b'=>ih rnd (.loop a) n t' T' h' H' a' b'
  |rfunc f ps x y=>
   show RepX n (Jgy tb (JbV tb m) rnd f ps x y n t h)
   unfold Jgy
   cases rnd with
   |true=>trivial
   |false=>
    simp only[cond_false]
    split
    ·unfold yrfunc2
     split
     ·split
      ·rename_i xs _
       cases hc:(and (Jk _) (and (Jk _) (xs.all fun c=>Gd c.length ps.length))) with
       |false=>trivial
       |true=>
        simp only[cond_true]
        split
        ·rename_i t2 h2 e1 e2
         exact Jdc ih (Jcf hT.le e1) _ _ _ (RepH.ofL e2)
        ·trivial
      ·trivial
     ·trivial
    ·trivial
  |exit id=>exact ⟨T,H,hT,hH⟩
  |ret=>exact ⟨T,H,hT,hH⟩
  |bad=>trivial
theorem ycode_ok {run:JcQ}(hr:YRunOk P run) (hrep:Jbi run) (E:Env) {f:Nat}{F:IFunc}{c:ICode}(hF:Jd P f=some F) (hl:LowR F.body c) {args:List CV}{h:HP}{H:List CObj}(hH:RepH h H) {v:CV}{h':HP}(hy:ycode run args h c F.ntmps F.results=some (v,h')) :
  RepH h' h'.toL∧CallsC P E f args H fun v' H2=>v'=v∧H2=h'.toL:=by
 refine ⟨RepH.canon (JgA hrep hH hy),?_⟩
 obtain ⟨h1,h2⟩:=cnd hy
 rw[Gf,K7,K7]at h1
 have hT0:=JfN h1.1 h1.2
 refine callsC_of hF fun m=>?_
 refine hr E H.length ⟨m,false⟩ _ [] false F.body c _ _ _ h H hl (fun _=>rfl) hT0 hH ?_
 unfold yend at h2
 split at h2
 ·rename_i t h3 hx
  rw[hx]
  intro T H2 hT hH2
  have e:=Jbk h2
  subst e
  rw[hH2.toL]
  exact ok_nil (yres_ok hT hH2 h2).2
 ·rename_i t h3 hx
  rw[hx]
  intro T H2 hT hH2
  have e:=Jbk h2
  subst e
  rw[hH2.toL]
  exact (yres_ok hT hH2 h2).2
 ·cases h2
end
end
section
section
variable {P:Program}{tb:BT YE}
theorem ycall_ok (ht:tb.All (Jfr P)) {run:JcQ}(hr:YRunOk P run) (hrep:Jbi run) (E:Env):YC (COk P E) (Jdd tb run):=by
 intro f args h v h' hy H hH
 have hy:Gh (motive:=fun _=>YR) none (fun e=>ycallE run args h e) (tb.get f)=some (v,h'):=hy
 cases hf:tb.get f with
 |none=>rw[hf]at hy; cases hy
 |some e=>
  rw[hf]at hy
  have hok:=ht.get hf
  cases e with
  |code c n rs=>
   obtain ⟨hfn,F,hF,hl,rfl,rfl⟩:=hok
   obtain ⟨h1,h2⟩:=ycode_ok hr hrep E hF hl hH hy
   exact ⟨_,h1,hfn,h2⟩
  |pure c n rs=>
   obtain ⟨hfn,F,hF,hl,rfl,rfl⟩:=hok
   obtain ⟨hcl,h2⟩:=cnd (show cond (Jk args) (JgB h (ycode run args Jd7 c F.ntmps F.results)) none=some (v,h') from hy)
   unfold JgB at h2
   split at h2
   ·rename_i v2 h3 hx
    split at h2
    ·rename_i v' hv
     simp only[Gb,Gc]at h2
     obtain ⟨rfl,rfl⟩:=h2
     obtain ⟨_,h4⟩:=ycode_ok hr hrep Env.none hF hl Jb6 hx
     have h5:=xfzV_ok 3000 _ _ _ hv h4
     exact ⟨H,hH,hfn,h5.frame hcl fun v1 _ e=>by subst e; exact ⟨Jdh _ _ _ _ hv,rfl⟩⟩
    ·cases h2
   ·cases h2
  |nat g=>
   have hy:ynat args h g=some (v,h'):=hy
   unfold ynat at hy
   split at hy
   ·rename_i v' hv
    simp only[Gb,Gc]at hy
    obtain ⟨rfl,rfl⟩:=hy
    exact ⟨H,hH,hok.1,hok.2 _ _ hv E H⟩
   ·cases hy
  |iter g=>cases hy
  |heap g=>
   obtain ⟨obs,mk,h1,h2,h3⟩:=yheap_ok (show yheap args h g=some (v,h') from hy) hH
   refine ⟨_,h3,hok.1,?_⟩
   rw[h2]
   exact hok.2 _ _ _ h1 E H
  |look g=>
   obtain ⟨h1,rfl⟩:=ylook_ok (show ylook args h g=some (v,h') from hy)
   exact ⟨H,hH,hok.1,hok.2 _ _ _ h1 E H hH⟩
theorem ycl_ok {E:Env}{cl:YQ}(hcl:YC (COk P E) cl):Jgu P E (ycl cl):=by
 intro f args H v H' h
 unfold ycl at h
 split at h
 ·rename_i hp hh
  split at h
  ·rename_i v' h' hx
   simp only[Gb,Gc]at h
   obtain ⟨rfl,rfl⟩:=h
   obtain ⟨H2,h1,h2,h3⟩:=hcl _ _ _ _ _ hx H (RepH.ofL hh)
   exact ⟨h2,by rw[h1.toL]; exact h3⟩
  ·cases h
 ·cases h
theorem yrounds_ok {run:JcQ}(hr:YRunOk P run) (hrep:Jbi run) {E:Env}{n0:Nat}{N:Fr}{Q:Exit→List CV→List CObj→Prop}{k:List KItem}{n:Nat}{t:RV}{T:List CV}{h:HP}{H:List CObj}{f:IArg}{ps:List Nat}{x y x' y':ICode}{g:Nat}{l1 l2:List CV}{xs:List (List CV)}
  (hx:LowR x x') (hy:LowR y y') (hT:RepT n t T) (hH:RepH h H) (hrnd:N.rnd=false) (hf:JO T f=.fn g l1 l2) (hc1:Jk l1=true) (hc2:Jk l2=true) (hg:FnOk P g) (hit:Iter P g l1 l2 xs) (hxs:∀ c∈xs,c.length=ps.length) (hk:yk P E n0 N Q k n (JbY run ps x' y' n t T xs h)):Ok P E n0 N Q (.code (.rfunc f ps x y)::k) T H:=by
 obtain ⟨fn,h1,h2,h3⟩:=hg
 refine ok_rfunc (fun s H'=>∃ h',RepH h' H'∧yk P E n0 N Q k n (JbY run ps x' y' n t T (xs.drop s) h')) hrnd hf hc1 hc2 h1 h2 h3 hit hxs ⟨h,hH,hk⟩ (fun s Hs c hI hc=>?_) fun H' hI=>?_
 ·obtain ⟨hs,hHs,hI⟩:=hI
  have hlt:s < xs.length:=(Gm.1 hc).1
  have hd:xs.drop s=c::xs.drop (s+1):=by
   rw[List.drop_eq_getElem_cons hlt]
   congr 1
   exact (Gm.1 hc).2
  rw[hd]at hI
  have hI:yk P E n0 N Q k n (match ofLT n (pset T ps c) with
   |some t1=>match run true x' n t1 hs with
    |.norm t2 h2=>match run true y' n t2 h2 with
     |.norm _ h3=>JbY run ps x' y' n t T (xs.drop (s+1)) h3
     |.exit id _ h3=>.exit id t h3
     |.ret _ h3=>.ret t h3
     |.fail=>.fail
    |_=>.fail
   |none=>.fail):=hI
  split at hI
  ·rename_i t1 ht1
   have hT1:=Jcf hT.le ht1
   refine hr E H.length ⟨0,true⟩ _ [] true x x' n t1 _ hs Hs hx (fun h=>by cases h) hT1 hHs ?_
   cases hx1:run true x' n t1 hs with
   |norm t2 h2=>
    rw[hx1]at hI
    intro T2 H2 hT2 hH2
    refine ok_nil ?_
    refine hr E H.length ⟨0,true⟩ _ [] true y y' n t2 T2 h2 H2 hy (fun h=>by cases h) hT2 hH2 ?_
    simp only at hI
    cases hx2:run true y' n t2 h2 with
    |norm t3 h3=>
     rw[hx2]at hI
     intro T3 H3 hT3 hH3
     exact ok_nil ⟨h3,hH3,hI⟩
    |exit id t3 h3=>
     rw[hx2]at hI
     intro T3 H3 hT3 hH3
     exact JfW (hI T H3 hT hH3)
    |ret t3 h3=>
     rw[hx2]at hI
     intro T3 H3 hT3 hH3
     exact ok_ret (hI T H3 hT hH3)
    |fail=>rw[hx2]at hI; exact hI.elim
   |exit id t2 h2=>rw[hx1]at hI; exact hI.elim
   |ret t2 h2=>rw[hx1]at hI; exact hI.elim
   |fail=>rw[hx1]at hI; exact hI.elim
  ·exact hI.elim
 ·obtain ⟨h',hH',hI⟩:=hI
  rw[List.drop_length]at hI
  exact hI T H' hT hH'
theorem yrun_ok (ht:tb.All (Jfr P)) (hm:P.follows .mixedOrders=true) (m:Nat):YRunOk P (JbV tb m):=by
 induction m using Nat.strongRecOn with
 |_ m ih=>
  intro E n0 N Q k rnd c c' n t T h H hlow hN hT hH hk
  cases m with
  |zero=>exact hk.elim
  |succ m=>
   have ihn:=ih m (GA m)
   have hrep:=yrun_rep (tb:=tb) m
   have hcl:=ycall_ok ht ihn hrep E
   have hk:yk P E n0 N Q k n (ystep tb (JbV tb m) rnd c' n t h):=hk
   cases hlow with
   |skip=>exact ok_skip (hk T H hT hH)
   |@reg l=>
    have hk:yk P E n0 N Q k n (yoX (crun (Jdd tb (JbV tb m)) (ccomp n l) t h)):=hk
    rw[Jgo]at hk
    cases hx:yops (Jdd tb (JbV tb m)) l n t h with
    |none=>rw[hx]at hk; exact hk.elim
    |some r=>
     obtain ⟨t',h'⟩:=r
     rw[hx]at hk
     obtain ⟨T',H',a,b,hrun⟩:=Jfu hcl l hT hH hx
     exact ok_reg (runs_ok hrun (hk T' H' a b))
   |@fast l es hf=>
    have hk:yk P E n0 N Q k n (yoX (crun (Jdd tb (JbV tb m)) (ccomp n l) t h)):=hk
    rw[Jgo]at hk
    cases hx:yops (Jdd tb (JbV tb m)) l n t h with
    |none=>rw[hx]at hk; exact hk.elim
    |some r=>
     obtain ⟨t',h'⟩:=r
     rw[hx]at hk
     obtain ⟨T',H',a,b,hrun⟩:=Jfu hcl l hT hH hx
     exact runs_dreg hrun hf hm (hk T' H' a b)
   |@dreg l es=>
    have hk:yk P E n0 N Q k n (ydreg tb (JbV tb m) l es n t h):=hk
    unfold ydreg at hk
    rw[hT.toL,hH.toL]at hk
    split at hk
    ·rename_i T' H' hx
     refine xdreg_sound (ycl_ok hcl) hm hx ?_
     unfold ynorm at hk
     split at hk
     ·rename_i t2 h2 e1 e2
      exact hk T' H' (Jcf hT.le e1) (RepH.ofL e2)
     ·exact hk.elim
    ·exact hk.elim
   |@seq a b a' b' ha hb=>
    have hk:yk P E n0 N Q k n (yseqX (JbV tb m rnd b' n) (JbV tb m rnd a' n t h)):=hk
    refine ok_seq (ihn E n0 N Q _ rnd a a' n t T h H ha hN hT hH ?_)
    cases hx:JbV tb m rnd a' n t h with
    |norm t' h'=>
     rw[hx]at hk
     intro T' H' hT' hH'
     exact ihn E n0 N Q k rnd b b' n t' T' h' H' hb hN hT' hH' hk
    |exit id t' h'=>rw[hx]at hk; exact hk
    |ret t' h'=>rw[hx]at hk; exact hk
    |fail=>rw[hx]at hk; exact hk
   |@cond i a b a' b' ha hb=>
    have hk:yk P E n0 N Q k n (ycond (JbV tb m) rnd i a' b' n t h):=hk
    unfold ycond at hk
    rw[Kc hT]at hk
    split at hk
    ·rename_i x hi
     cases x with
     |true=>exact ok_cond hi (ihn E n0 N Q k rnd a a' n t T h H ha hN hT hH hk)
     |false=>exact ok_cond hi (ihn E n0 N Q k rnd b b' n t T h H hb hN hT hH hk)
    ·exact hk.elim
   |@block id a a' ha=>
    have hk:yk P E n0 N Q k n (yblockX id (JbV tb m rnd a' n t h)):=hk
    refine ok_block (ihn E n0 N Q _ rnd a a' n t T h H ha hN hT hH ?_)
    cases hx:JbV tb m rnd a' n t h with
    |norm t' h'=>
     rw[hx]at hk
     intro T' H' hT' hH'
     exact ok_blk (hk T' H' hT' hH')
    |exit id' t' h'=>
     rw[hx]at hk
     intro T' H' hT' hH'
     have hk:yk P E n0 N Q k n (cond (Gd id' id) (.norm t' h') (.exit id' t' h')):=hk
     simp only[Q6]
     by_cases he:id=id'
     ·subst he
      rw[beq_t rfl]at hk
      simp only[if_true]
      exact hk T' H' hT' hH'
     ·rw[beq_f (fun e=>he e.symm)]at hk
      rw[if_neg he]
      exact hk T' H' hT' hH'
    |ret t' h'=>rw[hx]at hk; exact hk
    |fail=>rw[hx]at hk; exact hk.elim
   |@loop a a' ha=>
    refine JfV (σ:=Nat) (fun j T H=>j≤m+1∧∃ t h,RepT n t T∧RepH h H∧yk P E n0 N Q k n (JbV tb j rnd (.loop a') n t h)) id (m+1) ⟨Nat.le_refl _,t,h,hT,hH,hk⟩ fun j T H ⟨hjm,t,h,hT,hH,hI⟩=>?_
    cases j with
    |zero=>exact hI.elim
    |succ j=>
     have hI:yk P E n0 N Q k n (yseqX (JbV tb j rnd (.loop a') n) (JbV tb j rnd a' n t h)):=hI
     refine ih j (by omega) E n0 N _ [] rnd a a' n t T h H ha hN hT hH ?_
     cases hx:JbV tb j rnd a' n t h with
     |norm t' h'=>
      rw[hx]at hI
      intro T' H' hT' hH'
      exact ok_nil ⟨j,⟨by omega,t',h',hT',hH',hI⟩,GA j⟩
     |exit id t' h'=>rw[hx]at hI; exact hI
     |ret t' h'=>rw[hx]at hI; exact hI
     |fail=>rw[hx]at hI; exact hI.elim
   |@rfunc f ps x y x' y' ha hb=>
    have hk:yk P E n0 N Q k n (Jgy tb (JbV tb m) rnd f ps x' y' n t h):=hk
    unfold Jgy at hk
    cases rnd with
    |true=>exact hk.elim
    |false=>
     simp only[cond_false]at hk
     rw[hT.toL,hH.toL]at hk
     split at hk
     ·rename_i T2 H2 hfz
      refine xfz_ok 50 T H T2 H2 hfz ?_
      unfold yrfunc2 at hk
      split at hk
      ·rename_i g l1 l2 hf
       split at hk
       ·rename_i xs hxs
        cases hc:(and (Jk l1) (and (Jk l2) (xs.all fun c=>Gd c.length ps.length))) with
        |false=>rw[hc]at hk; exact hk.elim
        |true=>
         rw[hc]at hk
         simp only[cond_true]at hk
         rw[Gf,Gf,List.all_eq_true]at hc
         unfold yiter at hxs
         split at hxs
         ·rename_i hh hF
          obtain ⟨h1,h2⟩:=ht.get hF
          split at hk
          ·rename_i t3 h3 e1 e2
           exact yrounds_ok ihn hrep ha hb (Jcf hT.le e1) (RepH.ofL e2) (hN rfl) hf hc.1 hc.2.1 h1 (h2 l1 l2 xs hc.1 hc.2.1 hxs) (fun c hcx=>Gj (hc.2.2 c hcx)) hk
          ·exact hk.elim
         ·cases hxs
       ·exact hk.elim
      ·exact hk.elim
     ·exact hk.elim
   |exit=>
    refine JfW ?_
    exact hk T H hT hH
   |ret=>exact ok_ret (hk T H hT hH)
   |bad=>exact hk.elim
theorem Qa (ht:tb.All (Jfr P)) (hm:P.follows .mixedOrders=true) {m f:Nat}{args:List CV}{v:CV}(h:yfn tb m f args=some v) (ha:Jk args=true) (hv:v.closed=true):Fn P f args v:=by
 unfold yfn at h
 split at h
 ·rename_i v' h' hc
  simp only[Gb]at h
  subst h
  obtain ⟨H',_,_,h2⟩:=ycall_ok ht (yrun_ok ht hm m) (yrun_rep m) Env.none f args Jd7 _ _ hc [] Jb6
  exact fn_of (h2.mono fun v' H2 hh=>hh.1) ha hv
 ·cases h
end
end
end Go.Cm
end
end
