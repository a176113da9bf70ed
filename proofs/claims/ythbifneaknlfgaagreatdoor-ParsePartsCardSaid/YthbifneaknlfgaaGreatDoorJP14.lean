/-
  A part of the proof. Conditions: none.
-/
import Derived.Test.YthbifneaknlfgaaGreatDoorJP3
import Derived.Test.YthbifneaknlfgaaGreatDoorJS1
import Derived.Test.YthbifneaknlfgaaGreatDoorJP5
import Derived.Test.YthbifneaknlfgaaGreatDoorJI1
set_option linter.unusedSimpArgs false
set_option linter.unusedVariables false
open Nat renaming eq_of_beq_eq_true→Gd,beq→Gb,ble→Gc,ne_of_beq_eq_false→Gh
open Bool renaming and_eq_true→Gf,not_eq_true'→Gi
open Option.some renaming injEq→Ga
open Option renaming rec→Gg
noncomputable section
section
set_option maxRecDepth 100000
open Go.Proofs Go.RowKit
namespace Go.Cm
theorem fnRepeat (s:ByteArray) (c:Nat) (hc:c≤9223372036854775807) (hlen:s.size*c≤140737488355328):Fn Tryz.prog 123 [.str s,.int .i64 c] (.str ⟨(Lib.repeatL s.data.toList c).toArray⟩):=by
 intro E H
 refine JG fun m w vs hs hv=>?_
 simp only[JC,rel]at hv
 obtain ⟨r,rs,e,rfl,r2,rs2,rfl,rfl,rfl⟩:=hv
 have hvs:vs=#[.string s,.int .i64 c]:=by cases vs; simp_all
 subst hvs
 exact ⟨_,Tryz.strings_Repeat s c w hc hlen,rfl⟩
theorem fnCount (s:ByteArray) (c:UInt8):Fn Tryz.prog 124 [.str s,.str ⟨#[c]⟩] (.int .i64 (Lib.countByte s.data.toList c)):=by
 intro E H
 refine JG fun m w vs hs hv=>?_
 simp only[JC,rel]at hv
 obtain ⟨r,rs,e,rfl,r2,rs2,rfl,rfl,rfl⟩:=hv
 have hvs:vs=#[.string s,.string ⟨#[c]⟩]:=by cases vs; simp_all
 subst hvs
 exact ⟨_,(Tryz.strings_Count_one s c w).mono fun e w' ⟨h1,h2⟩=>⟨h1,by rw[h2]; exact Below.refl _ _⟩,rfl⟩
def Jc8 (args:List CV):Option CV:=match args with
 |[.str s,.int .i64 n]=>match n with
  |.ofNat c=>cond (and (Gc c 1000000) (Gc s.data.toList.length 1000000)) (some (.str ⟨⟨Lib.repeatL s.data.toList c⟩⟩)) none
  |_=>none
 |_=>none
def JeX (args:List CV):Option CV:=match args with
 |[.str s,.str c]=>match c.data.toList with
  |[c]=>some (.int .i64 (Lib.countByte s.data.toList c))
  |_=>none
 |_=>none
theorem natRepeat_ok (hf:Jcm Tryz.prog 123):JaZ Tryz.prog 123 (.nat Jc8):=by
 refine ⟨hf,fun args v h=>?_⟩
 unfold Jc8 at h
 split at h
 ·split at h
  ·rename_i s n c
   obtain ⟨h1,h2⟩:=cnd h
   rw[Gf,Kj,Kj]at h1
   simp only[Ga]at h2
   subst h2
   have hsz:s.size=s.data.toList.length:=by simp
   exact fnRepeat s c (by omega) (by rw[hsz]; exact Nat.le_trans (Nat.mul_le_mul h1.2 h1.1) (by decide))
  ·cases h
 ·cases h
theorem natCount_ok (hf:Jcm Tryz.prog 124):JaZ Tryz.prog 124 (.nat JeX):=by
 refine ⟨hf,fun args v h=>?_⟩
 unfold JeX at h
 split at h
 ·split at h
  ·rename_i s x _ c hc
   simp only[Ga]at h
   subst h
   have hx:x=⟨#[c]⟩:=str_ext (by rw[hc])
   rw[hx]
   exact fnCount s c
  ·cases h
 ·cases h
theorem beqI (a b:Nat):Gb a b=decide (a=b):=by
 cases h:Gb a b with
 |false=>have:=Gh h; simp[this]
 |true=>have:=Gd h; simp[this]
def digB (l:List UInt8):Bool:=and (l.all QB) (and (not (Gb l.length 0)) (Gc l.length 1000))
theorem digB_ok {l:List UInt8}(h:digB l=true):l.all QB=true∧l≠[]∧l.length≤1000:=by
 simp only[digB,Gf,Gi,Kj]at h
 exact ⟨h.1,fun e=>by rw[e]at h; simp at h,h.2.2⟩
def Jcx (args:List CV):Option CV:=match args with
 |[.str s]=>cond (digB s.data.toList) (some (.bool (and (Gc (Jap s.data.toList) 1000000000) (or (Gb s.data.toList.length 1) (match s.data.toList with | c::_=>not (Gb c.toNat 48) | []=>true))))) none
 |_=>none
theorem Jc9 (hf:Jcm Tryz.prog 195):JaZ Tryz.prog 195 (.nat Jcx):=by
 refine ⟨hf,fun args v h=>?_⟩
 unfold Jcx at h
 split at h
 ·rename_i s
  obtain ⟨h1,h2⟩:=cnd h
  obtain ⟨d1,d2,d3⟩:=digB_ok h1
  simp only[Ga]at h2
  have hw:=isNumberL s.data.toList d1 d2 (by omega)
  have hS:S s.data.toList=.str s:=by
   show CV.str ⟨⟨s.data.toList⟩⟩=.str s
   rw[show (⟨⟨s.data.toList⟩⟩:ByteArray)=s from rfl]
  rw[hS]at hw
  have he:YP s.data.toList=and (Gc (Jap s.data.toList) 1000000000) (or (Gb s.data.toList.length 1) (match s.data.toList with | c::_=>not (Gb c.toNat 48) | []=>true)):=by
   unfold YP
   rw[Bool.eq_iff_iff]
   cases hl:s.data.toList with
   |nil=>exact absurd hl d2
   |cons c l=>
    have h48:¬ c=48↔¬ c.toNat=48:=not_congr ⟨fun h=>by rw[h]; rfl,fun h=>UInt8.toNat_inj.1 h⟩
    simp only[Gf,Bool.or_eq_true,decide_eq_true_eq,Kj,beqI,List.head?_cons,ne_eq,Ga,Gi,decide_eq_false_iff_not]
    rw[h48]
  rw[← h2,← he]
  exact hw
 ·cases h
def JeY (args:List CV):Option CV:=match args with
 |[.str s]=>cond (and (digB s.data.toList) (Gc (Jap s.data.toList) 1000000000)) (some (.tup [.int .i64 (Jap s.data.toList),.nili])) none
 |_=>none
theorem Jd7 (hf:Jcm Tryz.prog 207):JaZ Tryz.prog 207 (.nat JeY):=by
 refine ⟨hf,fun args v h=>?_⟩
 unfold JeY at h
 split at h
 ·rename_i s
  obtain ⟨h1,h2⟩:=cnd h
  rw[Gf,Kj]at h1
  obtain ⟨d1,d2,d3⟩:=digB_ok h1.1
  simp only[Ga]at h2
  subst h2
  have hat:=JdA s.data.toList d1 d2
  rw[if_pos (by omega)]at hat
  intro E H
  refine JG fun m w vs hs hv=>?_
  simp only[JC,rel]at hv
  obtain ⟨r,rs,e,rfl,rfl⟩:=hv
  have hvs:vs=#[.string s]:=by cases vs; simp_all
  subst hvs
  have hsz:s.size=s.data.toList.length:=by simp
  refine ⟨.tuple #[.int .i64 (Jap s.data.toList),.nilIface],(Tryz.strconv_Atoi_ok s (by omega) _ hat w).mono ?_,⟨_,rfl,_,_,rfl,rfl,_,_,rfl,rfl,rfl⟩⟩
  rintro e w' ⟨rfl,hW⟩
  refine ⟨rfl,?_⟩
  rcases hW with rfl | ⟨t,rfl⟩
  ·exact Below.refl _ _
  ·exact Lib.bytesWorld_below _ _ _
 ·cases h
def rowH (z:Nat) (h:HP) (c:CV):Option (List (List CV)):=match c with
 |.nils=>some []
 |.rslc y els _=>cond (Gb y z) (some els) none
 |.slc id off len _=>cond (Gb off 0) (match hget h.t id with
  |some (.arr y els)=>cond (and (Gb y z) (Gc len els.length)) (some (els.take len)) none
  |_=>none) none
 |_=>none
theorem rowH_ok {z:Nat}{h:HP}{c:CV}{els:List (List CV)}(hr:rowH z h c=some els) {E:Env}{m:Bk}{H:List CObj}{w:World}(hH:RepH h H) (hs:Sim E m H w) {v:Value}(hv:rel m.own m.imm c v) :
  ∃ p n,v=.slice p els.length n∧∀ (j:Nat) e,els[j]? = some e→∀ (t:Nat) x,e[t]? = some x→∃ B o r,p=some ⟨B,o,none⟩∧w.cell? ⟨B,o+j*z+t,none⟩=some r∧rel m.own m.imm x r:=by
 unfold rowH at hr
 split at hr
 ·simp only[Ga]at hr
  subst hr
  simp only[rel]at hv
  exact ⟨none,0,hv,fun j e h=>by simp at h⟩
 ·rename_i y els' cap
  obtain ⟨h1,h2⟩:=cnd hr
  have h1:=Gd h1
  simp only[Ga]at h2
  subst h1 h2
  simp only[rel]at hv
  rcases hv with ⟨_,rfl,b,rfl⟩ | ⟨B,o,c,rfl,_,_,hels⟩
  ·exact ⟨b,0,rfl,fun j e h=>by simp at h⟩
  ·refine ⟨_,_,rfl,fun j e he t x hx=>?_⟩
   obtain ⟨r,hr1,hr2⟩:=((J4 els' o).1 hels j e he).2 t x hx
   exact ⟨B,o,r,rfl,hs.imm _ _ _ hr1,Qz (J9.nil _) (JY.refl _) _ _ hr2⟩
 ·rename_i id off len cap
  obtain ⟨h0,h2⟩:=cnd hr
  have h0:=Gd h0
  subst h0
  split at h2
  ·rename_i y els' hg
   rw[hH.get]at hg
   obtain ⟨h3,h4⟩:=cnd h2
   rw[Gf,Kj]at h3
   have h5:=Gd h3.1
   have h6:=h3.2
   simp only[Ga]at h4
   subst h5 h4
   simp only[rel]at hv
   obtain ⟨x,a,c,hx,rfl,hlc,_,hba,hle⟩:=hv
   refine ⟨some a,c,by rw[List.length_take,Nat.min_eq_left h6],fun j e he t u hu=>?_⟩
   rw[List.getElem?_take]at he
   split at he
   ·rename_i hjl
    obtain ⟨hz,cells,elem,hb,hsz,hle',hrow,_⟩:=hs.obj id _ x hg hx
    obtain ⟨r,hr1,hr2⟩:=(hrow j e he).2 t u hu
    have ha:=hba (by omega)
    rw[hz]at hr1
    refine ⟨x.B,x.o,r,?_,?_,hr2⟩
    ·rw[ha]; simp
    ·simp only[World.cell?,hb]
     simpa using hr1
   ·cases he
  ·cases h2
 ·cases hr
def unNats (els:List (List CV)):Option (List Nat):=
 List.rec (some []) (fun e _ ih=>match e with
  |[.int .i64 (.ofNat k)]=>Gg none (fun l=>some (k::l)) ih
  |_=>none) els
def kindsX (nodes:List (List CV)) (ks:List Nat):Option (List Nat):=
 List.rec (some []) (fun k _ ih=>match nodes[k]? with
  |some (.int .u8 (.ofNat d)::_)=>cond (Nat.blt d 256) (Gg none (fun l=>some (d::l)) ih) none
  |_=>none) ks
theorem unNats_ok {els:List (List CV)}{ks:List Nat}(h:unNats els=some ks):els=ks.map fun (k:Nat)=>[CV.int .i64 k]:=by
 induction els generalizing ks with
 |nil=>simp[unNats]at h; subst h; rfl
 |cons e els ih=>
  unfold unNats at h
  simp only at h
  split at h
  ·rename_i k
   cases hr:(List.rec (some []) (fun e _ ih=>match e with
    |[.int .i64 (.ofNat k)]=>Gg none (fun l=>some (k::l)) ih
    |_=>none) els:Option (List Nat)) with
   |none=>rw[hr]at h; cases h
   |some l=>
    rw[hr]at h
    simp only[Ga]at h
    subst h
    rw[ih hr]
    rfl
  ·cases h
theorem kindsX_ok {nodes:List (List CV)}{ks ds:List Nat}(h:kindsX nodes ks=some ds):ds.length=ks.length∧∀ (j:Nat) d,ds[j]? = some d→d < 256∧∃ k l,ks[j]? = some k∧nodes[k]? = some (.int .u8 (d:Nat)::l):=by
 induction ks generalizing ds with
 |nil=>simp[kindsX]at h; subst h; simp
 |cons k ks ih=>
  unfold kindsX at h
  simp only at h
  split at h
  ·rename_i d l hk
   obtain ⟨h1,h2⟩:=cnd h
   have hd:d < 256:=by simpa using h1
   cases hr:(List.rec (some []) (fun k _ ih=>match nodes[k]? with
    |some (.int .u8 (.ofNat d)::_)=>cond (Nat.blt d 256) (Gg none (fun l=>some (d::l)) ih) none
    |_=>none) ks:Option (List Nat)) with
   |none=>rw[hr]at h2; cases h2
   |some l'=>
    rw[hr]at h2
    simp only[Ga]at h2
    subst h2
    obtain ⟨i1,i2⟩:=ih hr
    refine ⟨by simp[i1],fun j d' hj=>?_⟩
    cases j with
    |zero=>
     simp at hj
     subst hj
     exact ⟨hd,k,l,rfl,hk⟩
    |succ j=>exact i2 j d' (by simpa using hj)
  ·cases h
def sortsX (args:List CV) (h:HP):Option CV:=match args with
 |[.agg [nodes,_],.agg [_,_,_,kids,_]]=>match rowH 5 h nodes,rowH 1 h kids with
  |some ns,some ks=>match unNats ks with
   |some l=>match kindsX ns l with
    |some ds=>cond (Nat.blt l.length 100000) (some (.str ⟨⟨Tryz.letters ds⟩⟩)) none
    |none=>none
   |none=>none
  |_,_=>none
 |_=>none
theorem sortsX_ok (hf:Jcm Tryz.prog 92):JaZ Tryz.prog 92 (.look sortsX):=by
 refine ⟨hf,fun args h v hg E H hH=>?_⟩
 unfold sortsX at hg
 split at hg
 case h_2=>cases hg
 rename_i nodes items n0 n1 n2 kids n4
 split at hg
 case h_2=>cases hg
 rename_i ns ks hns hks
 split at hg
 case h_2=>cases hg
 rename_i l hl
 split at hg
 case h_2=>cases hg
 rename_i ds hds
 obtain ⟨hb,hg⟩:=cnd hg
 have hb:l.length < 100000:=by simpa using hb
 simp only[Ga]at hg
 subst hg
 refine JG fun m w vs hs hv=>?_
 simp only[JC,rel]at hv
 obtain ⟨_,_,e0,⟨t1,rfl,r1,_,e1,hn,r2,_,rfl,hit,rfl⟩,_,_,rfl,⟨t2,rfl,s0,_,e2,hs0,s1,_,rfl,hs1,s2,_,rfl,hs2,s3,_,rfl,hk,s4,_,rfl,hs4,rfl⟩,rfl⟩:=hv
 have ht1:t1=#[r1,r2]:=by cases t1; simp_all
 have ht2:t2=#[s0,s1,s2,s3,s4]:=by cases t2; simp_all
 have hvs:vs=#[.agg t1,.agg t2]:=by cases vs; simp_all
 subst ht1 ht2 hvs
 obtain ⟨np,nc,rfl,hN⟩:=rowH_ok hns hH hs hn
 obtain ⟨kp,kc,rfl,hK⟩:=rowH_ok hks hH hs hk
 have hkl:=unNats_ok hl
 obtain ⟨hdl,hdk⟩:=kindsX_ok hds
 have hkll:ks.length=l.length:=by rw[hkl]; simp
 refine ⟨_,Tryz.sorts_walk np kp ns.length nc ks.length kc r2 s0 s1 s2 s4 ds w hs.gl.1 (by omega) (fun d hd=>?_) (by omega) (fun j d hj=>?_),rfl⟩
 ·obtain ⟨j,hj⟩:=List.getElem?_of_mem hd
  exact (hdk j d hj).1
 ·obtain ⟨_,k,r,h1,h2⟩:=hdk j d hj
  have hj2:ks[j]? = some [CV.int .i64 k]:=by rw[hkl]; simp[h1]
  obtain ⟨B,o,c1,h3,h4,h5⟩:=hN k _ h2 0 _ rfl
  obtain ⟨B',o',c2,h6,h7,h8⟩:=hK j _ hj2 0 _ rfl
  simp only[rel]at h5 h8
  subst h5 h8
  simp only[Nat.mul_one,Nat.add_zero]at h4 h7
  exact ⟨B,o,B',o',k,h3,h6,(List.getElem?_eq_some_iff.1 h2).1,h7,h4⟩
def intsX (els:List (List CV)):Option (List Int):=List.rec (some []) (fun e _ ih=>match e with
 |[.int .i64 n]=>Gg none (fun l=>some (n::l)) ih
 |_=>none) els
theorem intsX_ok {els:List (List CV)}{l:List Int}(h:intsX els=some l):els=iz l:=by
 induction els generalizing l with
 |nil=>simp[intsX]at h; subst h; rfl
 |cons e els ih=>
  unfold intsX at h
  simp only at h
  split at h
  ·rename_i n
   cases hr:(List.rec (some []) (fun e _ ih=>match e with
    |[.int .i64 n]=>Gg none (fun l=>some (n::l)) ih
    |_=>none) els:Option (List Int)) with
   |none=>rw[hr]at h; cases h
   |some l'=>
    rw[hr]at h
    simp only[Ga]at h
    subst h
    rw[ih hr]; rfl
  ·cases h
def bkIter (l1 l2:List CV):Option (List (List CV)):=match l1 with
 |[]=>match l2 with
  |[.rptr [.rslc y els none]]=>match intsX els with
   |some l=>cond (and (Gb y 1) (Gc l.length 100000)) (some (bks l)) none
   |none=>none
  |_=>none
 |_=>none
theorem bk_ok (hf:Jcm Tryz.prog 141):JaZ Tryz.prog 141 (.iter bkIter):=by
 refine ⟨hf,fun l1 l2 xs _ _ h=>?_⟩
 unfold bkIter at h
 split at h
 case h_2=>cases h
 split at h
 case h_2=>cases h
 split at h
 case h_2=>cases h
 rename_i y els l hl
 obtain ⟨h1,h2⟩:=cnd h
 rw[Gf,Kj]at h1
 have h3:=Gd h1.1
 simp only[Ga]at h2
 subst h3 h2
 rw[intsX_ok hl]
 exact backward1 l h1.2
def growX (args:List CV):Option (List CObj×(Nat→CV)):=match args with
 |[.nils,.int .i64 (.ofNat n)]=>cond (Gb n 0) (some ([],fun _=>.nils)) (cond (Gc n 1000000) (some ([.arr 1 []],fun id=>.slc id 0 0 none)) none)
 |_=>none
theorem growX_ok (hf:Jcm Tryz.prog 134):JaZ Tryz.prog 134 (.heap growX):=by
 refine ⟨hf,fun args obs mk h E H=>?_⟩
 unfold growX at h
 split at h
 case h_2=>cases h
 rename_i n
 cases h0:Gb n 0 with
 |true=>
  rw[h0]at h
  have hn:=Gd h0
  subst hn
  simp only[cond_true,Ga,Prod.mk.injEq]at h
  obtain ⟨rfl,rfl⟩:=h
  rw[List.append_nil]
  refine JG fun m w vs hs hv=>?_
  simp only[JC,rel]at hv
  obtain ⟨r1,_,e0,rfl,r2,_,rfl,rfl,rfl⟩:=hv
  have hvs:vs=#[.slice none 0 0,.int .i64 (0:Nat)]:=by cases vs; simp_all
  subst hvs
  refine ⟨_,(Any8.slices_Grow_room Tryz.growI none 0 0 0 w (by omega) (by omega) (by omega) (by omega)).mono ?_,rfl⟩
  rintro e w' ⟨rfl,rfl⟩
  exact ⟨rfl,Below.refl _ _⟩
 |false=>
  rw[h0]at h
  have hn:=Gh h0
  obtain ⟨h1,h2⟩:=cnd (show cond (Gc n 1000000) (some ([CObj.arr 1 []],fun id=>CV.slc id 0 0 none)) none=some (obs,mk) from h)
  have h1:=Nat.le_of_ble_eq_true h1
  simp only[Ga,Prod.mk.injEq]at h2
  obtain ⟨rfl,rfl⟩:=h2
  intro m w vs hs hv
  simp only[JC,rel]at hv
  obtain ⟨r1,_,e0,rfl,r2,_,rfl,rfl,rfl⟩:=hv
  have hvs:vs=#[.slice none 0 0,.int .i64 (n:Nat)]:=by cases vs; simp_all
  subst hvs
  obtain ⟨i0,z0,hi0,hz0,hb0,hs0⟩:∃ (i0:TypeInfo) (z0:Value),Tryz.prog.info? (Tryz.growI_ren.t 25)=some i0∧i0.zero=some z0∧i0.bytes=8∧i0.size=1:=⟨_,_,rfl,rfl,rfl,rfl⟩
  have hc:=Any8.slices_Grow_grow Tryz.growI i0 z0 hi0 hz0 (by omega) none 0 0 n [] w (by omega) (by omega) (by rw[hb0]; omega) (by omega) (by simp) (fun _=>rfl) (fun _ h=>by cases h)
  have hz0c:z0.cells=#[.int .i64 0]:=by
   have:(some z0:Option Value)=some (.int .i64 0):=by rw[← hz0]; exact (show i0.zero=some (.int .i64 0) from by
    have:=(show Tryz.prog.info? (Tryz.growI_ren.t 25)=some i0 from hi0)
    have h3:(Tryz.prog.info? (Tryz.growI_ren.t 25)).bind (·.zero)=some (.int .i64 0):=by kernel_rfl
    rw[this]at h3
    exact h3)
   rw[Option.some.inj this]; rfl
  generalize hcap:grownCap w (0+n) 0 (Tryz.growI_ren.t 25)=cap at hc
  refine ⟨trivial,fun cs _=>?_⟩
  obtain ⟨e,w',fr,⟨rfl,rfl⟩,hst,hl⟩:=hc cs
  rw[hz0c]at hst hl
  have hsz:(((([]:List Value).toArray++Builtin.zeroCells #[.int .i64 0] (0+n-0))++Builtin.zeroCells #[.int .i64 0] (cap-(0+n))):Array Value).size=n+(cap-n):=by
   simp[Builtin.zeroCells]
  have hone:∀ (i:Nat) v,(((([]:List Value).toArray++Builtin.zeroCells #[.int .i64 0] (0+n-0))++Builtin.zeroCells #[.int .i64 0] (cap-(0+n))):Array Value)[i]? = some v→v.oneCell'=true:=by
   intro i v hv
   have hm:=Array.mem_of_getElem? hv
   simp only[Builtin.zeroCells,Array.mem_append,Array.mem_map,List.mem_toArray]at hm
   have key:∀ a:Nat,(#[Value.int .i64 0]:Array Value)[a % 1]! = .int .i64 0:=fun a=>by rw[Nat.mod_one]; rfl
   rcases hm with (hm | ⟨a,_,rfl⟩) | ⟨a,_,rfl⟩
   ·simp at hm
   ·rw[show (#[Value.int .i64 0]:Array Value).size=1 from rfl,key]; rfl
   ·rw[show (#[Value.int .i64 0]:Array Value).size=1 from rfl,key]; rfl
  generalize (((([]:List Value).toArray++Builtin.zeroCells #[.int .i64 0] (0+n-0))++Builtin.zeroCells #[.int .i64 0] (cap-(0+n))):Array Value)=cells at hst hl hsz hone
  refine ⟨_,w.drew.alloc (.cells cells (Tryz.growI_ren.t 25)),fr,⟨_,{ m with own:=m.own++[⟨w.heap.size,0,n+(cap-n),1⟩] },.slc H.length 0 0 none,H++[.arr 1 []],rfl,Ext.alloc (w':=w.drew.alloc (.cells cells (Tryz.growI_ren.t 25))) (ob:=.cells cells (Tryz.growI_ren.t 25)) hs rfl ⟨rfl,rfl,rfl⟩ _ _ rfl,Sim.alloc (w':=w.drew.alloc (.cells cells (Tryz.growI_ren.t 25))) (ob:=.cells cells (Tryz.growI_ren.t 25)) hs rfl _ _ rfl (fun _=>?_) (by intro s b h; cases h),?_,rfl,rfl⟩,(show StepsIn _ _ _ _ from Jcq hst),hl⟩
  ·refine ⟨rfl,cells,Tryz.growI_ren.t 25,?_,hsz,by simp,fun j e h=>by simp at h,hone⟩
   show (w.heap.push (.cells cells (Tryz.growI_ren.t 25)))[w.heap.size]? = some (.cells cells (Tryz.growI_ren.t 25) (0,0))
   simp
  ·simp only[rel]
   refine ⟨⟨w.heap.size,0,n+(cap-n),1⟩,_,cap,by rw[← hs.len]; simp,rfl,by omega,by simp,fun _=>by simp,by simp; omega⟩
def y33:ICode:=(low c33.body [true,false,false]).1
theorem y33_ok:Xl c33.body [true,false,false]=true:=by kernel_rfl
def y34:ICode:=(low c34.body [true]).1
theorem y34_ok:Xl c34.body [true]=true:=by kernel_rfl
def y74:ICode:=(low c74.body [true,true]).1
theorem y74_ok:Xl c74.body [true,true]=true:=by kernel_rfl
def y77:ICode:=(low c77.body [true,false]).1
theorem y77_ok:Xl c77.body [true,false]=true:=by kernel_rfl
def y132:ICode:=(low c132.body [true,true]).1
theorem y132_ok:Xl c132.body [true,true]=true:=by kernel_rfl
def y156:ICode:=(low c156.body [true,false]).1
theorem y156_ok:Xl c156.body [true,false]=true:=by kernel_rfl
def y157:ICode:=(low c157.body [false,false,true]).1
theorem y157_ok:Xl c157.body [false,false,true]=true:=by kernel_rfl
def y175:ICode:=(low c175.body [false,true,false]).1
theorem y175_ok:Xl c175.body [false,true,false]=true:=by kernel_rfl
def y231:ICode:=(low c231.body [true]).1
theorem y231_ok:Xl c231.body [true]=true:=by kernel_rfl
def tb0:BT YE:=(.node 192 (.code c192.body c192.ntmps c192.results) (.node 174 (.code c174.body c174.ntmps c174.results) (.node 168 (.code c168.body c168.ntmps c168.results) (.node 148 (.code c148.body c148.ntmps c148.results) (.node 113 (.code c113.body c113.ntmps c113.results) .nil .nil) .nil) (.node 171 (.code c171.body c171.ntmps c171.results) .nil .nil)) (.node 190 (.code c190.body c190.ntmps c190.results) (.node 184 (.code c184.body c184.ntmps c184.results) (.node 175 (.code y175 c175.ntmps c175.results) .nil .nil) .nil) (.node 191 (.code c191.body c191.ntmps c191.results) .nil .nil))) (.node 206 (.code c206.body c206.ntmps c206.results) (.node 195 (.nat Jcx) (.node 194 (.code c194.body c194.ntmps c194.results) (.node 193 (.code c193.body c193.ntmps c193.results) .nil .nil) .nil) (.node 205 (.code c205.body c205.ntmps c205.results) .nil .nil)) (.node 211 (.code c211.body c211.ntmps c211.results) (.node 207 (.nat JeY) .nil .nil) (.node 216 (.code c216.body c216.ntmps c216.results) .nil .nil))))
theorem tb0_ok:tb0.All (JaZ Tryz.prog):=
 ⟨Ji (Jg Jl c192_ok) c192_ok,⟨Ji (Jg Jl c174_ok) c174_ok,⟨Ji (Jg Jl c168_ok) c168_ok,⟨Ji (Jg Jl c148_ok) c148_ok,⟨Ji (Jg Jl c113_ok) c113_ok,trivial,trivial⟩,trivial⟩,⟨Ji (Jg Jl c171_ok) c171_ok,trivial,trivial⟩⟩,⟨Ji (Jg Jl c190_ok) c190_ok,⟨Ji (Jg Jl c184_ok) c184_ok,⟨Y5 (Jg Jl c175_ok) c175_ok y175_ok,trivial,trivial⟩,trivial⟩,⟨Ji (Jg Jl c191_ok) c191_ok,trivial,trivial⟩⟩⟩,⟨Ji (Jg Jl c206_ok) c206_ok,⟨Jc9 (Jg Jl c195_ok),⟨Ji (Jg Jl c194_ok) c194_ok,⟨Ji (Jg Jl c193_ok) c193_ok,trivial,trivial⟩,trivial⟩,⟨Ji (Jg Jl c205_ok) c205_ok,trivial,trivial⟩⟩,⟨Ji (Jg Jl c211_ok) c211_ok,⟨Jd7 (Jg Jl c207_ok),trivial,trivial⟩,⟨Ji (Jg Jl c216_ok) c216_ok,trivial,trivial⟩⟩⟩⟩
def tbP:BT YE:=(.node 141 (.iter bkIter) (.node 104 (.code c104.body c104.ntmps c104.results) (.node 75 (.code c75.body c75.ntmps c75.results) (.node 62 (.code c62.body c62.ntmps c62.results) (.node 48 (.code c48.body c48.ntmps c48.results) (.node 34 (.pure y34 c34.ntmps c34.results) (.node 33 (.pure y33 c33.ntmps c33.results) .nil .nil) .nil) (.node 50 (.code c50.body c50.ntmps c50.results) .nil .nil)) (.node 73 (.code c73.body c73.ntmps c73.results) (.node 72 (.code c72.body c72.ntmps c72.results) (.node 65 (.code c65.body c65.ntmps c65.results) .nil .nil) .nil) (.node 74 (.code y74 c74.ntmps c74.results) .nil .nil))) (.node 98 (.code c98.body c98.ntmps c98.results) (.node 92 (.look sortsX) (.node 77 (.code y77 c77.ntmps c77.results) (.node 76 (.code c76.body c76.ntmps c76.results) .nil .nil) .nil) (.node 96 (.code c96.body c96.ntmps c96.results) .nil .nil)) (.node 102 (.code c102.body c102.ntmps c102.results) (.node 101 (.code c101.body c101.ntmps c101.results) (.node 100 (.code c100.body c100.ntmps c100.results) .nil .nil) .nil) (.node 103 (.code c103.body c103.ntmps c103.results) .nil .nil)))) (.node 128 (.code c128.body c128.ntmps c128.results) (.node 109 (.code c109.body c109.ntmps c109.results) (.node 107 (.code c107.body c107.ntmps c107.results) (.node 106 (.code c106.body c106.ntmps c106.results) (.node 105 (.code c105.body c105.ntmps c105.results) .nil .nil) .nil) (.node 108 (.code c108.body c108.ntmps c108.results) .nil .nil)) (.node 124 (.nat JeX) (.node 123 (.nat Jc8) (.node 110 (.code c110.body c110.ntmps c110.results) .nil .nil) .nil) (.node 127 (.code c127.body c127.ntmps c127.results) .nil .nil))) (.node 133 (.code c133.body c133.ntmps c133.results) (.node 131 (.code c131.body c131.ntmps c131.results) (.node 130 (.code c130.body c130.ntmps c130.results) (.node 129 (.code c129.body c129.ntmps c129.results) .nil .nil) .nil) (.node 132 (.code y132 c132.ntmps c132.results) .nil .nil)) (.node 136 (.code c136.body c136.ntmps c136.results) (.node 135 (.code c135.body c135.ntmps c135.results) (.node 134 (.heap growX) .nil .nil) .nil) (.node 137 (.code c137.body c137.ntmps c137.results) .nil .nil))))) (.node 214 (.code c214.body c214.ntmps c214.results) (.node 176 (.code c176.body c176.ntmps c176.results) (.node 159 (.code c159.body c159.ntmps c159.results) (.node 157 (.code y157 c157.ntmps c157.results) (.node 156 (.code y156 c156.ntmps c156.results) (.node 155 (.code c155.body c155.ntmps c155.results) .nil .nil) .nil) (.node 158 (.code c158.body c158.ntmps c158.results) .nil .nil)) (.node 174 (.nat (memoF tb0 174)) (.node 161 (.code c161.body c161.ntmps c161.results) (.node 160 (.code c160.body c160.ntmps c160.results) .nil .nil) .nil) (.node 175 (.nat (memoF tb0 175)) .nil .nil))) (.node 195 (.nat Jcx) (.node 179 (.code c179.body c179.ntmps c179.results) (.node 178 (.code c178.body c178.ntmps c178.results) (.node 177 (.code c177.body c177.ntmps c177.results) .nil .nil) .nil) (.node 190 (.nat (memoF tb0 190)) .nil .nil)) (.node 207 (.nat JeY) (.node 197 (.code c197.body c197.ntmps c197.results) (.node 196 (.code c196.body c196.ntmps c196.results) .nil .nil) .nil) (.node 208 (.code c208.body c208.ntmps c208.results) .nil .nil)))) (.node 235 (.code c235.body c235.ntmps c235.results) (.node 230 (.code c230.body c230.ntmps c230.results) (.node 226 (.code c226.body c226.ntmps c226.results) (.node 222 (.code c222.body c222.ntmps c222.results) (.node 215 (.code c215.body c215.ntmps c215.results) .nil .nil) .nil) (.node 229 (.code c229.body c229.ntmps c229.results) .nil .nil)) (.node 233 (.code c233.body c233.ntmps c233.results) (.node 232 (.code c232.body c232.ntmps c232.results) (.node 231 (.code y231 c231.ntmps c231.results) .nil .nil) .nil) (.node 234 (.code c234.body c234.ntmps c234.results) .nil .nil))) (.node 240 (.code c240.body c240.ntmps c240.results) (.node 238 (.code c238.body c238.ntmps c238.results) (.node 237 (.code c237.body c237.ntmps c237.results) (.node 236 (.code c236.body c236.ntmps c236.results) .nil .nil) .nil) (.node 239 (.code c239.body c239.ntmps c239.results) .nil .nil)) (.node 242 (.code c242.body c242.ntmps c242.results) (.node 241 (.code c241.body c241.ntmps c241.results) .nil .nil) (.node 243 (.code c243.body c243.ntmps c243.results) .nil .nil))))))
theorem tbP_ok:tbP.All (JaZ Tryz.prog):=
 ⟨bk_ok (Jg Jl c141_ok),⟨Ji (Jg Jl c104_ok) c104_ok,⟨Ji (Jg Jl c75_ok) c75_ok,⟨Ji (Jg Jl c62_ok) c62_ok,⟨Ji (Jg Jl c48_ok) c48_ok,⟨pure_ok (Jg Jl c34_ok) c34_ok y34_ok,⟨pure_ok (Jg Jl c33_ok) c33_ok y33_ok,trivial,trivial⟩,trivial⟩,⟨Ji (Jg Jl c50_ok) c50_ok,trivial,trivial⟩⟩,⟨Ji (Jg Jl c73_ok) c73_ok,⟨Ji (Jg Jl c72_ok) c72_ok,⟨Ji (Jg Jl c65_ok) c65_ok,trivial,trivial⟩,trivial⟩,⟨Y5 (Jg Jl c74_ok) c74_ok y74_ok,trivial,trivial⟩⟩⟩,⟨Ji (Jg Jl c98_ok) c98_ok,⟨sortsX_ok (Jg Jl c92_ok),⟨Y5 (Jg Jl c77_ok) c77_ok y77_ok,⟨Ji (Jg Jl c76_ok) c76_ok,trivial,trivial⟩,trivial⟩,⟨Ji (Jg Jl c96_ok) c96_ok,trivial,trivial⟩⟩,⟨Ji (Jg Jl c102_ok) c102_ok,⟨Ji (Jg Jl c101_ok) c101_ok,⟨Ji (Jg Jl c100_ok) c100_ok,trivial,trivial⟩,trivial⟩,⟨Ji (Jg Jl c103_ok) c103_ok,trivial,trivial⟩⟩⟩⟩,⟨Ji (Jg Jl c128_ok) c128_ok,⟨Ji (Jg Jl c109_ok) c109_ok,⟨Ji (Jg Jl c107_ok) c107_ok,⟨Ji (Jg Jl c106_ok) c106_ok,⟨Ji (Jg Jl c105_ok) c105_ok,trivial,trivial⟩,trivial⟩,⟨Ji (Jg Jl c108_ok) c108_ok,trivial,trivial⟩⟩,⟨natCount_ok (Jg Jl c124_ok),⟨natRepeat_ok (Jg Jl c123_ok),⟨Ji (Jg Jl c110_ok) c110_ok,trivial,trivial⟩,trivial⟩,⟨Ji (Jg Jl c127_ok) c127_ok,trivial,trivial⟩⟩⟩,⟨Ji (Jg Jl c133_ok) c133_ok,⟨Ji (Jg Jl c131_ok) c131_ok,⟨Ji (Jg Jl c130_ok) c130_ok,⟨Ji (Jg Jl c129_ok) c129_ok,trivial,trivial⟩,trivial⟩,⟨Y5 (Jg Jl c132_ok) c132_ok y132_ok,trivial,trivial⟩⟩,⟨Ji (Jg Jl c136_ok) c136_ok,⟨Ji (Jg Jl c135_ok) c135_ok,⟨growX_ok (Jg Jl c134_ok),trivial,trivial⟩,trivial⟩,⟨Ji (Jg Jl c137_ok) c137_ok,trivial,trivial⟩⟩⟩⟩⟩,⟨Ji (Jg Jl c214_ok) c214_ok,⟨Ji (Jg Jl c176_ok) c176_ok,⟨Ji (Jg Jl c159_ok) c159_ok,⟨Y5 (Jg Jl c157_ok) c157_ok y157_ok,⟨Y5 (Jg Jl c156_ok) c156_ok y156_ok,⟨Ji (Jg Jl c155_ok) c155_ok,trivial,trivial⟩,trivial⟩,⟨Ji (Jg Jl c158_ok) c158_ok,trivial,trivial⟩⟩,⟨JeZ tb0_ok JF (Jg Jl c174_ok),⟨Ji (Jg Jl c161_ok) c161_ok,⟨Ji (Jg Jl c160_ok) c160_ok,trivial,trivial⟩,trivial⟩,⟨JeZ tb0_ok JF (Jg Jl c175_ok),trivial,trivial⟩⟩⟩,⟨Jc9 (Jg Jl c195_ok),⟨Ji (Jg Jl c179_ok) c179_ok,⟨Ji (Jg Jl c178_ok) c178_ok,⟨Ji (Jg Jl c177_ok) c177_ok,trivial,trivial⟩,trivial⟩,⟨JeZ tb0_ok JF (Jg Jl c190_ok),trivial,trivial⟩⟩,⟨Jd7 (Jg Jl c207_ok),⟨Ji (Jg Jl c197_ok) c197_ok,⟨Ji (Jg Jl c196_ok) c196_ok,trivial,trivial⟩,trivial⟩,⟨Ji (Jg Jl c208_ok) c208_ok,trivial,trivial⟩⟩⟩⟩,⟨Ji (Jg Jl c235_ok) c235_ok,⟨Ji (Jg Jl c230_ok) c230_ok,⟨Ji (Jg Jl c226_ok) c226_ok,⟨Ji (Jg Jl c222_ok) c222_ok,⟨Ji (Jg Jl c215_ok) c215_ok,trivial,trivial⟩,trivial⟩,⟨Ji (Jg Jl c229_ok) c229_ok,trivial,trivial⟩⟩,⟨Ji (Jg Jl c233_ok) c233_ok,⟨Ji (Jg Jl c232_ok) c232_ok,⟨Y5 (Jg Jl c231_ok) c231_ok y231_ok,trivial,trivial⟩,trivial⟩,⟨Ji (Jg Jl c234_ok) c234_ok,trivial,trivial⟩⟩⟩,⟨Ji (Jg Jl c240_ok) c240_ok,⟨Ji (Jg Jl c238_ok) c238_ok,⟨Ji (Jg Jl c237_ok) c237_ok,⟨Ji (Jg Jl c236_ok) c236_ok,trivial,trivial⟩,trivial⟩,⟨Ji (Jg Jl c239_ok) c239_ok,trivial,trivial⟩⟩,⟨Ji (Jg Jl c242_ok) c242_ok,⟨Ji (Jg Jl c241_ok) c241_ok,trivial,trivial⟩,⟨Ji (Jg Jl c243_ok) c243_ok,trivial,trivial⟩⟩⟩⟩⟩⟩
end Go.Cm
end
end
