/-
  A part of the proof. Conditions: none.
-/
import Derived.Test.YtaiboeciecfgoaaGreatDoorRI1
import Derived.Test.YtaiboeciecfgoaaGreatDoorRS1
import Derived.WalkKit
import Derived.BigCall
import Derived.Test.YtaiboeciecfgoaaGreatDoorRFwYG
import Derived.Shelf.Strings.Builder1
set_option linter.unusedSimpArgs false
set_option linter.unusedVariables false
open Go.Proofs.Tryz renaming prog→Ga
open Bool renaming eq_iff_iff→Gh,or_eq_false_iff→Gr,and_eq_true→Gs,false_and→Gt
open Int renaming cast_ofNat_Int→Gb
open List renaming getElem?_eq_getElem→Gc,getD_eq_getElem?_getD→Gd,drop_eq_getElem_cons→Gi,mem_of_getElem?→Gj,takeWhile_cons→Gl,replicate→Gm,getElem?_eq_some_iff→Gu,prefix_iff_eq_take→Gv,mem_cons→Gn,map_cons→Gp,takeWhile_prefix→Gw,length→Gq,mem_singleton→Gx,all_takeWhile→Gy,take_length→Gz
open Nat renaming le_of_lt→Gf,le_refl→Gg,le_trans→GA
noncomputable section
section
open Go.Proofs
namespace Go.Cm
section
theorem nm {f:Nat}:(Ga.funcs[f]?.map (·.name))≠some "runtime.NumGoroutine" :=JaE JC f
def isLt (c:UInt8):Bool:=decide (97≤c.toNat) && decide (c.toNat≤122)
def isBk (c:UInt8):Bool:=c == 32 || c == 10
def isGp (c:UInt8):Bool:=isBk c || c == 126
theorem dle (a:Nat) (c:UInt8):decide ((a:Int)≤(c.toNat:Int))=decide (a≤c.toNat):=decide_eq_decide.2 (by omega)
theorem dge (a:Nat) (c:UInt8):decide ((c.toNat:Int)≤(a:Int))=decide (c.toNat≤a):=decide_eq_decide.2 (by omega)
theorem deq (a:Nat) (ha:a < 256) (c:UInt8):((c.toNat:Int) == (a:Int))=(c == UInt8.ofNat a):=by
 rw[Gh]
 simp only[beq_iff_eq]
 constructor
 ·intro h
  apply UInt8.toNat_inj.1
  simp
  omega
 ·intro h
  rw[h]
  simp
  omega
theorem JdV (c:UInt8):Fn Ga 120 [.int .u8 c.toNat] (.bool (isLt c)):=by
 refine Ja c120_ok rfl rfl fun N=>?_
 have h1:=dle 97 c
 have h2:=dge 122 c
 simp only[Gb]at h1 h2
 simp +contextual only[c120,go_sem,h1,h2,isLt]
theorem Jcv (c:UInt8):Fn Ga 122 [.int .u8 c.toNat] (.bool (QT c)):=by
 refine Ja c122_ok rfl rfl fun N=>?_
 have h1:=dle 48 c
 have h2:=dge 57 c
 simp only[Gb]at h1 h2
 simp +contextual only[c122,go_sem,h1,h2,QT]
theorem lexIsBlank (c:UInt8):Fn Ga 119 [.int .u8 c.toNat] (.bool (isBk c)):=by
 refine Ja c119_ok rfl rfl fun N=>?_
 have h1:=deq 32 (by decide) c
 have h2:=deq 10 (by decide) c
 simp only[Gb]at h1 h2
 simp +contextual only[c119,go_sem,h1,h2]
 show ((c == 32)=false→CV.bool (c == 10)=CV.bool ((c == 32) || (c == 10)))∧((c == 32)=true→CV.bool true=CV.bool ((c == 32) || (c == 10)))
 cases (c == 32) <;> simp
theorem lexIsGap (c:UInt8):Fn Ga 104 [.int .u8 c.toNat] (.bool (isGp c)):=by
 refine Ja c104_ok rfl rfl fun N=>?_
 have h1:=deq 126 (by decide) c
 simp only[Gb]at h1
 simp +contextual only[c104,go_sem]
 refine JV (lexIsBlank c) ?_
 simp +contextual only[go_sem,h1]
 cases h:isBk c with
 |true=>simp[isGp,h]
 |false=>simp[isGp,h]
def QU {α:Type}(q:α→Bool):List α→Nat→Int
 |[],_=>-1
 |p::l,i=>if q p then i else QU q l (i+1)
theorem QF {α:Type}{q:α→Bool}{l:List α}{i:Nat}{p:α}(h:l[i]? = some p):QU q (l.drop i) i=if q p then (i:Int) else QU q (l.drop (i+1)) (i+1):=by
 have hlt:=(Gu.1 h).1
 have hp:=(Gu.1 h).2
 rw[Gi hlt,hp]; rfl
theorem fixA_neg {α:Type}{q:α→Bool}:∀ (l:List α) (i:Nat),QU q l i < 0↔l.any q=false
 |[],_=>by simp[QU]
 |p::l,i=>by
  have:=fixA_neg (q:=q) l (i+1)
  simp only[QU,List.any_cons,Gr]
  by_cases h:q p=true
  ·simp only[h,if_true,Bool.true_eq_false,false_and,iff_false]; omega
  ·have h':q p=false:=by simpa using h
   rw[if_neg h,this]; simp[h']
theorem JaI {α:Type}{q:α→Bool}(l:List α):decide (0≤QU q l 0)=l.any q:=by
 have h:=fixA_neg (q:=q) l 0
 cases h2:l.any q with
 |true=>
  rw[decide_eq_true_eq]
  rw[h2]at h
  simp at h
  exact h
 |false=>
  rw[decide_eq_false_iff_not]
  have:=h.2 h2
  omega
structure FnQ where
 f:Nat
 q:UInt8→Bool
def Jgx (p:FnQ):Prop:=(∃ F,Je Ga p.f=some F)∧∀ c:UInt8,Fn Ga p.f [.int .u8 c.toNat] (.bool (p.q c))
def qLt:FnQ:=⟨120,isLt⟩
def qDg:FnQ:=⟨122,QT⟩
theorem qLt_ok:Jgx qLt:=⟨⟨_,c120_ok⟩,JdV⟩
theorem qDg_ok:Jgx qDg:=⟨⟨_,c122_ok⟩,Jcv⟩
def fnz (l:List FnQ):List (List CV):=l.map fun p=>[.fn p.f [] []]
theorem fnz_len {l:List FnQ}:(fnz l).length=l.length:=by simp[fnz]
theorem fnz_get {l:List FnQ}{i:Nat}{p:FnQ}(h:l[i]? = some p):(fnz l).getD i []=[.fn p.f [] []]:=by
 simp[fnz,Gd,h]
section
variable {E:Env}{H:List CObj}{id:Nat}{l:List UInt8}{at_:Nat}
theorem run1 (hH:H[id]? = some (.arr 1 [[.int .i64 (at_:Int)]])) (hlt:at_ < l.length) (p:FnQ) (hp:Jgx p):Pure Ga E 155 [.fn p.f [] [],.rptr [S l],.ptr id 0 0] H (.bool (p.q (l.getD at_ 0))):=by
 obtain ⟨⟨F,hF⟩,hq⟩:=hp
 refine KI c155_ok fun N=>?_
 simp +contextual only[c155,go_sem,hH]
 refine ⟨⟨by omega,by omega⟩,?_⟩
 refine vr_fv (.inl rfl) rfl hF nm (hq _) ?_
 simp +contextual only[go_sem]
theorem Jds {P:Program}{n0:Nat}{N:Fr}{Q:Exit→List CV→List CObj→Prop}{T:List CV}{k:List KItem}{d:Option Nat}{g:Option (Nat×Bool)}{x:IArg}{f:Nat}{l1 l2:List CV}{xs:List IArg}{l:List IOper}{v:CV}{F:IFunc}(hg:GOk T g) (hx:JQ T x=.fn f l1 l2) (hF:Je P f=some F) (hnm:(P.funcs[f]?.map (·.name))≠some "runtime.NumGoroutine")
  (hcall:Pure P E f (l1++xs.map (JQ T)++l2) H v) (h:Kr P E n0 N Q (.ops l::k) (put T d v) H):Ok P E n0 N Q (.ops (⟨d,.callv x xs,g⟩::l)::k) T H:=by
 have hfn:∃ fn,P.funcs[f]? = some fn∧fn.body.isSome=true:=by
  unfold Je at hF
  split at hF
  ·rename_i fn hfn
   split at hF
   ·rename_i c hb
    exact ⟨fn,hfn,by rw[hb]; rfl⟩
   ·cases hF
  ·cases hF
 obtain ⟨fn,hfn,hbd⟩:=hfn
 exact JbN hg hx hfn hbd (fun e=>hnm (by rw[hfn,← e]; rfl)) hcall fun v' H' ⟨h1,h2⟩=>by rw[h1,h2]; exact JK _ _ _ h
theorem indexF (hH:H[id]? = some (.arr 1 [[.int .i64 (at_:Int)]])) (hlt:at_ < l.length) (fs:List FnQ) (cap:Option Nat) (hfs:∀ p∈fs,Jgx p) (hl:fs.length≤1000) :
  Pure Ga E 203 [.rslc 1 (fnz fs) cap,.fn 155 [] [.rptr [S l],.ptr id 0 0]] H (.int .i64 (QU (fun p=>p.q (l.getD at_ 0)) fs 0)):=by
 generalize hQ:(fun p:FnQ=>p.q (l.getD at_ 0))=q
 refine KI c203_ok fun N=>?_
 simp +contextual only[c203,go_sem,fnz_len]
 refine Jz (I:=fun i:Nat=>i≤fs.length∧QU q fs 0=QU q (fs.drop i) i) (inv:=fun i=>gp [(0,.rslc 1 (fnz fs) cap),(0,.fn 155 [] [.rptr [S l],.ptr id 0 0]),(5,.int .i64 fs.length),(0,.int .i64 i)] 10) (hp:=fun _=>H) (μ:=fun i=>fs.length-i) 0 ?_ ?_ rfl ?_
 ·simp
 ·simp[forget,gp]
 ·rintro i ⟨hi,hinv⟩
  simp +contextual only[go_sem,fnz_len]
  refine ⟨fun h=>?_,fun h=>?_⟩
  ·have hlt2:i < fs.length:=by omega
   obtain ⟨p,hp⟩:∃ p,fs[i]? = some p:=⟨_,Gc hlt2⟩
   rw[QF hp]at hinv
   rw[fnz_get hp]
   refine ⟨by omega,?_⟩
   simp +contextual only[go_sem]
   refine Jds (.inl rfl) rfl c155_ok nm (run1 hH hlt p (hfs p (Gj hp))) ?_
   have hqp:p.q (l.getD at_ 0)=q p:=by rw[← hQ]
   rw[hqp]
   simp only[go_sem]
   refine ⟨fun h2=>?_,fun h2=>?_⟩
   ·rw[hinv,if_pos h2]
   ·rw[h2]at hinv
    refine ⟨Ji,i+1,⟨by omega,by simpa using hinv⟩,by omega,?_⟩
    simp[forget]
  ·have:i=fs.length:=by omega
   subst this
   rw[hinv]; simp[QU]
theorem containsF (hH:H[id]? = some (.arr 1 [[.int .i64 (at_:Int)]])) (hlt:at_ < l.length) (fs:List FnQ) (cap:Option Nat) (hfs:∀ p∈fs,Jgx p) (hl:fs.length≤1000) :
  Pure Ga E 183 [.rslc 1 (fnz fs) cap,.fn 155 [] [.rptr [S l],.ptr id 0 0]] H (.bool (fs.any fun p=>p.q (l.getD at_ 0))):=by
 refine KI c183_ok fun N=>?_
 simp +contextual only[c183,go_sem]
 refine vr_pure (indexF hH hlt fs cap hfs hl) ?_
 simp +contextual only[go_sem,JaI]
theorem noneF (hH:H[id]? = some (.arr 1 [[.int .i64 (at_:Int)]])) (hlt:at_ < l.length) (fs:List FnQ) (cap:Option Nat) (hfs:∀ p∈fs,Jgx p) (hl:fs.length≤1000) :
  Pure Ga E 154 [.rslc 1 (fnz fs) cap,.fn 155 [] [.rptr [S l],.ptr id 0 0]] H (.bool (!fs.any fun p=>p.q (l.getD at_ 0))):=by
 refine KI c154_ok fun N=>?_
 simp +contextual only[c154,go_sem]
 refine vr_pure (containsF hH hlt fs cap hfs hl) ?_
 simp +contextual only[go_sem]
end
def Qy (q:UInt8→Bool) (l:List UInt8) (a:Nat):Nat:=a+((l.drop a).takeWhile q).length
theorem X6 {q:UInt8→Bool}{l:List UInt8}{a:Nat}(h:a≤l.length):Qy q l a≤l.length:=by
 unfold Qy
 have:=(List.takeWhile_sublist (l:=l.drop a) q).length_le
 simp at this
 omega
theorem runE_end {q:UInt8→Bool}{l:List UInt8}{a:Nat}(h:l.length≤a):Qy q l a=a:=by
 unfold Qy; rw[List.drop_eq_nil_of_le h]; rfl
theorem Jc4 {q:UInt8→Bool}{l:List UInt8}{a:Nat}(h:a < l.length) (hq:q (l.getD a 0)=true):Qy q l a=Qy q l (a+1):=by
 unfold Qy
 rw[Gd,Gc h]at hq
 simp only[Option.getD_some]at hq
 rw[Gi h,Gl,if_pos hq]
 simp; omega
theorem JdE {q:UInt8→Bool}{l:List UInt8}{a:Nat}(h:a < l.length) (hq:q (l.getD a 0)=false):Qy q l a=a:=by
 unfold Qy
 rw[Gd,Gc h]at hq
 simp only[Option.getD_some]at hq
 rw[Gi h,Gl,hq]
 simp
theorem lexRun (l:List UInt8) (a:Nat) (fs:List FnQ) (cap:Option Nat) (hfs:∀ p∈fs,Jgx p) (hl:fs.length≤1000) (hll:l.length≤1000000) (ha:a≤l.length) :
  Fn Ga 121 [S l,.int .i64 (a:Int),.rslc 1 (fnz fs) cap] (.int .i64 (Qy (fun c=>fs.any fun p=>p.q c) l a:Nat)):=by
 generalize hQ:(fun c=>fs.any fun p:FnQ=>p.q c)=q
 refine Ja c121_ok rfl rfl fun N=>?_
 simp +contextual only[c121,go_sem]
 refine Jg (id:=0) (z:=1) (els:=[[S l]]) rfl rfl ?_
 simp only[go_sem,J2,Ko,frz,KG]
 refine Jz (I:=fun i:Nat=>i≤l.length∧Qy q l a=Qy q l i) (inv:=fun i=>gp [(2,.rslc 1 (fnz fs) cap),(0,.rptr [S l]),(0,.ptr 1 0 0)] 15) (hp:=fun i=>[.dead,.arr 1 [[.int .i64 (i:Int)]]]) (μ:=fun i=>l.length-i) a ⟨ha,rfl⟩ ?_ rfl ?_
 ·simp[forget,gp]
 ·rintro i ⟨hi,hinv⟩
  simp +contextual only[go_sem]
  by_cases hlt:i < l.length
  ·have d1:((i:Int) < (l.length:Int))=True:=Jn
   simp +contextual only[go_sem,d1]
   refine vr_pureg (gok rfl) (noneF (id:=1) (l:=l) (at_:=i) rfl hlt fs cap hfs hl) ?_
   have hq:(fs.any fun p=>p.q (l.getD i 0))=q (l.getD i 0):=by rw[← hQ]
   rw[hq]
   cases hqi:q (l.getD i 0) with
   |true=>
    simp +contextual only[go_sem]
    refine ⟨Ji,i+1,⟨by omega,by rw[hinv,Jc4 hlt hqi]⟩,by omega,by simp,?_⟩
    simp[forget]
   |false=>
    simp +contextual only[go_sem]
    rw[hinv,JdE hlt hqi]
  ·have d1:((i:Int) < (l.length:Int))=False:=Jj
   simp +contextual only[go_sem,d1]
   rw[hinv,runE_end (by omega)]
end
end Go.Cm
end
section
open Go.Proofs Go.RowKit
namespace Go.Cm
theorem repL_eq (c:UInt8):∀ n,Lib.repeatL [c] n=Gm n c
 |0=>rfl
 |n+1=>by
  have:=repL_eq c n
  simp[Lib.repeatL,List.replicate_succ]at this ⊢
  first | exact this | (rw[this])
theorem cntL_eq (c:UInt8) (l:List UInt8):Lib.countByte l c=KE c l:=rfl
theorem cntB_le (c:UInt8) (l:List UInt8):KE c l≤l.length:=List.count_le_length
theorem repeatL (c:UInt8) (n:Nat) (hn:n≤1000000):Fn Ga 214 [S [c],.int .i64 n] (S (Gm n c)):=by
 intro E H
 refine Kc fun m w vs hs hv=>?_
 simp only[JE,rel]at hv
 obtain ⟨r,rs,e,rfl,r2,rs2,rfl,rfl,rfl⟩:=hv
 have hvs:vs=#[.string ⟨⟨[c]⟩⟩,.int .i64 n]:=by cases vs; simp_all
 subst hvs
 refine ⟨_,Tryz.strings_Repeat ⟨⟨[c]⟩⟩ n w (by omega) ?_,?_⟩
 ·simp[S_size]; omega
 ·rw[repL_eq]; rfl
theorem countL (l:List UInt8) (c:UInt8):Fn Ga 215 [S l,S [c]] (.int .i64 (KE c l)):=by
 intro E H
 refine Kc fun m w vs hs hv=>?_
 simp only[JE,rel]at hv
 obtain ⟨r,rs,e,rfl,r2,rs2,rfl,rfl,rfl⟩:=hv
 have hvs:vs=#[.string ⟨⟨l⟩⟩,.string ⟨#[c]⟩]:=by cases vs; simp_all
 subst hvs
 refine ⟨_,(Tryz.strings_Count_one ⟨⟨l⟩⟩ c w).mono fun e w' ⟨h1,h2⟩=>⟨h1,by rw[h2]; exact Below.refl _ _⟩,?_⟩
 rw[cntL_eq]; rfl
end Go.Cm
end
section
open Go.Shelf Go.RowKit Go.Proofs
namespace Go.Proofs
theorem Tryz.tab_of {w:World}(h:Go.Cm.GLw w):Lib.TabIs Ga w "internal/strconv.uint64pow10" .u64 Lib.pow10Tab:=by
 obtain ⟨_,⟨e,q,h1⟩,_⟩:=h
 have hg:Ga.globalNamed "internal/strconv.uint64pow10" = some Go.Cm.gTab:=by kernel_rfl
 simp only[show Go.Cm.gTab < Go.Cm.gN by decide,if_true]at h1
 simp only[Lib.TabIs,World.var?,hg,Option.bind_some,h1]
theorem Tryz.err_of {w:World}(h:Go.Cm.GLw w) {B:Nat}(hB:B∈Go.Cm.gErr):∃ te pe,w.cell? ⟨B,0,none⟩=some (.iface te pe):=by
 obtain ⟨te,pe,e,q,h1⟩:=h.2.2 B hB
 have hlt:B < Go.Cm.gN:=by
  have:∀ x∈Go.Cm.gErr,x < Go.Cm.gN:=by decide
  exact this B hB
 simp only[if_pos hlt]at h1
 exact ⟨te,pe,by simp[World.cell?,h1]⟩
theorem Tryz.GLw_below {w w':World}(h:Go.Cm.GLw w) (hb:Below w.heap.size w w'):Go.Cm.GLw w':=h.mono fun B hB=>hb.block B (h.lt hB)
open Go.Cm in
set_option maxHeartbeats 4000000 in
set_option maxRecDepth 100000 in
theorem Tryz.isNumber_walk (l:List UInt8) (hd:l.all QT=true) (hne:l≠[]) (hl:l.length≤1000000) (w:World) (hg:GLw w) :
  Calls Ga 124 #[.string ⟨⟨l⟩⟩] w fun e w'=>e=.returned (.bool (Jba l))∧Below w.heap.size w w':=by
 have hat:=atoi_digits l hd hne
 have hdb:=digits_back _ l rfl hd hne
 by_cases hr:Jb1 l < 9223372036854775808
 ·rw[if_pos hr]at hat
  have hok:Jba l=(decide (Jb1 l≤1000000000) && (Lib.decDigits (Jb1 l) == l)):=by
   unfold Jba
   congr 1
   rw[Gh]
   simp only[decide_eq_true_eq,beq_iff_eq]
   exact hdb.symm
  rw[hok]
  generalize Jb1 l=v at hat hr
  have grow_below:∀ (w:World) (k:Nat) (os:Array Obj),Below w.heap.size w (Go.Sort.grow (w.drewN k) os):=fun w k os=>
   ⟨rfl,rfl,rfl,by simp[Go.Sort.grow,World.drewN],fun i hi=>by
    simp only[Go.Sort.grow,World.drewN]
    rw[Array.getElem?_append_left hi]⟩
  by_cases hv:v≤1000000000
  ·rw[decide_eq_true hv,Bool.true_and]
   have d2:((v:Int)≤1000000000):=by omega
   go_enter Tryz.func124,Tryz.ntmps124
   go_wp2_with (go_at_call 157; refine (Tryz.strconv_Atoi_ok ⟨⟨l⟩⟩ (by simp[ByteArray.size]; omega) v hat _).mono ?_; rintro e W1 ⟨rfl,hW⟩)
   have hb1:Below w.heap.size w W1:=by
    rcases hW with rfl | ⟨t,rfl⟩
    ·exact Below.refl _ _
    ·exact Lib.bytesWorld_below _ _ _
   have hg1:=Tryz.GLw_below hg hb1
   clear hW
   go_wp2_with (go_at_call 158; refine (Tryz.strconv_Itoa (v:Int) (by omega) (by omega) _ (Tryz.tab_of hg1)).mono ?_; rintro e W2 ⟨rfl,k,os,rfl⟩)
   rw[Lib.itoa_nonneg]
   have hb2:=grow_below W1 k os
   generalize Go.Sort.grow (W1.drewN k) os=W2 at hb2 ⊢
   go_wp2
   go_ret
   refine ⟨?_,hb1.trans (hb2.mono hb1.size)⟩
   congr 2
  ·rw[decide_eq_false hv,Gt]
   have d2:¬ ((v:Int)≤1000000000):=by omega
   go_enter Tryz.func124,Tryz.ntmps124
   go_wp2_with (go_at_call 157; refine (Tryz.strconv_Atoi_ok ⟨⟨l⟩⟩ (by simp[ByteArray.size]; omega) v hat _).mono ?_; rintro e W1 ⟨rfl,hW⟩)
   have hb1:Below w.heap.size w W1:=by
    rcases hW with rfl | ⟨t,rfl⟩
    ·exact Below.refl _ _
    ·exact Lib.bytesWorld_below _ _ _
   clear hW
   go_wp2
   go_ret
   exact ⟨rfl,hb1⟩
 ·rw[if_neg hr]at hat
  have hok:Jba l=false:=by
   unfold Jba
   rw[decide_eq_false (by omega)]; rfl
  rw[hok]
  obtain ⟨te,pe,hev⟩:=Tryz.err_of hg (B:=1) (by decide)
  go_enter Tryz.func124,Tryz.ntmps124
  go_wp2_with (go_at_call 157; refine (Tryz.strconv_Atoi_range ⟨⟨l⟩⟩ (by simp[ByteArray.size]; omega) hat _ _ hev (.inr ⟨te,pe,rfl⟩)).mono ?_; rintro e W1 ⟨N,rfl,hN1,hN2,hb1⟩)
  go_wp2
  go_ret
  exact ⟨rfl,hb1⟩
end Go.Proofs
namespace Go.Cm
theorem isNumberL (l:List UInt8) (hd:l.all QT=true) (hne:l≠[]) (hl:l.length≤1000000):Fn Ga 124 [S l] (.bool (Jba l)):=by
 intro E H
 refine Kc fun m w vs hs hv=>?_
 simp only[JE,rel]at hv
 obtain ⟨r,rs,e,rfl,rfl⟩:=hv
 have hvs:vs=#[.string ⟨⟨l⟩⟩]:=by cases vs; simp_all
 subst hvs
 exact ⟨_,Tryz.isNumber_walk l hd hne hl w hs.gl.1,rfl⟩
end Go.Cm
end
section
open Go.Proofs
namespace Go.Cm
def Ku (c:UInt8):Bool:=isLt c || QT c
theorem any_ld:(fun c:UInt8=>[qLt,qDg].any fun p=>p.q c)=Ku:=by funext c; simp[qLt,qDg,Ku]
theorem any_d:(fun c:UInt8=>[qDg].any fun p=>p.q c)=QT:=by funext c; simp[qDg]
def kws:List (List UInt8):=[[97,110,100],[97,114,114,97,121],[98,111,111,108],[98,121],[100,101,102],[100,111],[101,108,115,101],[101,109,112,116,121],[102,97,108,115,101],[103,105,118,101],[104,101,97,100],[105,102],[105,110],[105,110,116],[108,111,111,112],[110,101,120,116],[110,105,108],[110,111,116],[111,114],[115,105,122,101],[115,116,114,101,97,109],[116,97,105,108],[116,114,117,101],[119,104,105,108,101]]
def sgs:List (List UInt8):=[[58,58],[58,61],[45,62],[46,46],[61,61],[33,61],[60,61],[62,61],[60],[62],[61],[43],[45],[42],[47],[37],[35],[40],[41],[91],[93],[123],[125],[44],[59],[58]]
def sz (l:List (List UInt8)):List (List CV):=l.map fun s=>[S s]
theorem YZ {l:List (List UInt8)}:(sz l).length=l.length:=by simp[sz]
theorem sz_get {l:List (List UInt8)}{i:Nat}(h:i < l.length):(sz l).getD i []=[S (l.getD i [])]:=by
 simp[sz,Gd,Gc h]
def tbK:BT YE:=.node 156 (.pure c156.body c156.ntmps c156.results) .nil .nil
theorem tbK_ok:tbK.All (JfL Ga):=⟨Jda (Js JC c156_ok) c156_ok,trivial,trivial⟩
def tbG:BT YE:=.node 125 (.pure c125.body c125.ntmps c125.results) .nil .nil
theorem tbG_ok:tbG.All (JfL Ga):=⟨Jda (Js JC c125_ok) c125_ok,trivial,trivial⟩
theorem Jew:Fn Ga 156 [] (.rslc 1 (sz kws) none):=Qb tbK_ok JA (Xk (r:=yfn tbK 1000 156 []) (by kernel_rfl)) rfl (by decide +kernel)
theorem apiSigns:Fn Ga 125 [] (.rslc 1 (sz sgs) none):=Qb tbG_ok JA (Xk (r:=yfn tbG 1000 125 []) (by kernel_rfl)) rfl (by decide +kernel)
theorem hasPrefix0 (l p:List UInt8):Fn Ga 159 [S l,S p] (.bool (l.take p.length == p)):=by
 refine Ja c159_ok rfl rfl fun N=>?_
 simp +contextual only[c159,go_sem]
 refine ⟨fun h=>by omega,fun h=>?_⟩
 congr 1
 symm
 rw[beq_eq_false_iff_ne]
 intro e
 have:=congrArg Gq e
 simp at this
 omega
theorem hasPrefix (l p:List UInt8):Fn Ga 126 [S l,S p] (.bool (l.take p.length == p)):=by
 refine Ja c126_ok rfl rfl fun N=>?_
 simp +contextual only[c126,go_sem]
 refine JV (hasPrefix0 _ _) ?_
 simp +contextual only[go_sem]
theorem S_beq (l m:List UInt8):((⟨⟨l⟩⟩:ByteArray) == ⟨⟨m⟩⟩)=(l == m):=by
 rw[beq_toListBytes]; simp
def kwm (l:List (List UInt8)):List (CV×CV):=l.map fun s=>(S s,.bool true)
theorem kw_new {l:List (List UInt8)}{s:List UInt8}(h:s∉l):∀ i,XJ .str (S s) (kwm l) i=some none:=by
 induction l with
 |nil=>intro i; rfl
 |cons a l ih=>
  intro i
  simp only[Gn,not_or]at h
  have e:XT .str (S s) (S a)=some false:=by
   simp only[XT,S_beq]
   congr 1
   rw[beq_eq_false_iff_ne]
   exact h.1
  simp only[kwm,Gp,XJ,e]
  exact ih h.2 (i+1)
theorem kw_old {l : List (List UInt8)} {s : List UInt8} (h : s ∈ l) : ∀ i, ∃ j, XJ .str (S s) (kwm l) i = some (some (j, .bool true)) := by
  induction l with
  | nil => cases h
  | cons a l ih =>
    intro i
    by_cases ha : s = a
    · subst ha
      have e : XT .str (S s) (S s) = some true := by simp [XT, S_beq]
      exact ⟨i, by simp only [kwm, Gp, XJ, e]⟩
    · have hm : s ∈ l := by rcases Gn.1 h with h | h; · exact absurd h ha
                            · exact h
      have e : XT .str (S s) (S a) = some false := by
        simp only [XT, S_beq]
        congr 1
        rw [beq_eq_false_iff_ne]
        exact ha
      obtain ⟨j, hj⟩ := ih hm (i + 1)
      exact ⟨j, by simp only [kwm, Gp, XJ, e]; exact hj⟩
theorem kw_take_all:∀ i:Fin 24,kws.getD i []∉kws.take i:=by decide +kernel
theorem kw_take {i:Nat}(h:i < kws.length):kws.getD i []∉kws.take i:=kw_take_all ⟨i,h⟩
theorem keywords {E:Env}{H:List CObj}:CallsC Ga E 123 [] H fun v H'=>v=.map H.length∧H'=H++[.map (kwm kws)]:=by
 refine KI c123_ok fun N=>?_
 simp +contextual only[c123,go_sem]
 refine JV Jew ?_
 simp +contextual only[go_sem,YZ]
 refine Jz (I:=fun i:Nat=>i≤kws.length) (inv:=fun i=>gp [(1,.map H.length),(3,.rslc 1 (sz kws) none),(0,.int .i64 kws.length),(0,.int .i64 i)] 7) (hp:=fun i=>H++[.map (kwm (kws.take i))]) (μ:=fun i=>kws.length-i) 0 (by omega) ?_ rfl ?_
 ·simp[forget,gp]
 ·intro i hi
  simp +contextual only[go_sem,YZ]
  refine ⟨fun h=>?_,fun h=>?_⟩
  ·have hlt:i < kws.length:=by omega
   rw[sz_get hlt]
   have hn:=kw_new (kw_take hlt) 0
   have hs:kws.take (i+1)=kws.take i++[kws.getD i []]:=by
    rw[List.take_succ_eq_append_getElem hlt,Gd,Gc hlt]; rfl
   refine ⟨by omega,?_⟩
   simp +contextual only[go_sem,hn]
   have hkl:kws.length=24:=rfl
   refine ⟨Ji,i+1,by omega,by omega,?_,?_⟩
   ·rw[hs]; simp[kwm]
   ·simp[forget]
  ·have:i=kws.length:=by omega
   subst this
   rw[Gz]
def sgnF (r:List UInt8):List (List UInt8)→List UInt8→List UInt8
 |[],b=>b
 |s::l,b=>sgnF r l (if r.take s.length=s∧b.length < s.length then s else b)
def sgnL (r:List UInt8):List UInt8:=sgnF r sgs []
def cut (l:List UInt8) (a b:Nat):List UInt8:=(l.take b).drop a
def tkL (l:List UInt8) (a:Nat):Nat×List UInt8×Bool:=
 if isLt (l.getD a 0)=true then
  (if kws.contains (cut l a (Qy Ku l a))=true then (1,cut l a (Qy Ku l a),true) else (2,cut l a (Qy Ku l a),decide ((cut l a (Qy Ku l a)).length≤12)))
 else if QT (l.getD a 0)=true then (3,cut l a (Qy QT l a),Jba (cut l a (Qy QT l a)))
 else (4,sgnL (l.drop a),!(sgnL (l.drop a) == []))
def lxz (k:Nat) (x:List UInt8) (a:Int):List CV:=[.int .u8 k,S x,.int .i64 a]
def tkV (a:Nat) (t:Nat×List UInt8×Bool):CV:=.tup [.agg (lxz t.1 t.2.1 a),.bool t.2.2]
theorem Jan {l:List UInt8}{a b:Nat}(h1:a≤b) (h2:b≤l.length):(cut l a b).length=b-a:=by simp[cut]; omega
theorem Ja3 {q:UInt8→Bool}{l:List UInt8}{a:Nat}(h:a < l.length) (hq:q (l.getD a 0)=true):a < Qy q l a:=by
 rw[Jc4 h hq]
 unfold Qy; omega
theorem run_all {q:UInt8→Bool}{l:List UInt8}{a:Nat}(ha:a≤l.length):(cut l a (Qy q l a)).all q=true:=by
 have e:cut l a (Qy q l a)=(l.drop a).takeWhile q:=by
  unfold cut Qy
  rw[List.drop_take,Nat.add_sub_cancel_left]
  exact (Gv.1 (Gw q)).symm
 rw[e]; exact Gy
theorem sgnF_len {r:List UInt8}:∀ (L:List (List UInt8)) (b:List UInt8),b.length≤2→(∀ s∈L,s.length≤2)→(sgnF r L b).length≤2
 |[],b,h,_=>h
 |s::L,b,h,hL=>by
  simp only[sgnF]
  refine sgnF_len L _ ?_ (fun x hx=>hL x (by simp[hx]))
  split
  ·exact hL s (by simp)
  ·exact h
theorem sgs_len:∀ s∈sgs,s.length≤2:=by decide +kernel
theorem tokenL (l:List UInt8) (a:Nat) (ha:a < l.length) (hl:l.length≤1000000):Fn Ga 105 [S l,.int .i64 (a:Int)] (tkV a (tkL l a)):=by
 refine Ja c105_ok rfl rfl fun N=>?_
 simp +contextual only[c105,go_sem]
 refine ⟨by omega,?_⟩
 refine JV (JdV _) ?_
 by_cases h1:isLt (l.getD a 0)=true
 ·have hE:=X6 (q:=Ku) (Gf ha)
  have hge:a≤Qy Ku l a:=by unfold Qy; omega
  simp +contextual only[go_sem,h1]
  refine Jg (id:=1) (z:=1) (els:=[[.fn 120 [] []],[.fn 122 [] []]]) rfl rfl ?_
  simp only[go_sem,J2,Ko,frz,KG]
  have hqs:∀ p∈[qLt,qDg],Jgx p:=by
   intro p hp
   rcases Gn.1 hp with rfl | hp
   ·exact qLt_ok
   ·rw[Gx.1 hp]; exact qDg_ok
  have hrun:=lexRun l a [qLt,qDg] none hqs (by simp) hl (Gf ha)
  rw[any_ld,show fnz [qLt,qDg]=[[.fn 120 [] []],[.fn 122 [] []]] from rfl]at hrun
  refine JV hrun ?_
  simp +contextual only[go_sem]
  refine ⟨by omega,?_⟩
  have hcut:(l.take (Qy Ku l a)).drop a=cut l a (Qy Ku l a):=rfl
  simp only[hcut]
  have hT:tkL l a=if kws.contains (cut l a (Qy Ku l a))=true then (1,cut l a (Qy Ku l a),true) else (2,cut l a (Qy Ku l a),decide ((cut l a (Qy Ku l a)).length≤12)):=by
   unfold tkL; rw[if_pos h1]
  rw[hT]
  generalize cut l a (Qy Ku l a)=x
  obtain ⟨r,hr,hrb⟩:∃ r,XJ .str (S x) (kwm kws) 0=some r∧(match r with | some (_,v)=>v | none=>CV.bool false)=.bool (kws.contains x):=by
   by_cases hm:x∈kws
   ·obtain ⟨j,hj⟩:=kw_old hm 0
    exact ⟨_,hj,by simp[hm]⟩
   ·exact ⟨_,kw_new hm 0,by simp[hm]⟩
  refine Yu [(.on [0],.on [0,3]),Foot.no,(.on [1],.on []),Foot.any] JA (by decide +kernel) ?_
  refine ⟨_,_,hs_new (mk:=.map) rfl (fun H2=>keywords),?_⟩
  refine ⟨_,_,X9 rfl rfl trivial,?_⟩
  refine ⟨_,_,hs_ld (id:=0) (i:=0) (off:=1) rfl rfl (by simp[Cond.holds]),?_⟩
  refine ⟨.bool (kws.contains x),[CObj.arr 3 [[.int .u8 0,S x,.int .i64 a]],.dead,.map (kwm kws)],hs_any (c:=.tt) (.inl rfl) ?_ trivial,?_⟩
  ·simp only[go_sem,hr]
   cases r with
   |none=>simp only at hrb ⊢; rw[hrb]
   |some p=>simp only at hrb ⊢; rw[hrb]
  ·simp only[vdf,put_some]
   cases hk:kws.contains x with
   |true=>simp +contextual only[go_sem,tkV,lxz]; rfl
   |false=>
    have e12:decide ((x.length:Int)≤12)=decide (x.length≤12):=decide_eq_decide.2 (by omega)
    simp +contextual only[go_sem,tkV,lxz,e12]; rfl
 ·by_cases h2:QT (l.getD a 0)=true
  ·have h1':isLt (l.getD a 0)=false:=by simpa using h1
   have hE:=X6 (q:=QT) (Gf ha)
   have hge:=Ja3 (q:=QT) ha h2
   have hall:=run_all (q:=QT) (Gf ha)
   have hcl:=Jan (Gf hge) hE
   have hT:tkL l a=(3,cut l a (Qy QT l a),Jba (cut l a (Qy QT l a))):=by
    unfold tkL; rw[if_neg h1,if_pos h2]
   rw[hT]
   simp +contextual only[go_sem,h1']
   refine ⟨by omega,?_⟩
   refine JV (Jcv _) ?_
   simp +contextual only[go_sem,h2]
   have hqs:∀ p∈[qDg],Jgx p:=by
    intro p hp
    rw[Gx.1 hp]; exact qDg_ok
   have hrun:=lexRun l a [qDg] none hqs (by simp) hl (Gf ha)
   rw[any_d,show fnz [qDg]=[[.fn 122 [] []]] from rfl]at hrun
   refine XA [false,false,false,false,false,false,false,false,true,false,true] JA (by decide +kernel) ?_
   simp +contextual only[go_sem]
   refine vh_row [[.fn 122 [] []]] rfl rfl rfl rfl ?_
   simp +contextual only[go_sem]
   refine vh_f hrun ?_
   simp +contextual only[go_sem]
   refine vh_all (S (cut l a (Qy QT l a))) (fun H2=>by simp only[go_sem]; rfl) (by simp only[Cond.holds]; exact ⟨by omega,by omega,by show ((Qy QT l a:Nat):Int)≤((l.length:Nat):Int); omega⟩) ?_
   simp +contextual only[go_sem]
   generalize hx:cut l a (Qy QT l a)=x at hall hcl ⊢
   have hnum:=isNumberL x hall (by intro e; rw[e]at hcl; simp at hcl; omega) (by omega)
   refine Yu [(.on [1],.on []),Foot.no,(.on [1],.on []),Foot.no,Foot.any,Foot.no] JA (by decide +kernel) ?_
   refine ⟨_,_,hs_ld (id:=0) (i:=0) (off:=0) rfl rfl ⟨Gg 1,Gg 3⟩,_,_,hs_all (fun _=>rfl) trivial,_,_,hs_ld (id:=0) (i:=0) (off:=1) rfl rfl ⟨Gg 1,(by decide:2≤3)⟩,_,_,hs_f (.inl rfl) hnum,_,_,hs_any (.inl rfl) rfl ⟨Gg 1,Gg 3⟩,_,_,hs_all (fun _=>rfl) trivial,?_⟩
   simp +contextual only[vdf,go_sem,tkV,lxz,splice]
   rfl
  ·have h1':isLt (l.getD a 0)=false:=by simpa using h1
   have h2':QT (l.getD a 0)=false:=by simpa using h2
   have hT:tkL l a=(4,sgnL (l.drop a),!(sgnL (l.drop a) == [])):=by
    unfold tkL; rw[if_neg h1,if_neg h2]
   rw[hT]
   simp +contextual only[go_sem,h1']
   refine ⟨by omega,?_⟩
   refine JV (Jcv _) ?_
   simp +contextual only[go_sem,h2']
   refine JV apiSigns ?_
   simp +contextual only[go_sem,YZ]
   have hsl:sgs.length=26:=rfl
   refine Jz (σ:=Nat×List UInt8) (I:=fun s=>s.1≤sgs.length∧sgnL (l.drop a)=sgnF (l.drop a) (sgs.drop s.1) s.2) (inv:=fun s=>gp [(0,S l),(0,.int .i64 (a:Int)),(2,.ptr 0 0 0),(49,.rslc 1 (sz sgs) none),(0,.int .i64 sgs.length),(0,.int .i64 s.1)] 23) (hp:=fun s=>[.arr 3 [lxz 4 s.2 a]]) (μ:=fun s=>sgs.length-s.1) (0,[]) ⟨by omega,rfl⟩ ?_ rfl ?_
   ·simp[forget,gp]
   ·rintro ⟨i,b⟩ ⟨hi,hinv⟩
    simp only at hi hinv
    simp +contextual only[go_sem,YZ,lxz]
    refine ⟨fun h=>?_,fun h=>?_⟩
    ·have hlt:i < sgs.length:=by omega
     rw[sz_get hlt]
     rw[Gi hlt,sgnF]at hinv
     rw[show sgs.getD i []=sgs[i] by rw[Gd,Gc hlt]; rfl]
     generalize sgs[i]=s at hinv ⊢
     refine ⟨by omega,?_⟩
     simp +contextual only[go_sem]
     refine ⟨by omega,?_⟩
     have hs2:(l.take l.length).drop a=l.drop a:=by rw[Gz]
     simp only[hs2]
     refine JV (hasPrefix (l.drop a) s) ?_
     simp +contextual only[go_sem]
     by_cases hp:(l.drop a).take s.length=s
     ·have e1:((l.drop a).take s.length == s)=true:=beq_iff_eq.2 hp
      by_cases hb:b.length < s.length
      ·have d1:((b.length:Int) < (s.length:Int))=True:=Jn
       rw[if_pos ⟨hp,hb⟩]at hinv
       simp +contextual only[go_sem,e1,d1,splice]
       refine ⟨Ji,(i+1,s),⟨by simp only; omega,hinv⟩,by simp only; omega,rfl,?_⟩
       simp[forget]
      ·have d1:((b.length:Int) < (s.length:Int))=False:=Jj
       rw[if_neg (fun h=>hb h.2)]at hinv
       simp +contextual only[go_sem,e1,d1]
       refine ⟨Ji,(i+1,b),⟨by simp only; omega,hinv⟩,by simp only; omega,rfl,?_⟩
       simp[forget]
     ·have e1:((l.drop a).take s.length == s)=false:=beq_eq_false_iff_ne.2 hp
      rw[if_neg (fun h=>hp h.1)]at hinv
      simp +contextual only[go_sem,e1]
      refine ⟨Ji,(i+1,b),⟨by simp only; omega,hinv⟩,by simp only; omega,rfl,?_⟩
      simp[forget]
    ·have:i=sgs.length:=by omega
     subst this
     rw[List.drop_length]at hinv
     rw[hinv]
     simp +contextual only[go_sem,tkV,lxz,splice,sgnF]
def knd (l:List UInt8):Option Nat:=
 if l=[] then none else if isGp (l.getD 0 0)=true then none
 else if (tkL l 0).2.2=true∧(tkL l 0).2.1=l then some (tkL l 0).1 else none
def kndV:Option Nat→CV
 |some k=>.tup [.int .u8 k,.int .i64 0]
 |none=>.tup [.int .u8 0,.int .i64 4]
theorem lexKind (l:List UInt8) (hl:l.length≤1000000):Fn Ga 73 [S l] (kndV (knd l)):=by
 refine Ja c73_ok rfl (by unfold kndV; split <;> rfl) fun N=>?_
 by_cases h0:l=[]
 ·have e0:(l == [])=true:=beq_iff_eq.2 h0
  have hk:knd l=none:=by unfold knd; rw[if_pos h0]
  rw[hk]
  simp +contextual only[c73,go_sem,e0,kndV]
 ·have e0:(l == [])=false:=beq_eq_false_iff_ne.2 h0
  have hpos:0 < l.length:=List.length_pos_iff.2 h0
  simp +contextual only[c73,go_sem,e0]
  refine ⟨by omega,?_⟩
  refine JN (gok rfl) (lexIsGap _) ?_
  cases h1:isGp (l.getD 0 0) with
  |true=>
   have hk:knd l=none:=by unfold knd; rw[if_neg h0,if_pos h1]
   rw[hk]
   simp +contextual only[go_sem,kndV]
  |false=>
   simp +contextual only[go_sem]
   refine JV (tokenL l 0 hpos hl) ?_
   unfold tkV
   have hk:knd l=if (tkL l 0).2.2=true∧(tkL l 0).2.1=l then some (tkL l 0).1 else none:=by
    unfold knd; rw[if_neg h0,if_neg (by rw[h1]; simp)]
   rw[hk]
   obtain ⟨k,x,b⟩:=tkL l 0
   simp +contextual only[go_sem,lxz,splice]
   cases b with
   |false=>
    simp +contextual only[go_sem]
    simp[kndV]
   |true=>
    by_cases hx:x=l
    ·have ex:(x == l)=true:=beq_iff_eq.2 hx
     simp +contextual only[go_sem,ex]
     simp[kndV,hx]
    ·have ex:(x == l)=false:=beq_eq_false_iff_ne.2 hx
     simp +contextual only[go_sem,ex]
     simp[kndV,hx]
def Y3 (l:List UInt8):Bool:=isLt (l.getD 0 0) && l.all Ku && !kws.contains l && decide (l.length≤12) && !(l == [])
theorem JbE {q:UInt8→Bool}{l:List UInt8}:cut l 0 (Qy q l 0)=l↔l.all q=true:=by
 have e:cut l 0 (Qy q l 0)=l.takeWhile q:=by
  unfold cut Qy
  simp only[List.drop_zero,Nat.zero_add]
  exact (Gv.1 (Gw q)).symm
 rw[e]
 constructor
 ·intro h; rw[← h]; exact Gy
 ·intro h
  have:∀ l:List UInt8,l.all q=true→l.takeWhile q=l:=by
   intro l
   induction l with
   |nil=>intro _; rfl
   |cons a l ih=>
    intro h
    simp only[List.all_cons,Gs]at h
    rw[Gl,if_pos h.1,ih h.2]
  exact this l h
theorem lt_gp {c:UInt8}(h:isLt c=true):isGp c=false:=by
 simp only[isLt,Gs,decide_eq_true_eq]at h
 simp only[isGp,isBk,Gr,beq_eq_false_iff_ne]
 refine ⟨⟨?_,?_⟩,?_⟩ <;> (rintro rfl; revert h; decide)
theorem Jgo (l:List UInt8):(knd l == some 2)=Y3 l:=by
 rw[Gh,beq_iff_eq]
 unfold knd Y3
 by_cases h0:l=[]
 ·simp[h0]
 rw[if_neg h0]
 by_cases h1:isLt (l.getD 0 0)=true
 ·have hg:=lt_gp h1
  rw[if_neg (by rw[hg]; simp)]
  have hT:tkL l 0=if kws.contains (cut l 0 (Qy Ku l 0))=true then (1,cut l 0 (Qy Ku l 0),true) else (2,cut l 0 (Qy Ku l 0),decide ((cut l 0 (Qy Ku l 0)).length≤12)):=by
   unfold tkL; rw[if_pos h1]
  by_cases hf:cut l 0 (Qy Ku l 0)=l
  ·rw[hf]at hT
   have ha:=JbE.1 hf
   rw[hT,h1]
   cases hk:kws.contains l <;> simp[h0,ha]
  ·have ha:l.all Ku=false:=by
    cases h:l.all Ku with
    |false=>rfl
    |true=>exact absurd (JbE.2 h) hf
   rw[hT]
   cases hk:kws.contains (cut l 0 (Qy Ku l 0)) <;> simp[hf,ha]
 ·have h1':isLt (l.getD 0 0)=false:=by simpa using h1
  rw[h1']
  simp only[Gt,Bool.false_eq_true,iff_false]
  split
  ·simp
  ·split
   ·unfold tkL
    rw[if_neg h1]
    split <;> simp
   ·simp
theorem isNameW (l:List UInt8) (hl:l.length≤1000000):Fn Ga 216 [S l] (.bool (Y3 l)):=by
 refine Ja c216_ok rfl rfl fun N=>?_
 simp +contextual only[c216,go_sem]
 refine JV (lexKind l hl) ?_
 rw[← Jgo]
 cases h:knd l with
 |none=>simp +contextual only[go_sem,kndV]; rfl
 |some k=>
  simp +contextual only[go_sem,kndV]
  congr 1
  rw[Gh]
  simp
  omega
theorem within (a b n:Int):Fn Ga 193 [.int .i64 a,.int .i64 b,.int .i64 n] (.bool (inI a b n)):=by
 refine Ja c193_ok rfl rfl fun N=>?_
 simp +contextual only[c193,go_sem,inI]
def cntdV (k:Nat):CV:=if k=40 then .tup [S [83],.bool true] else if k=41 then .tup [S [98],.bool true] else if k=28 then .tup [S [73],.bool true] else if k=65 then .tup [S [80],.bool true] else .tup [S [],.bool false]
theorem counted (k:Nat):Fn Ga 217 [.int .u8 k] (cntdV k):=by
 unfold cntdV
 split
 ·subst_vars
  refine Ja c217_ok rfl rfl fun N=>?_
  simp +contextual only[c217,go_sem,Gb]
 ·rename_i h40
  have e40:=kb (m:=40) h40
  simp only[Gb]at e40
  split
  ·subst_vars
   refine Ja c217_ok rfl rfl fun N=>?_
   simp +contextual only[c217,go_sem,Gb]
  ·rename_i h41
   have e41:=kb (m:=41) h41
   simp only[Gb]at e41
   split
   ·subst_vars
    refine Ja c217_ok rfl rfl fun N=>?_
    simp +contextual only[c217,go_sem,Gb]
   ·rename_i h28
    have e28:=kb (m:=28) h28
    simp only[Gb]at e28
    split
    ·subst_vars
     refine Ja c217_ok rfl rfl fun N=>?_
     simp +contextual only[c217,go_sem,Gb]
    ·rename_i h65
     have e65:=kb (m:=65) h65
     simp only[Gb]at e65
     refine Ja c217_ok rfl rfl fun N=>?_
     simp +contextual only[c217,go_sem,e40,e41,e28,e65]
theorem many1 (c:UInt8) (hv:List UInt8) (hl:hv.length≤1000):Fn Ga 213 [S [c],.rptr [S hv]] (S (Gm (KE c hv) c)):=by
 refine Ja c213_ok rfl rfl fun N=>?_
 simp +contextual only[c213,go_sem]
 refine JV (countL hv c) ?_
 simp +contextual only[go_sem]
 refine JV (repeatL c (KE c hv) (by have:=cntB_le c hv; omega)) ?_
 simp +contextual only[go_sem]
theorem many2 (c:UInt8) (a b:Int) (hv:List UInt8):Fn Ga 218 [S [c],.int .i64 a,.int .i64 b,.rptr [S hv]] (.bool (inI a b (KE c hv))):=by
 refine Ja c218_ok rfl rfl fun N=>?_
 simp +contextual only[c218,go_sem]
 refine JV (countL hv c) ?_
 simp +contextual only[go_sem]
 refine JV (within _ _ _) ?_
 simp +contextual only[go_sem]
end Go.Cm
end
section
open Go.Shelf Go.RowKit Go.Proofs
namespace Go.Cm
theorem letter_lt (k:Nat):letter k < 256:=by
 unfold letter
 repeat' split
 all_goals omega
def tbS:BT YE:=.node 191 (.code c191.body c191.ntmps c191.results) .nil .nil
theorem tbS_ok:tbS.All (JfL Ga):=⟨JD (Js JC c191_ok) c191_ok,trivial,trivial⟩
theorem sort_all:allB (fun k=>JeK (yfn tbS 1000 191 [.int .u8 (Int.ofNat k)]) (.int .u8 (Int.ofNat (letter k)))) 256=true:=by kernel_rfl
theorem fnSort (k:Nat) (hk:k < 256):Fn Ga 191 [.int .u8 k] (.int .u8 (letter k)):=
 Qb tbS_ok JA (Xk (allB_get sort_all k hk)) rfl rfl
theorem calls_of_fn {P:Program}{f:Nat}{args:List CV}{v:CV}(h:Fn P f args v) (hv:v.closed=true) {w:World}{imm:Nat→Nat→Option Value}(himm:∀ B i x,imm B i=some x→w.cell? ⟨B,i,none⟩=some x) (hone:∀ B i x,imm B i=some x→x.oneCell'=true) {vs:Array Value}(hvs:JE [] imm args vs.toList) (hgl:GLw w) :
  Calls P f vs w fun e w'=>(∃ r imm',J5 imm imm'∧rel [] imm' v r∧e=.returned r)∧Below w.heap.size w w':=by
 have hs:Sim Env.none { own:=[],imm:=imm,ext:=fun _=>False } [] w:=⟨rfl,by simp,himm,hone,by simp,by simp,by simp,by simp,fun B h=>hgl.lt (h.resolve_left id),hgl,by simp⟩
 refine ((h Env.none [] _ w vs hs hvs).calls fun k=>JdF none k).mono ?_
 rintro e w' ⟨r,m',v',H',rfl,hext,hs',hrel,rfl,rfl⟩
 have hno:∀ B,¬ owned { own:=[],imm:=imm,ext:=fun _=>False } [] B:=by
  rintro B (h | ⟨k,o,x,hk,_⟩)
  ·exact h
  ·simp at hk
 exact ⟨⟨r,m'.imm,hext.imm,QQ _ _ hv hrel,rfl⟩,hext.same.1,hext.same.2.2,hext.same.2.1,hext.size,fun k hk=>hext.frame k hk (hno k)⟩
end Go.Cm
namespace Go.Proofs
def Tryz.bRen:Go.Shelf.Ren:=⟨fun n=>if n=167 then 211 else Tryz.lays105_ren.f n,Tryz.lays105_ren.t,Tryz.lays105_ren.g⟩
theorem Tryz.bLays167:Lays.n167 Ga Tryz.bRen:={ Tryz.lays105 with f167:=Tryz.func211.trans (congrArg some (by kernel_rfl)) }
theorem Tryz.bLays169:Lays.n169 Ga Tryz.bRen:={ Tryz.lays105 with }
theorem Tryz.bExtra:Builder.Extra Ga Tryz.bRen:={
 sizeBuilder:=by kernel_rfl
 liesBuilder:=by kernel_rfl
 t5:=Tryz.underlying5
 a5:=Tryz.isAgg5
 z5:=Tryz.sizeOf5
 v5:=Tryz.zeroValue5
 infoByte:=by kernel_rfl
 cellsByte:=by kernel_rfl
 sizeByte:=by kernel_rfl
 neB5:=by decide }
theorem Tryz.WriteByte (B b:Nat) (bs:List Value) (c:Int) (w:World) (h:Lib.IsBuilder 207 5 B b bs w) (hlen:bs.length+1≤140737488355328) (hBw:B≤w.heap.size) :
  Calls Ga 211 #[.pointer (some ⟨b,0,none⟩),.int .u8 c] w fun e w'=>e=.returned .nilIface∧(Lib.BuilderAt 207 5 B b (.pointer (some ⟨b,0,none⟩)) (bs++[.int .u8 c]) w'∧Below B w w'):=
 Any.Builder_WriteByte Tryz.bLays167 Tryz.bExtra B b bs c w h hlen hBw
theorem Tryz.BString (B b:Nat) (l:List UInt8) (w:World) (h:Lib.IsBuilder 207 5 B b (Lib.byteCells l) w) (hBw:B≤w.heap.size) :
  Calls Ga 212 #[.pointer (some ⟨b,0,none⟩)] w fun e w'=>e=.returned (.string ⟨l.toArray⟩)∧Below B w w':=
 Any.Builder_String_any Tryz.bLays169 Tryz.bExtra B b l w h hBw
theorem Tryz.bat_below {T e:TypeId}{B b:Nat}{p:Value}{bs:List Value}{W W':World}(h:Lib.BuilderAt T e B b p bs W) (hb:Below W.heap.size W W'):Lib.BuilderAt T e B b p bs W':=by
 obtain ⟨hB,v,hv,hown,hne⟩:=h
 have hlt:b < W.heap.size:=(Array.getElem?_eq_some_iff.1 hv).1
 exact ⟨hB,v,(hb.block b hlt).trans hv,hown.kept (row:=none) ⟨hb.os,hb.tape,hb.output,hb.size,fun k hk _=>hb.block k hk⟩ (Classical.em _),hne⟩
theorem Tryz.isb_below {T e:TypeId}{B b:Nat}{bs:List Value}{W W':World}(h:Lib.IsBuilder T e B b bs W) (hb:Below W.heap.size W W'):Lib.IsBuilder T e B b bs W':=
 h.elim (fun x=>.inl (Tryz.bat_below x hb)) (fun x=>.inr (Tryz.bat_below x hb))
theorem Tryz.cell_lt {w:World}{a:Addr}{v:Value}(h:w.cell? a=some v):a.block < w.heap.size:=by
 rcases Nat.lt_or_ge a.block w.heap.size with h' | h'
 ·exact h'
 ·rw[World.cell?,Array.getElem?_eq_none h']at h
  simp at h
def Tryz.letters (ds:List Nat):List UInt8:=ds.map fun d=>UInt8.ofNat (Go.Cm.letter d)
theorem Tryz.letters_take (ds:List Nat) (j d:Nat) (h:ds[j]? = some d):Tryz.letters (ds.take (j+1))=Tryz.letters (ds.take j)++[UInt8.ofNat (Go.Cm.letter d)]:=by
 rw[List.take_add_one,h]
 simp[Tryz.letters]
open Go.Cm in
set_option maxHeartbeats 4000000 in
set_option maxRecDepth 100000 in
theorem Tryz.sorts_walk (np kp:Option Addr) (nl nc kl kc:Nat) (items n0 n1 n2 n4:Value) (ds:List Nat) (w:World) (hgw:GLw w) (hdl:ds.length=kl) (hkd:∀ k∈ds,k < 256)
  (hbig:kl < 140737488355328)
  (hks:∀ j d,ds[j]? = some d→∃ bn no bk ko k,np=some ⟨bn,no,none⟩∧kp=some ⟨bk,ko,none⟩∧k < nl∧w.cell? ⟨bk,ko+j,none⟩=some (.int .i64 (k:Nat))∧w.cell? ⟨bn,no+k*5,none⟩=some (.int .u8 (d:Nat))) :
  Calls Ga 190 #[.agg #[.slice np nl nc,items],.agg #[n0,n1,n2,.slice kp kl kc,n4]] w fun e w'=>e=.returned (.string ⟨(Tryz.letters ds).toArray⟩)∧Below w.heap.size w w':=by
 have HK:Hid (∀ j d,ds[j]? = some d→∃ bn no bk ko k,np=some ⟨bn,no,none⟩∧kp=some ⟨bk,ko,none⟩∧k < nl∧w.cell? ⟨bk,ko+j,none⟩=some (.int .i64 (k:Nat))∧w.cell? ⟨bn,no+k*5,none⟩=some (.int .u8 (d:Nat))):=hks
 have HD:Hid (∀ k∈ds,k < 256):=hkd
 clear hks hkd
 go_enter Tryz.func190,Tryz.ntmps190
 go_wp2
 go_loopw [11] (fun v wr=>∃ j:Nat,j≤kl∧v=.int .i64 j∧Lib.IsBuilder 207 5 (w.heap.size+2) (w.heap.size+2) (Lib.byteCells (Tryz.letters (ds.take j))) wr∧wr.cell? ⟨w.heap.size,0,none⟩=some (.slice np nl nc)∧Below w.heap.size w wr∧w.heap.size+2≤wr.heap.size) (fun i _=>kl-(intOf i).toNat)
 case atStart=>
  refine ⟨0,Nat.zero_le _,rfl,?_,?_,?_,?_⟩
  ·simpa [Tryz.letters,Lib.byteCells]using Lib.fresh_isBuilder 207 5 ((w.alloc (.cells #[.slice np nl nc,items] 25)).alloc (.cells #[n0,n1,n2,.slice kp kl kc,n4] 49))
  ·simp[go_sem]
  ·exact (((Below.refl _ w).alloc (Gg _) _).alloc (by simp) _).alloc (by simp; omega) _
  ·simp
 case round=>
  obtain ⟨j,hj,rfl,hI,hT,hbw,hsz⟩:=hrel
  have HI:Hid (Lib.IsBuilder 207 5 (w.heap.size+2) (w.heap.size+2) (Lib.byteCells (Tryz.letters (ds.take j))) wr):=hI
  clear hI
  by_cases hlt:j < kl
  ·obtain ⟨d,hd⟩:∃ d,ds[j]? = some d:=⟨ds[j],Gc (by omega)⟩
   have hd256:=HD.out d (Gj hd)
   obtain ⟨bn,no,bk,ko,k,rfl,rfl,hk,h1,h2⟩:=HK.out j d hd
   have h1':wr.cell? ⟨bk,ko+j,none⟩=some (.int .i64 (k:Nat)):=(hbw.cell (Tryz.cell_lt h1)).trans h1
   have h2':wr.cell? ⟨bn,no+k*5,none⟩=some (.int .u8 (d:Nat)):=(hbw.cell (Tryz.cell_lt h2)).trans h2
   clear h1 h2
   have HD2:Hid (ds[j]? = some d):=hd
   clear hd
   go_wp2_with (go_at_call 191; refine (calls_of_fn (imm:=fun _ _=>none) (fnSort d hd256) rfl (by simp) (by simp) (by simp[JE,rel]) (Tryz.GLw_below hgw hbw)).mono ?_)
   rintro e W1 ⟨⟨r,imm',_,hr,rfl⟩,b1⟩
   simp[rel]at hr
   subst hr
   have HI1:=HI.out
   have b2:=hbw.trans (b1.mono hbw.size)
   have HB:Hid (Lib.IsBuilder 207 5 (w.heap.size+2) (w.heap.size+2) (Lib.byteCells (Tryz.letters (ds.take j))) W1):=Tryz.isb_below HI1 b1
   have hT1:W1.cell? ⟨w.heap.size,0,none⟩=some (.slice (some ⟨bn,no,none⟩) nl nc):=(b1.cell (by simp; omega)).trans hT
   have hlen:(Lib.byteCells (Tryz.letters (ds.take j))).length+1≤140737488355328:=by rw[Lib.byteCells_length]; simp[Tryz.letters]; omega
   have hsz1:=GA hsz b1.size
   clear HI1
   go_wp2_with (go_at_call 211; refine (Tryz.WriteByte _ _ _ _ _ HB.out hlen hsz1).mono ?_)
   rintro e W2 ⟨rfl,hB2,b3⟩
   have hT2:W2.cell? ⟨w.heap.size,0,none⟩=some (.slice (some ⟨bn,no,none⟩) nl nc):=(b3.cell (by simp)).trans hT1
   have HB2:Hid (Lib.IsBuilder 207 5 (w.heap.size+2) (w.heap.size+2) (Lib.byteCells (Tryz.letters (ds.take j))++[Value.int IntKind.u8 (letter d:Nat)]) W2):=Or.inr hB2
   have b4:=b2.trans (b3.mono (by omega))
   have hsz2:=GA hsz1 b3.size
   clear hB2 b1 b2 b3
   go_wp2
   go_roundw
   case rel=>
    refine ⟨j+1,by omega,by go_num,?_,hT2,b4,hsz2⟩
    rw[Tryz.letters_take ds j d HD2.out,Lib.byteCells_append]
    have:=HB2.out
    have hl:letter d % 256=letter d:=Nat.mod_eq_of_lt (letter_lt d)
    simpa [Lib.byteCells,hl]using this
   case measure=>
    simp[intOf]; omega
  ·have hjl:j=kl:=by omega
   subst hjl
   rw[List.take_of_length_le (by omega)]at HI
   go_wp2_with (go_at_call 212; refine (Tryz.BString _ _ _ _ HI.out hsz).mono ?_)
   rintro e W1 ⟨rfl,b1⟩
   go_wp2
   go_ret
   exact ⟨rfl,hbw.trans (b1.mono (by omega))⟩
end Go.Proofs
namespace Go.Cm
theorem sortsL (t:Tr) (x:Nd) (hx:x.Fit) (hn:∀ y∈t.nodes,y.k < 256) (hk:∀ k∈x.kids,0≤k∧k < t.nodes.length):Fn Ga 190 [.agg [.rslc 5 (ndz t.nodes) none,.rslc 1 (iz t.items) none],.agg x.cv] (S (lets t.nodes x)):=by
 intro E H
 refine Kc fun m w vs hs hv=>?_
 simp only[JE,rel,Nd.cv]at hv
 obtain ⟨_,_,e0,⟨t1,rfl,r1,_,e1,hnn,r2,_,rfl,hit,rfl⟩,_,_,rfl,⟨t2,rfl,s0,_,e2,hs0,s1,_,rfl,hs1,s2,_,rfl,hs2,s3,_,rfl,hkk,s4,_,rfl,hs4,rfl⟩,rfl⟩:=hv
 have ht1:t1=#[r1,r2]:=by cases t1; simp_all
 have ht2:t2=#[s0,s1,s2,s3,s4]:=by cases t2; simp_all
 have hvs:vs=#[.agg t1,.agg t2]:=by cases vs; simp_all
 subst ht1 ht2 hvs
 have hnode:∃ np nl nc,r1=.slice np nl nc∧∀ (k:Nat),k < t.nodes.length→k < nl∧∃ B o,np=some ⟨B,o,none⟩∧w.cell? ⟨B,o+k*5,none⟩=some (.int .u8 (Jt t.nodes k:Nat)):=by
  rcases hnn with ⟨_,h0,b,rfl⟩ | ⟨B,o,c,rfl,_,_,hels⟩
  ·refine ⟨b,0,0,rfl,fun k hk=>?_⟩
   have:=congrArg Gq h0
   rw[Jc]at this
   simp at this
   rw[this]at hk; simp at hk
  ·refine ⟨_,_,_,rfl,fun k hk=>⟨by rw[Jc]; exact hk,B,o,rfl,?_⟩⟩
   have hg:(ndz t.nodes)[k]? = some (t.nodes.getD k default).cv:=by
    simp[ndz,Gd,Gc hk]
   have h1:=((KC _ o).1 hels k _ hg).2
   obtain ⟨r,hr,hr2⟩:=h1 0 _ rfl
   simp only[rel]at hr2
   subst hr2
   exact hs.imm _ _ _ hr
 obtain ⟨np,nl,nc,rfl,hN⟩:=hnode
 have hkid:∃ kp kc,s3=.slice kp x.kids.length kc∧∀ (j:Nat) k,x.kids[j]? = some k→∃ B o,kp=some ⟨B,o,none⟩∧w.cell? ⟨B,o+j,none⟩=some (.int .i64 k):=by
  rcases hkk with ⟨_,he,b,rfl⟩ | ⟨B,o,c,rfl,_,_,hels'⟩
  ·have hks:x.kids=[]:=by
    have:=congrArg Gq he
    rw[Jf]at this
    simpa using this
   exact ⟨b,0,by rw[hks]; rfl,fun j k hj=>by simp[hks]at hj⟩
  ·refine ⟨_,c,by rw[Jf],fun j k hj=>⟨B,o,rfl,?_⟩⟩
   have hj2:(iz x.kids)[j]? = some [CV.int .i64 k]:=by simp[iz,hj]
   have h1:=((KC _ o).1 hels' j _ hj2).2
   obtain ⟨r,hr,hr2⟩:=h1 0 _ rfl
   simp only[rel]at hr2
   subst hr2
   have:=hs.imm _ _ _ hr
   simpa using this
 obtain ⟨kp,kc,rfl,hK⟩:=hkid
 have hkn:=hx.kidn
 refine ⟨_,Tryz.sorts_walk np kp nl nc x.kids.length kc r2 s0 s1 s2 s4 (x.kids.map (Jt t.nodes)) w hs.gl.1 (by simp) (fun d hd=>?_) (by omega) (fun j d hj=>?_),?_⟩
 ·obtain ⟨k,hk1,rfl⟩:=List.mem_map.1 hd
  have:=hk k hk1
  refine hn _ ?_
  have hlt:k.toNat < t.nodes.length:=by omega
  rw[Gd,Gc hlt]
  exact List.getElem_mem hlt
 ·rw[List.getElem?_map]at hj
  cases hkj:x.kids[j]? with
  |none=>rw[hkj]at hj; cases hj
  |some k=>
   rw[hkj]at hj
   simp only[Option.map_some,Option.some.injEq]at hj
   subst hj
   have hr:=hk k (Gj hkj)
   obtain ⟨h3,B,o,h4,h5⟩:=hN k.toNat (by omega)
   obtain ⟨B',o',h6,h7⟩:=hK j k hkj
   refine ⟨B,o,B',o',k.toNat,h4,h6,h3,?_,?_⟩
   ·rw[h7,show ((k.toNat:Nat):Int)=k by omega]
   ·rw[h5]
    simp only[Jt,Int.toNat_natCast]
 ·simp only[rel,lets,Tryz.letters,JeJ,List.map_map]
  rfl
end Go.Cm
end
end
