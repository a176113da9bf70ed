/-
  A part of the proof. Conditions: none.
-/
import Derived.Test.YtebakpoggommpaaGreatDoorQA6
import Derived.Test.YtebakpoggommpaaGreatDoorQI1
import Derived.Test.YtebakpoggommpaaGreatDoorQS1
import Derived.BigCall
import Derived.Shelf.Strings.Builder1
set_option linter.unusedSimpArgs false
set_option linter.unusedVariables false
open Go.Proofs.Tryz renaming prog→Ga
open Bool renaming eq_iff_iff→Gi,and_eq_true→Gs,eq_false_or_eq_true→GQ,or_eq_false_iff→GR,false_and→GU
open Int renaming cast_ofNat_Int→Gd
open List renaming getD_eq_getElem?_getD→Gb,getElem?_eq_getElem→Gc,getElem?_eq_some_iff→Gh,take_succ_eq_append_getElem→Gp,length_nil→Gf,length_cons→Gg,drop_eq_getElem_cons→Gt,take_length→Gm,take_of_length_le→Gu,getElem?_drop→Gq,map_cons→Gj,getElem?_map→Gr,mem_of_getElem?→Gv,getElem?_take→Gw,take_append_drop→Gz,getElem_mem→Gx,length_take→GA,takeWhile_cons→GH,length→Gy,map_nil→GD,foldl_cons→GI,replicate→GJ,prefix_iff_eq_take→GV,mem_cons→GK,takeWhile_prefix→GX,map_map→GL,getElem?_of_mem→GY,mem_singleton→GZ,all_takeWhile→G5,take_add_one→G6,foldl_append→G7,any_eq_true→G8,all_eq_true→G9,any_cons→Ha
open Option renaming bind_some→GM,getD_some→Hd,map_some→He
open Nat renaming le_refl→Gl,le_of_lt→Gn,zero_add→GG,le_add_right→GN,min_eq_left→Hf,le_trans→Hg
noncomputable section
section
open Go.Proofs
namespace Go.Cm
section
theorem nm {f:Nat}:(Ga.funcs[f]?.map (·.name))≠some "runtime.NumGoroutine" :=JaZ Je0 f
def isLt (c:UInt8):Bool:=decide (97≤c.toNat) && decide (c.toNat≤122)
def isBk (c:UInt8):Bool:=c == 32 || c == 10
def isGp (c:UInt8):Bool:=isBk c || c == 126
theorem dle (a:Nat) (c:UInt8):decide ((a:Int)≤(c.toNat:Int))=decide (a≤c.toNat):=decide_eq_decide.2 (by omega)
theorem dge (a:Nat) (c:UInt8):decide ((c.toNat:Int)≤(a:Int))=decide (c.toNat≤a):=decide_eq_decide.2 (by omega)
theorem deq (a:Nat) (ha:a < 256) (c:UInt8):((c.toNat:Int) == (a:Int))=(c == UInt8.ofNat a):=by
 rw[Gi]
 simp only[beq_iff_eq]
 constructor
 ·intro h
  apply UInt8.toNat_inj.1
  simp
  omega
 ·intro h
  rw[h]
  simp
  omega
theorem JdK (c:UInt8):Fn Ga 145 [.int .u8 c.toNat] (.bool (isLt c)):=by
 refine Jb c145_ok rfl rfl fun N=>?_
 have h1:=dle 97 c
 have h2:=dge 122 c
 simp only[Gd]at h1 h2
 simp +contextual only[c145,go_sem,h1,h2,isLt]
theorem Jcx (c:UInt8):Fn Ga 147 [.int .u8 c.toNat] (.bool (QZ c)):=by
 refine Jb c147_ok rfl rfl fun N=>?_
 have h1:=dle 48 c
 have h2:=dge 57 c
 simp only[Gd]at h1 h2
 simp +contextual only[c147,go_sem,h1,h2,QZ]
theorem lexIsBlank (c:UInt8):Fn Ga 144 [.int .u8 c.toNat] (.bool (isBk c)):=by
 refine Jb c144_ok rfl rfl fun N=>?_
 have h1:=deq 32 (by decide) c
 have h2:=deq 10 (by decide) c
 simp only[Gd]at h1 h2
 simp +contextual only[c144,go_sem,h1,h2]
 show ((c == 32)=false→CV.bool (c == 10)=CV.bool ((c == 32) || (c == 10)))∧((c == 32)=true→CV.bool true=CV.bool ((c == 32) || (c == 10)))
 cases (c == 32) <;> simp
theorem lexIsGap (c:UInt8):Fn Ga 112 [.int .u8 c.toNat] (.bool (isGp c)):=by
 refine Jb c112_ok rfl rfl fun N=>?_
 have h1:=deq 126 (by decide) c
 simp only[Gd]at h1
 simp +contextual only[c112,go_sem]
 refine JR (lexIsBlank c) ?_
 simp +contextual only[go_sem,h1]
 cases h:isBk c with
 |true=>simp[isGp,h]
 |false=>simp[isGp,h]
def Q8 {α:Type}(q:α→Bool):List α→Nat→Int
 |[],_=>-1
 |p::l,i=>if q p then i else Q8 q l (i+1)
theorem QS {α:Type}{q:α→Bool}{l:List α}{i:Nat}{p:α}(h:l[i]? = some p):Q8 q (l.drop i) i=if q p then (i:Int) else Q8 q (l.drop (i+1)) (i+1):=by
 have hlt:=(Gh.1 h).1
 have hp:=(Gh.1 h).2
 rw[Gt hlt,hp]; rfl
theorem fixA_neg {α:Type}{q:α→Bool}:∀ (l:List α) (i:Nat),Q8 q l i < 0↔l.any q=false
 |[],_=>by simp[Q8]
 |p::l,i=>by
  have:=fixA_neg (q:=q) l (i+1)
  simp only[Q8,Ha,GR]
  by_cases h:q p=true
  ·simp only[h,if_true,Bool.true_eq_false,false_and,iff_false]; omega
  ·have h':q p=false:=by simpa using h
   rw[if_neg h,this]; simp[h']
theorem Ja5 {α:Type}{q:α→Bool}(l:List α):decide (0≤Q8 q l 0)=l.any q:=by
 have h:=fixA_neg (q:=q) l 0
 cases h2:l.any q with
 |true=>
  rw[decide_eq_true_eq]
  rw[h2]at h
  simp at h
  exact h
 |false=>
  rw[decide_eq_false_iff_not]
  have:=h.2 h2
  omega
structure FnQ where
 f:Nat
 q:UInt8→Bool
def Jgi (p:FnQ):Prop:=(∃ F,Jg Ga p.f=some F)∧∀ c:UInt8,Fn Ga p.f [.int .u8 c.toNat] (.bool (p.q c))
def qLt:FnQ:=⟨145,isLt⟩
def qDg:FnQ:=⟨147,QZ⟩
theorem qLt_ok:Jgi qLt:=⟨⟨_,c145_ok⟩,JdK⟩
theorem qDg_ok:Jgi qDg:=⟨⟨_,c147_ok⟩,Jcx⟩
def fnz (l:List FnQ):List (List CV):=l.map fun p=>[.fn p.f [] []]
theorem fnz_len {l:List FnQ}:(fnz l).length=l.length:=by simp[fnz]
theorem fnz_get {l:List FnQ}{i:Nat}{p:FnQ}(h:l[i]? = some p):(fnz l).getD i []=[.fn p.f [] []]:=by
 simp[fnz,Gb,h]
section
variable {E:Env}{H:List CObj}{id:Nat}{l:List UInt8}{at_:Nat}
theorem run1 (hH:H[id]? = some (.arr 1 [[.int .i64 (at_:Int)]])) (hlt:at_ < l.length) (p:FnQ) (hp:Jgi p):Pure Ga E 170 [.fn p.f [] [],.rptr [S l],.ptr id 0 0] H (.bool (p.q (l.getD at_ 0))):=by
 obtain ⟨⟨F,hF⟩,hq⟩:=hp
 refine J7 c170_ok fun N=>?_
 simp +contextual only[c170,go_sem,hH]
 refine ⟨⟨by omega,by omega⟩,?_⟩
 refine vr_fv (.inl rfl) rfl hF nm (hq _) ?_
 simp +contextual only[go_sem]
theorem Jdg {P:Program}{n0:Nat}{N:Fr}{Q:Exit→List CV→List CObj→Prop}{T:List CV}{k:List KItem}{d:Option Nat}{g:Option (Nat×Bool)}{x:IArg}{f:Nat}{l1 l2:List CV}{xs:List IArg}{l:List IOper}{v:CV}{F:IFunc}(hg:GOk T g) (hx:Kc T x=.fn f l1 l2) (hF:Jg P f=some F) (hnm:(P.funcs[f]?.map (·.name))≠some "runtime.NumGoroutine")
  (hcall:Pure P E f (l1++xs.map (Kc T)++l2) H v) (h:Kn P E n0 N Q (.ops l::k) (put T d v) H):Ok P E n0 N Q (.ops (⟨d,.callv x xs,g⟩::l)::k) T H:=by
 have hfn:∃ fn,P.funcs[f]? = some fn∧fn.body.isSome=true:=by
  unfold Jg at hF
  split at hF
  ·rename_i fn hfn
   split at hF
   ·rename_i c hb
    exact ⟨fn,hfn,by rw[hb]; rfl⟩
   ·cases hF
  ·cases hF
 obtain ⟨fn,hfn,hbd⟩:=hfn
 exact ok_callv hg hx hfn hbd (fun e=>hnm (by rw[hfn,← e]; rfl)) hcall fun v' H' ⟨h1,h2⟩=>by rw[h1,h2]; exact JB _ _ _ h
theorem indexF (hH:H[id]? = some (.arr 1 [[.int .i64 (at_:Int)]])) (hlt:at_ < l.length) (fs:List FnQ) (cap:Option Nat) (hfs:∀ p∈fs,Jgi p) (hl:fs.length≤1000) :
  Pure Ga E 206 [.rslc 1 (fnz fs) cap,.fn 170 [] [.rptr [S l],.ptr id 0 0]] H (.int .i64 (Q8 (fun p=>p.q (l.getD at_ 0)) fs 0)):=by
 generalize hQ:(fun p:FnQ=>p.q (l.getD at_ 0))=q
 refine J7 c206_ok fun N=>?_
 simp +contextual only[c206,go_sem,fnz_len]
 refine JC (I:=fun i:Nat=>i≤fs.length∧Q8 q fs 0=Q8 q (fs.drop i) i) (inv:=fun i=>gp [(0,.rslc 1 (fnz fs) cap),(0,.fn 170 [] [.rptr [S l],.ptr id 0 0]),(5,.int .i64 fs.length),(0,.int .i64 i)] 10) (hp:=fun _=>H) (μ:=fun i=>fs.length-i) 0 ?_ ?_ rfl ?_
 ·simp
 ·simp[forget,gp]
 ·rintro i ⟨hi,hinv⟩
  simp +contextual only[go_sem,fnz_len]
  refine ⟨fun h=>?_,fun h=>?_⟩
  ·have hlt2:i < fs.length:=by omega
   obtain ⟨p,hp⟩:∃ p,fs[i]? = some p:=⟨_,Gc hlt2⟩
   rw[QS hp]at hinv
   rw[fnz_get hp]
   refine ⟨by omega,?_⟩
   simp +contextual only[go_sem]
   refine Jdg (.inl rfl) rfl c170_ok nm (run1 hH hlt p (hfs p (Gv hp))) ?_
   have hqp:p.q (l.getD at_ 0)=q p:=by rw[← hQ]
   rw[hqp]
   simp only[go_sem]
   refine ⟨fun h2=>?_,fun h2=>?_⟩
   ·rw[hinv,if_pos h2]
   ·rw[h2]at hinv
    refine ⟨Jj,i+1,⟨by omega,by simpa using hinv⟩,by omega,?_⟩
    simp[forget]
  ·have:i=fs.length:=by omega
   subst this
   rw[hinv]; simp[Q8]
theorem containsF (hH:H[id]? = some (.arr 1 [[.int .i64 (at_:Int)]])) (hlt:at_ < l.length) (fs:List FnQ) (cap:Option Nat) (hfs:∀ p∈fs,Jgi p) (hl:fs.length≤1000) :
  Pure Ga E 190 [.rslc 1 (fnz fs) cap,.fn 170 [] [.rptr [S l],.ptr id 0 0]] H (.bool (fs.any fun p=>p.q (l.getD at_ 0))):=by
 refine J7 c190_ok fun N=>?_
 simp +contextual only[c190,go_sem]
 refine Jag (indexF hH hlt fs cap hfs hl) ?_
 simp +contextual only[go_sem,Ja5]
theorem noneF (hH:H[id]? = some (.arr 1 [[.int .i64 (at_:Int)]])) (hlt:at_ < l.length) (fs:List FnQ) (cap:Option Nat) (hfs:∀ p∈fs,Jgi p) (hl:fs.length≤1000) :
  Pure Ga E 169 [.rslc 1 (fnz fs) cap,.fn 170 [] [.rptr [S l],.ptr id 0 0]] H (.bool (!fs.any fun p=>p.q (l.getD at_ 0))):=by
 refine J7 c169_ok fun N=>?_
 simp +contextual only[c169,go_sem]
 refine Jag (containsF hH hlt fs cap hfs hl) ?_
 simp +contextual only[go_sem]
end
def QP (q:UInt8→Bool) (l:List UInt8) (a:Nat):Nat:=a+((l.drop a).takeWhile q).length
theorem Yr {q:UInt8→Bool}{l:List UInt8}{a:Nat}(h:a≤l.length):QP q l a≤l.length:=by
 unfold QP
 have:=(List.takeWhile_sublist (l:=l.drop a) q).length_le
 simp at this
 omega
theorem runE_end {q:UInt8→Bool}{l:List UInt8}{a:Nat}(h:l.length≤a):QP q l a=a:=by
 unfold QP; rw[List.drop_eq_nil_of_le h]; rfl
theorem Jc1 {q:UInt8→Bool}{l:List UInt8}{a:Nat}(h:a < l.length) (hq:q (l.getD a 0)=true):QP q l a=QP q l (a+1):=by
 unfold QP
 rw[Gb,Gc h]at hq
 simp only[Hd]at hq
 rw[Gt h,GH,if_pos hq]
 simp; omega
theorem Jdp {q:UInt8→Bool}{l:List UInt8}{a:Nat}(h:a < l.length) (hq:q (l.getD a 0)=false):QP q l a=a:=by
 unfold QP
 rw[Gb,Gc h]at hq
 simp only[Hd]at hq
 rw[Gt h,GH,hq]
 simp
theorem lexRun (l:List UInt8) (a:Nat) (fs:List FnQ) (cap:Option Nat) (hfs:∀ p∈fs,Jgi p) (hl:fs.length≤1000) (hll:l.length≤1000000) (ha:a≤l.length) :
  Fn Ga 146 [S l,.int .i64 (a:Int),.rslc 1 (fnz fs) cap] (.int .i64 (QP (fun c=>fs.any fun p=>p.q c) l a:Nat)):=by
 generalize hQ:(fun c=>fs.any fun p:FnQ=>p.q c)=q
 refine Jb c146_ok rfl rfl fun N=>?_
 simp +contextual only[c146,go_sem]
 refine Je (id:=0) (z:=1) (els:=[[S l]]) rfl rfl ?_
 simp only[go_sem,JS,Ki,frz,KP]
 refine JC (I:=fun i:Nat=>i≤l.length∧QP q l a=QP q l i) (inv:=fun i=>gp [(2,.rslc 1 (fnz fs) cap),(0,.rptr [S l]),(0,.ptr 1 0 0)] 15) (hp:=fun i=>[.dead,.arr 1 [[.int .i64 (i:Int)]]]) (μ:=fun i=>l.length-i) a ⟨ha,rfl⟩ ?_ rfl ?_
 ·simp[forget,gp]
 ·rintro i ⟨hi,hinv⟩
  simp +contextual only[go_sem]
  by_cases hlt:i < l.length
  ·have d1:((i:Int) < (l.length:Int))=True:=Jo
   simp +contextual only[go_sem,d1]
   refine vr_pureg (gok rfl) (noneF (id:=1) (l:=l) (at_:=i) rfl hlt fs cap hfs hl) ?_
   have hq:(fs.any fun p=>p.q (l.getD i 0))=q (l.getD i 0):=by rw[← hQ]
   rw[hq]
   cases hqi:q (l.getD i 0) with
   |true=>
    simp +contextual only[go_sem]
    refine ⟨Jj,i+1,⟨by omega,by rw[hinv,Jc1 hlt hqi]⟩,by omega,by simp,?_⟩
    simp[forget]
   |false=>
    simp +contextual only[go_sem]
    rw[hinv,Jdp hlt hqi]
  ·have d1:((i:Int) < (l.length:Int))=False:=Jn
   simp +contextual only[go_sem,d1]
   rw[hinv,runE_end (by omega)]
end
end Go.Cm
end
section
open Go.Proofs Go.RowKit
namespace Go.Cm
theorem repL_eq (c:UInt8):∀ n,Lib.repeatL [c] n=GJ n c
 |0=>rfl
 |n+1=>by
  have:=repL_eq c n
  simp[Lib.repeatL,List.replicate_succ]at this ⊢
  first | exact this | (rw[this])
theorem cntL_eq (c:UInt8) (l:List UInt8):Lib.countByte l c=K9 c l:=rfl
theorem cntB_le (c:UInt8) (l:List UInt8):K9 c l≤l.length:=List.count_le_length
theorem repeatL (c:UInt8) (n:Nat) (hn:n≤1000000):Fn Ga 200 [S [c],.int .i64 n] (S (GJ n c)):=by
 intro E H
 refine KG fun m w vs hs hv=>?_
 simp only[JM,rel]at hv
 obtain ⟨r,rs,e,rfl,r2,rs2,rfl,rfl,rfl⟩:=hv
 have hvs:vs=#[.string ⟨⟨[c]⟩⟩,.int .i64 n]:=by cases vs; simp_all
 subst hvs
 refine ⟨_,Tryz.strings_Repeat ⟨⟨[c]⟩⟩ n w (by omega) ?_,?_⟩
 ·simp[S_size]; omega
 ·rw[repL_eq]; rfl
theorem countL (l:List UInt8) (c:UInt8):Fn Ga 201 [S l,S [c]] (.int .i64 (K9 c l)):=by
 intro E H
 refine KG fun m w vs hs hv=>?_
 simp only[JM,rel]at hv
 obtain ⟨r,rs,e,rfl,r2,rs2,rfl,rfl,rfl⟩:=hv
 have hvs:vs=#[.string ⟨⟨l⟩⟩,.string ⟨#[c]⟩]:=by cases vs; simp_all
 subst hvs
 refine ⟨_,(Tryz.strings_Count_one ⟨⟨l⟩⟩ c w).mono fun e w' ⟨h1,h2⟩=>⟨h1,by rw[h2]; exact Below.refl _ _⟩,?_⟩
 rw[cntL_eq]; rfl
end Go.Cm
end
section
open Go.Shelf Go.RowKit Go.Proofs
namespace Go.Proofs
theorem Tryz.tab_of {w:World}(h:Go.Cm.GLw w):Lib.TabIs Ga w "internal/strconv.uint64pow10" .u64 Lib.pow10Tab:=by
 obtain ⟨_,⟨e,q,h1⟩,_⟩:=h
 have hg:Ga.globalNamed "internal/strconv.uint64pow10" = some Go.Cm.gTab:=by kernel_rfl
 simp only[show Go.Cm.gTab < Go.Cm.gN by decide,if_true]at h1
 simp only[Lib.TabIs,World.var?,hg,GM,h1]
theorem Tryz.err_of {w:World}(h:Go.Cm.GLw w) {B:Nat}(hB:B∈Go.Cm.gErr):∃ te pe,w.cell? ⟨B,0,none⟩=some (.iface te pe):=by
 obtain ⟨te,pe,e,q,h1⟩:=h.2.2 B hB
 have hlt:B < Go.Cm.gN:=by
  have:∀ x∈Go.Cm.gErr,x < Go.Cm.gN:=by decide
  exact this B hB
 simp only[if_pos hlt]at h1
 exact ⟨te,pe,by simp[World.cell?,h1]⟩
theorem Tryz.GLw_below {w w':World}(h:Go.Cm.GLw w) (hb:Below w.heap.size w w'):Go.Cm.GLw w':=h.mono fun B hB=>hb.block B (h.lt hB)
open Go.Cm in
set_option maxHeartbeats 4000000 in
set_option maxRecDepth 100000 in
theorem Tryz.isNumber_walk (l:List UInt8) (hd:l.all QZ=true) (hne:l≠[]) (hl:l.length≤1000000) (w:World) (hg:GLw w) :
  Calls Ga 149 #[.string ⟨⟨l⟩⟩] w fun e w'=>e=.returned (.bool (Jbv l))∧Below w.heap.size w w':=by
 have hat:=atoi_digits l hd hne
 have hdb:=digits_back _ l rfl hd hne
 by_cases hr:Jb7 l < 9223372036854775808
 ·rw[if_pos hr]at hat
  have hok:Jbv l=(decide (Jb7 l≤1000000000) && (Lib.decDigits (Jb7 l) == l)):=by
   unfold Jbv
   congr 1
   rw[Gi]
   simp only[decide_eq_true_eq,beq_iff_eq]
   exact hdb.symm
  rw[hok]
  generalize Jb7 l=v at hat hr
  have grow_below:∀ (w:World) (k:Nat) (os:Array Obj),Below w.heap.size w (Go.Sort.grow (w.drewN k) os):=fun w k os=>
   ⟨rfl,rfl,rfl,by simp[Go.Sort.grow,World.drewN],fun i hi=>by
    simp only[Go.Sort.grow,World.drewN]
    rw[Array.getElem?_append_left hi]⟩
  by_cases hv:v≤1000000000
  ·rw[decide_eq_true hv,Bool.true_and]
   have d2:((v:Int)≤1000000000):=by omega
   go_enter Tryz.func149,Tryz.ntmps149
   go_wp2_with (go_at_call 171; refine (Tryz.strconv_Atoi_ok ⟨⟨l⟩⟩ (by simp[ByteArray.size]; omega) v hat _).mono ?_; rintro e W1 ⟨rfl,hW⟩)
   have hb1:Below w.heap.size w W1:=by
    rcases hW with rfl | ⟨t,rfl⟩
    ·exact Below.refl _ _
    ·exact Lib.bytesWorld_below _ _ _
   have hg1:=Tryz.GLw_below hg hb1
   clear hW
   go_wp2_with (go_at_call 172; refine (Tryz.strconv_Itoa (v:Int) (by omega) (by omega) _ (Tryz.tab_of hg1)).mono ?_; rintro e W2 ⟨rfl,k,os,rfl⟩)
   rw[Lib.itoa_nonneg]
   have hb2:=grow_below W1 k os
   generalize Go.Sort.grow (W1.drewN k) os=W2 at hb2 ⊢
   go_wp2
   go_ret
   refine ⟨?_,hb1.trans (hb2.mono hb1.size)⟩
   congr 2
  ·rw[decide_eq_false hv,GU]
   have d2:¬ ((v:Int)≤1000000000):=by omega
   go_enter Tryz.func149,Tryz.ntmps149
   go_wp2_with (go_at_call 171; refine (Tryz.strconv_Atoi_ok ⟨⟨l⟩⟩ (by simp[ByteArray.size]; omega) v hat _).mono ?_; rintro e W1 ⟨rfl,hW⟩)
   have hb1:Below w.heap.size w W1:=by
    rcases hW with rfl | ⟨t,rfl⟩
    ·exact Below.refl _ _
    ·exact Lib.bytesWorld_below _ _ _
   clear hW
   go_wp2
   go_ret
   exact ⟨rfl,hb1⟩
 ·rw[if_neg hr]at hat
  have hok:Jbv l=false:=by
   unfold Jbv
   rw[decide_eq_false (by omega)]; rfl
  rw[hok]
  obtain ⟨te,pe,hev⟩:=Tryz.err_of hg (B:=1) (by decide)
  go_enter Tryz.func149,Tryz.ntmps149
  go_wp2_with (go_at_call 171; refine (Tryz.strconv_Atoi_range ⟨⟨l⟩⟩ (by simp[ByteArray.size]; omega) hat _ _ hev (.inr ⟨te,pe,rfl⟩)).mono ?_; rintro e W1 ⟨N,rfl,hN1,hN2,hb1⟩)
  go_wp2
  go_ret
  exact ⟨rfl,hb1⟩
end Go.Proofs
namespace Go.Cm
theorem isNumberL (l:List UInt8) (hd:l.all QZ=true) (hne:l≠[]) (hl:l.length≤1000000):Fn Ga 149 [S l] (.bool (Jbv l)):=by
 intro E H
 refine KG fun m w vs hs hv=>?_
 simp only[JM,rel]at hv
 obtain ⟨r,rs,e,rfl,rfl⟩:=hv
 have hvs:vs=#[.string ⟨⟨l⟩⟩]:=by cases vs; simp_all
 subst hvs
 exact ⟨_,Tryz.isNumber_walk l hd hne hl w hs.gl.1,rfl⟩
end Go.Cm
end
section
set_option maxRecDepth 100000
set_option maxHeartbeats 20000000
open Go.Proofs
namespace Go.Cm
def KS (c:UInt8):Bool:=isLt c || QZ c
theorem any_ld:(fun c:UInt8=>[qLt,qDg].any fun p=>p.q c)=KS:=by funext c; simp[qLt,qDg,KS]
theorem any_d:(fun c:UInt8=>[qDg].any fun p=>p.q c)=QZ:=by funext c; simp[qDg]
def kws:List (List UInt8):=[[97,110,100],[97,114,114,97,121],[98,111,111,108],[98,121],[100,101,102],[100,111],[101,108,115,101],[101,109,112,116,121],[102,97,108,115,101],[103,105,118,101],[104,101,97,100],[105,102],[105,110],[105,110,116],[108,111,111,112],[110,101,120,116],[110,105,108],[110,111,116],[111,114],[115,105,122,101],[115,116,114,101,97,109],[116,97,105,108],[116,114,117,101],[119,104,105,108,101]]
def sgs:List (List UInt8):=[[58,58],[58,61],[45,62],[46,46],[61,61],[33,61],[60,61],[62,61],[60],[62],[61],[43],[45],[42],[47],[37],[35],[40],[41],[91],[93],[123],[125],[44],[59],[58]]
def sz (l:List (List UInt8)):List (List CV):=l.map fun s=>[S s]
theorem Y7 {l:List (List UInt8)}:(sz l).length=l.length:=by simp[sz]
theorem sz_get {l:List (List UInt8)}{i:Nat}(h:i < l.length):(sz l).getD i []=[S (l.getD i [])]:=by
 simp[sz,Gb,Gc h]
theorem Jem:Fn Ga 119 [] (.rslc 1 (sz kws) none):=by
 refine Jfj (J7 c119_ok fun N=>?_) rfl
 simp -implicitDefEqProofs only[c119,go_sem]
 exact ⟨_,_,_,_,_,rfl,rfl,by decide,rfl,by decide +kernel⟩
theorem apiSigns:Fn Ga 150 [] (.rslc 1 (sz sgs) none):=by
 refine Jfj (J7 c150_ok fun N=>?_) rfl
 simp -implicitDefEqProofs only[c150,go_sem]
 exact ⟨_,_,_,_,_,rfl,rfl,by decide,rfl,by decide +kernel⟩
theorem hasPrefix0 (l p:List UInt8):Fn Ga 173 [S l,S p] (.bool (l.take p.length == p)):=by
 refine Jb c173_ok rfl rfl fun N=>?_
 simp +contextual only[c173,go_sem]
 refine ⟨fun h=>by omega,fun h=>?_⟩
 congr 1
 symm
 rw[beq_eq_false_iff_ne]
 intro e
 have:=congrArg Gy e
 simp at this
 omega
theorem hasPrefix (l p:List UInt8):Fn Ga 151 [S l,S p] (.bool (l.take p.length == p)):=by
 refine Jb c151_ok rfl rfl fun N=>?_
 simp +contextual only[c151,go_sem]
 refine JR (hasPrefix0 _ _) ?_
 simp +contextual only[go_sem]
theorem S_beq (l m:List UInt8):((⟨⟨l⟩⟩:ByteArray) == ⟨⟨m⟩⟩)=(l == m):=by
 rw[beq_toListBytes]; simp
def kwm (l:List (List UInt8)):List (CV×CV):=l.map fun s=>(S s,.bool true)
theorem kw_new {l:List (List UInt8)}{s:List UInt8}(h:s∉l):∀ i,Xo .str (S s) (kwm l) i=some none:=by
 induction l with
 |nil=>intro i; rfl
 |cons a l ih=>
  intro i
  simp only[GK,not_or]at h
  have e:X6 .str (S s) (S a)=some false:=by
   simp only[X6,S_beq]
   congr 1
   rw[beq_eq_false_iff_ne]
   exact h.1
  simp only[kwm,Gj,Xo,e]
  exact ih h.2 (i+1)
theorem kw_old {l : List (List UInt8)} {s : List UInt8} (h : s ∈ l) : ∀ i, ∃ j, Xo .str (S s) (kwm l) i = some (some (j, .bool true)) := by
  induction l with
  | nil => cases h
  | cons a l ih =>
    intro i
    by_cases ha : s = a
    · subst ha
      have e : X6 .str (S s) (S s) = some true := by simp [X6, S_beq]
      exact ⟨i, by simp only [kwm, Gj, Xo, e]⟩
    · have hm : s ∈ l := by rcases GK.1 h with h | h; · exact absurd h ha
                            · exact h
      have e : X6 .str (S s) (S a) = some false := by
        simp only [X6, S_beq]
        congr 1
        rw [beq_eq_false_iff_ne]
        exact ha
      obtain ⟨j, hj⟩ := ih hm (i + 1)
      exact ⟨j, by simp only [kwm, Gj, Xo, e]; exact hj⟩
theorem kw_take_all:∀ i:Fin 24,kws.getD i []∉kws.take i:=by decide +kernel
theorem kw_take {i:Nat}(h:i < kws.length):kws.getD i []∉kws.take i:=kw_take_all ⟨i,h⟩
theorem keywords {E:Env}{H:List CObj}:CallsC Ga E 148 [] H fun v H'=>v=.map H.length∧H'=H++[.map (kwm kws)]:=by
 refine J7 c148_ok fun N=>?_
 simp +contextual only[c148,go_sem]
 refine JR Jem ?_
 simp +contextual only[go_sem,Y7]
 refine JC (I:=fun i:Nat=>i≤kws.length) (inv:=fun i=>gp [(1,.map H.length),(3,.rslc 1 (sz kws) none),(0,.int .i64 kws.length),(0,.int .i64 i)] 7) (hp:=fun i=>H++[.map (kwm (kws.take i))]) (μ:=fun i=>kws.length-i) 0 (by omega) ?_ rfl ?_
 ·simp[forget,gp]
 ·intro i hi
  simp +contextual only[go_sem,Y7]
  refine ⟨fun h=>?_,fun h=>?_⟩
  ·have hlt:i < kws.length:=by omega
   rw[sz_get hlt]
   have hn:=kw_new (kw_take hlt) 0
   have hs:kws.take (i+1)=kws.take i++[kws.getD i []]:=by
    rw[Gp hlt,Gb,Gc hlt]; rfl
   refine ⟨by omega,?_⟩
   simp +contextual only[go_sem,hn]
   have hkl:kws.length=24:=rfl
   refine ⟨Jj,i+1,by omega,by omega,?_,?_⟩
   ·rw[hs]; simp[kwm]
   ·simp[forget]
  ·have:i=kws.length:=by omega
   subst this
   rw[Gm]
def sgnF (r:List UInt8):List (List UInt8)→List UInt8→List UInt8
 |[],b=>b
 |s::l,b=>sgnF r l (if r.take s.length=s∧b.length < s.length then s else b)
def sgnL (r:List UInt8):List UInt8:=sgnF r sgs []
def cut (l:List UInt8) (a b:Nat):List UInt8:=(l.take b).drop a
def tkL (l:List UInt8) (a:Nat):Nat×List UInt8×Bool:=
 if isLt (l.getD a 0)=true then
  (if kws.contains (cut l a (QP KS l a))=true then (1,cut l a (QP KS l a),true) else (2,cut l a (QP KS l a),decide ((cut l a (QP KS l a)).length≤12)))
 else if QZ (l.getD a 0)=true then (3,cut l a (QP QZ l a),Jbv (cut l a (QP QZ l a)))
 else (4,sgnL (l.drop a),!(sgnL (l.drop a) == []))
def lxz (k:Nat) (x:List UInt8) (a:Int):List CV:=[.int .u8 k,S x,.int .i64 a]
def tkV (a:Nat) (t:Nat×List UInt8×Bool):CV:=.tup [.agg (lxz t.1 t.2.1 a),.bool t.2.2]
theorem JaH {l:List UInt8}{a b:Nat}(h1:a≤b) (h2:b≤l.length):(cut l a b).length=b-a:=by simp[cut]; omega
theorem Jbq {q:UInt8→Bool}{l:List UInt8}{a:Nat}(h:a < l.length) (hq:q (l.getD a 0)=true):a < QP q l a:=by
 rw[Jc1 h hq]
 unfold QP; omega
theorem run_all {q:UInt8→Bool}{l:List UInt8}{a:Nat}(ha:a≤l.length):(cut l a (QP q l a)).all q=true:=by
 have e:cut l a (QP q l a)=(l.drop a).takeWhile q:=by
  unfold cut QP
  rw[List.drop_take,Nat.add_sub_cancel_left]
  exact (GV.1 (GX q)).symm
 rw[e]; exact G5
theorem sgnF_len {r:List UInt8}:∀ (L:List (List UInt8)) (b:List UInt8),b.length≤2→(∀ s∈L,s.length≤2)→(sgnF r L b).length≤2
 |[],b,h,_=>h
 |s::L,b,h,hL=>by
  simp only[sgnF]
  refine sgnF_len L _ ?_ (fun x hx=>hL x (by simp[hx]))
  split
  ·exact hL s (by simp)
  ·exact h
theorem sgs_len:∀ s∈sgs,s.length≤2:=by decide +kernel
theorem tokenL (l:List UInt8) (a:Nat) (ha:a < l.length) (hl:l.length≤1000000):Fn Ga 113 [S l,.int .i64 (a:Int)] (tkV a (tkL l a)):=by
 refine Jb c113_ok rfl rfl fun N=>?_
 simp +contextual only[c113,go_sem]
 refine ⟨by omega,?_⟩
 refine JR (JdK _) ?_
 by_cases h1:isLt (l.getD a 0)=true
 ·have hE:=Yr (q:=KS) (Gn ha)
  have hge:a≤QP KS l a:=by unfold QP; omega
  simp +contextual only[go_sem,h1]
  refine Je (id:=1) (z:=1) (els:=[[.fn 145 [] []],[.fn 147 [] []]]) rfl rfl ?_
  simp only[go_sem,JS,Ki,frz,KP]
  have hqs:∀ p∈[qLt,qDg],Jgi p:=by
   intro p hp
   rcases GK.1 hp with rfl | hp
   ·exact qLt_ok
   ·rw[GZ.1 hp]; exact qDg_ok
  have hrun:=lexRun l a [qLt,qDg] none hqs (by simp) hl (Gn ha)
  rw[any_ld,show fnz [qLt,qDg]=[[.fn 145 [] []],[.fn 147 [] []]] from rfl]at hrun
  refine JR hrun ?_
  simp +contextual only[go_sem]
  refine ⟨by omega,?_⟩
  have hcut:(l.take (QP KS l a)).drop a=cut l a (QP KS l a):=rfl
  simp only[hcut]
  have hT:tkL l a=if kws.contains (cut l a (QP KS l a))=true then (1,cut l a (QP KS l a),true) else (2,cut l a (QP KS l a),decide ((cut l a (QP KS l a)).length≤12)):=by
   unfold tkL; rw[if_pos h1]
  rw[hT]
  generalize cut l a (QP KS l a)=x
  obtain ⟨r,hr,hrb⟩:∃ r,Xo .str (S x) (kwm kws) 0=some r∧(match r with | some (_,v)=>v | none=>CV.bool false)=.bool (kws.contains x):=by
   by_cases hm:x∈kws
   ·obtain ⟨j,hj⟩:=kw_old hm 0
    exact ⟨_,hj,by simp[hm]⟩
   ·exact ⟨_,kw_new hm 0,by simp[hm]⟩
  refine YL [(.on [0],.on [0,3]),Foot.no,(.on [1],.on []),Foot.any] Jz (by decide +kernel) ?_
  refine ⟨_,_,hs_new (mk:=.map) rfl (fun H2=>keywords),?_⟩
  refine ⟨_,_,Yt rfl rfl trivial,?_⟩
  refine ⟨_,_,hs_ld (id:=0) (i:=0) (off:=1) rfl rfl (by simp[Cond.holds]),?_⟩
  refine ⟨.bool (kws.contains x),[CObj.arr 3 [[.int .u8 0,S x,.int .i64 a]],.dead,.map (kwm kws)],hs_any (c:=.tt) (.inl rfl) ?_ trivial,?_⟩
  ·simp only[go_sem,hr]
   cases r with
   |none=>simp only at hrb ⊢; rw[hrb]
   |some p=>simp only at hrb ⊢; rw[hrb]
  ·simp only[vdf,put_some]
   cases hk:kws.contains x with
   |true=>simp +contextual only[go_sem,tkV,lxz]; rfl
   |false=>
    have e12:decide ((x.length:Int)≤12)=decide (x.length≤12):=decide_eq_decide.2 (by omega)
    simp +contextual only[go_sem,tkV,lxz,e12]; rfl
 ·by_cases h2:QZ (l.getD a 0)=true
  ·have h1':isLt (l.getD a 0)=false:=by simpa using h1
   have hE:=Yr (q:=QZ) (Gn ha)
   have hge:=Jbq (q:=QZ) ha h2
   have hall:=run_all (q:=QZ) (Gn ha)
   have hcl:=JaH (Gn hge) hE
   have hT:tkL l a=(3,cut l a (QP QZ l a),Jbv (cut l a (QP QZ l a))):=by
    unfold tkL; rw[if_neg h1,if_pos h2]
   rw[hT]
   simp +contextual only[go_sem,h1']
   refine ⟨by omega,?_⟩
   refine JR (Jcx _) ?_
   simp +contextual only[go_sem,h2]
   have hqs:∀ p∈[qDg],Jgi p:=by
    intro p hp
    rw[GZ.1 hp]; exact qDg_ok
   have hrun:=lexRun l a [qDg] none hqs (by simp) hl (Gn ha)
   rw[any_d,show fnz [qDg]=[[.fn 147 [] []]] from rfl]at hrun
   refine Qt [false,false,false,false,false,false,false,false,true,false,true] Jz (by decide +kernel) ?_
   simp +contextual only[go_sem]
   refine JbJ [[.fn 147 [] []]] rfl rfl rfl rfl ?_
   simp +contextual only[go_sem]
   refine vh_f hrun ?_
   simp +contextual only[go_sem]
   refine vh_all (S (cut l a (QP QZ l a))) (fun H2=>by simp only[go_sem]; rfl) (by simp only[Cond.holds]; exact ⟨by omega,by omega,by show ((QP QZ l a:Nat):Int)≤((l.length:Nat):Int); omega⟩) ?_
   simp +contextual only[go_sem]
   generalize hx:cut l a (QP QZ l a)=x at hall hcl ⊢
   have hnum:=isNumberL x hall (by intro e; rw[e]at hcl; simp at hcl; omega) (by omega)
   refine YL [(.on [1],.on []),Foot.no,(.on [1],.on []),Foot.no,Foot.any,Foot.no] Jz (by decide +kernel) ?_
   refine ⟨_,_,hs_ld (id:=0) (i:=0) (off:=0) rfl rfl ⟨Gl 1,Gl 3⟩,_,_,hs_all (fun _=>rfl) trivial,_,_,hs_ld (id:=0) (i:=0) (off:=1) rfl rfl ⟨Gl 1,(by decide:2≤3)⟩,_,_,hs_f (.inl rfl) hnum,_,_,hs_any (.inl rfl) rfl ⟨Gl 1,Gl 3⟩,_,_,hs_all (fun _=>rfl) trivial,?_⟩
   simp +contextual only[vdf,go_sem,tkV,lxz,splice]
   rfl
  ·have h1':isLt (l.getD a 0)=false:=by simpa using h1
   have h2':QZ (l.getD a 0)=false:=by simpa using h2
   have hT:tkL l a=(4,sgnL (l.drop a),!(sgnL (l.drop a) == [])):=by
    unfold tkL; rw[if_neg h1,if_neg h2]
   rw[hT]
   simp +contextual only[go_sem,h1']
   refine ⟨by omega,?_⟩
   refine JR (Jcx _) ?_
   simp +contextual only[go_sem,h2']
   refine JR apiSigns ?_
   simp +contextual only[go_sem,Y7]
   have hsl:sgs.length=26:=rfl
   refine JC (σ:=Nat×List UInt8) (I:=fun s=>s.1≤sgs.length∧sgnL (l.drop a)=sgnF (l.drop a) (sgs.drop s.1) s.2) (inv:=fun s=>gp [(0,S l),(0,.int .i64 (a:Int)),(2,.ptr 0 0 0),(49,.rslc 1 (sz sgs) none),(0,.int .i64 sgs.length),(0,.int .i64 s.1)] 23) (hp:=fun s=>[.arr 3 [lxz 4 s.2 a]]) (μ:=fun s=>sgs.length-s.1) (0,[]) ⟨by omega,rfl⟩ ?_ rfl ?_
   ·simp[forget,gp]
   ·rintro ⟨i,b⟩ ⟨hi,hinv⟩
    simp only at hi hinv
    simp +contextual only[go_sem,Y7,lxz]
    refine ⟨fun h=>?_,fun h=>?_⟩
    ·have hlt:i < sgs.length:=by omega
     rw[sz_get hlt]
     rw[Gt hlt,sgnF]at hinv
     rw[show sgs.getD i []=sgs[i] by rw[Gb,Gc hlt]; rfl]
     generalize sgs[i]=s at hinv ⊢
     refine ⟨by omega,?_⟩
     simp +contextual only[go_sem]
     refine ⟨by omega,?_⟩
     have hs2:(l.take l.length).drop a=l.drop a:=by rw[Gm]
     simp only[hs2]
     refine JR (hasPrefix (l.drop a) s) ?_
     simp +contextual only[go_sem]
     by_cases hp:(l.drop a).take s.length=s
     ·have e1:((l.drop a).take s.length == s)=true:=beq_iff_eq.2 hp
      by_cases hb:b.length < s.length
      ·have d1:((b.length:Int) < (s.length:Int))=True:=Jo
       rw[if_pos ⟨hp,hb⟩]at hinv
       simp +contextual only[go_sem,e1,d1,splice]
       refine ⟨Jj,(i+1,s),⟨by simp only; omega,hinv⟩,by simp only; omega,rfl,?_⟩
       simp[forget]
      ·have d1:((b.length:Int) < (s.length:Int))=False:=Jn
       rw[if_neg (fun h=>hb h.2)]at hinv
       simp +contextual only[go_sem,e1,d1]
       refine ⟨Jj,(i+1,b),⟨by simp only; omega,hinv⟩,by simp only; omega,rfl,?_⟩
       simp[forget]
     ·have e1:((l.drop a).take s.length == s)=false:=beq_eq_false_iff_ne.2 hp
      rw[if_neg (fun h=>hp h.1)]at hinv
      simp +contextual only[go_sem,e1]
      refine ⟨Jj,(i+1,b),⟨by simp only; omega,hinv⟩,by simp only; omega,rfl,?_⟩
      simp[forget]
    ·have:i=sgs.length:=by omega
     subst this
     rw[List.drop_length]at hinv
     rw[hinv]
     simp +contextual only[go_sem,tkV,lxz,splice,sgnF]
def knd (l:List UInt8):Option Nat:=
 if l=[] then none else if isGp (l.getD 0 0)=true then none
 else if (tkL l 0).2.2=true∧(tkL l 0).2.1=l then some (tkL l 0).1 else none
def kndV:Option Nat→CV
 |some k=>.tup [.int .u8 k,.int .i64 0]
 |none=>.tup [.int .u8 0,.int .i64 4]
theorem lexKind (l:List UInt8) (hl:l.length≤1000000):Fn Ga 70 [S l] (kndV (knd l)):=by
 refine Jb c70_ok rfl (by unfold kndV; split <;> rfl) fun N=>?_
 by_cases h0:l=[]
 ·have e0:(l == [])=true:=beq_iff_eq.2 h0
  have hk:knd l=none:=by unfold knd; rw[if_pos h0]
  rw[hk]
  simp +contextual only[c70,go_sem,e0,kndV]
 ·have e0:(l == [])=false:=beq_eq_false_iff_ne.2 h0
  have hpos:0 < l.length:=List.length_pos_iff.2 h0
  simp +contextual only[c70,go_sem,e0]
  refine ⟨by omega,?_⟩
  refine JV (gok rfl) (lexIsGap _) ?_
  cases h1:isGp (l.getD 0 0) with
  |true=>
   have hk:knd l=none:=by unfold knd; rw[if_neg h0,if_pos h1]
   rw[hk]
   simp +contextual only[go_sem,kndV]
  |false=>
   simp +contextual only[go_sem]
   refine JR (tokenL l 0 hpos hl) ?_
   unfold tkV
   have hk:knd l=if (tkL l 0).2.2=true∧(tkL l 0).2.1=l then some (tkL l 0).1 else none:=by
    unfold knd; rw[if_neg h0,if_neg (by rw[h1]; simp)]
   rw[hk]
   obtain ⟨k,x,b⟩:=tkL l 0
   simp +contextual only[go_sem,lxz,splice]
   cases b with
   |false=>
    simp +contextual only[go_sem]
    simp[kndV]
   |true=>
    by_cases hx:x=l
    ·have ex:(x == l)=true:=beq_iff_eq.2 hx
     simp +contextual only[go_sem,ex]
     simp[kndV,hx]
    ·have ex:(x == l)=false:=beq_eq_false_iff_ne.2 hx
     simp +contextual only[go_sem,ex]
     simp[kndV,hx]
def Jac (l:List UInt8):Bool:=isLt (l.getD 0 0) && l.all KS && !kws.contains l && decide (l.length≤12) && !(l == [])
theorem JbO {q:UInt8→Bool}{l:List UInt8}:cut l 0 (QP q l 0)=l↔l.all q=true:=by
 have e:cut l 0 (QP q l 0)=l.takeWhile q:=by
  unfold cut QP
  simp only[List.drop_zero,GG]
  exact (GV.1 (GX q)).symm
 rw[e]
 constructor
 ·intro h; rw[← h]; exact G5
 ·intro h
  have:∀ l:List UInt8,l.all q=true→l.takeWhile q=l:=by
   intro l
   induction l with
   |nil=>intro _; rfl
   |cons a l ih=>
    intro h
    simp only[List.all_cons,Gs]at h
    rw[GH,if_pos h.1,ih h.2]
  exact this l h
theorem lt_gp {c:UInt8}(h:isLt c=true):isGp c=false:=by
 simp only[isLt,Gs,decide_eq_true_eq]at h
 simp only[isGp,isBk,GR,beq_eq_false_iff_ne]
 refine ⟨⟨?_,?_⟩,?_⟩ <;> (rintro rfl; revert h; decide)
theorem knd_name (l:List UInt8):(knd l == some 2)=Jac l:=by
 rw[Gi,beq_iff_eq]
 unfold knd Jac
 by_cases h0:l=[]
 ·simp[h0]
 rw[if_neg h0]
 by_cases h1:isLt (l.getD 0 0)=true
 ·have hg:=lt_gp h1
  rw[if_neg (by rw[hg]; simp)]
  have hT:tkL l 0=if kws.contains (cut l 0 (QP KS l 0))=true then (1,cut l 0 (QP KS l 0),true) else (2,cut l 0 (QP KS l 0),decide ((cut l 0 (QP KS l 0)).length≤12)):=by
   unfold tkL; rw[if_pos h1]
  by_cases hf:cut l 0 (QP KS l 0)=l
  ·rw[hf]at hT
   have ha:=JbO.1 hf
   rw[hT,h1]
   cases hk:kws.contains l <;> simp[h0,ha]
  ·have ha:l.all KS=false:=by
    cases h:l.all KS with
    |false=>rfl
    |true=>exact absurd (JbO.2 h) hf
   rw[hT]
   cases hk:kws.contains (cut l 0 (QP KS l 0)) <;> simp[hf,ha]
 ·have h1':isLt (l.getD 0 0)=false:=by simpa using h1
  rw[h1']
  simp only[GU,Bool.false_eq_true,iff_false]
  split
  ·simp
  ·split
   ·unfold tkL
    rw[if_neg h1]
    split <;> simp
   ·simp
theorem isNameW (l:List UInt8) (hl:l.length≤1000000):Fn Ga 202 [S l] (.bool (Jac l)):=by
 refine Jb c202_ok rfl rfl fun N=>?_
 simp +contextual only[c202,go_sem]
 refine JR (lexKind l hl) ?_
 rw[← knd_name]
 cases h:knd l with
 |none=>simp +contextual only[go_sem,kndV]; rfl
 |some k=>
  simp +contextual only[go_sem,kndV]
  congr 1
  rw[Gi]
  simp
  omega
theorem within (a b n:Int):Fn Ga 181 [.int .i64 a,.int .i64 b,.int .i64 n] (.bool (inI a b n)):=by
 refine Jb c181_ok rfl rfl fun N=>?_
 simp +contextual only[c181,go_sem,inI]
def cntdV (k:Nat):CV:=if k=40 then .tup [S [83],.bool true] else if k=41 then .tup [S [98],.bool true] else if k=28 then .tup [S [73],.bool true] else if k=65 then .tup [S [80],.bool true] else .tup [S [],.bool false]
theorem counted (k:Nat):Fn Ga 203 [.int .u8 k] (cntdV k):=by
 unfold cntdV
 split
 ·subst_vars
  refine Jb c203_ok rfl rfl fun N=>?_
  simp +contextual only[c203,go_sem,Gd]
 ·rename_i h40
  have e40:=kb (m:=40) h40
  simp only[Gd]at e40
  split
  ·subst_vars
   refine Jb c203_ok rfl rfl fun N=>?_
   simp +contextual only[c203,go_sem,Gd]
  ·rename_i h41
   have e41:=kb (m:=41) h41
   simp only[Gd]at e41
   split
   ·subst_vars
    refine Jb c203_ok rfl rfl fun N=>?_
    simp +contextual only[c203,go_sem,Gd]
   ·rename_i h28
    have e28:=kb (m:=28) h28
    simp only[Gd]at e28
    split
    ·subst_vars
     refine Jb c203_ok rfl rfl fun N=>?_
     simp +contextual only[c203,go_sem,Gd]
    ·rename_i h65
     have e65:=kb (m:=65) h65
     simp only[Gd]at e65
     refine Jb c203_ok rfl rfl fun N=>?_
     simp +contextual only[c203,go_sem,e40,e41,e28,e65]
theorem many1 (c:UInt8) (hv:List UInt8) (hl:hv.length≤1000):Fn Ga 199 [S [c],.rptr [S hv]] (S (GJ (K9 c hv) c)):=by
 refine Jb c199_ok rfl rfl fun N=>?_
 simp +contextual only[c199,go_sem]
 refine JR (countL hv c) ?_
 simp +contextual only[go_sem]
 refine JR (repeatL c (K9 c hv) (by have:=cntB_le c hv; omega)) ?_
 simp +contextual only[go_sem]
theorem many2 (c:UInt8) (a b:Int) (hv:List UInt8):Fn Ga 204 [S [c],.int .i64 a,.int .i64 b,.rptr [S hv]] (.bool (inI a b (K9 c hv))):=by
 refine Jb c204_ok rfl rfl fun N=>?_
 simp +contextual only[c204,go_sem]
 refine JR (countL hv c) ?_
 simp +contextual only[go_sem]
 refine JR (within _ _ _) ?_
 simp +contextual only[go_sem]
theorem expectedL (x:Nd) (hv:List UInt8) (hl:hv.length≤1000):Fn Ga 180 [.agg x.cv,S hv] (S (Qc x.k hv)):=by
 obtain ⟨k,text,n,kids,pl⟩:=x
 have hcnt:=fun c=>cntB_le c hv
 simp only[Nd.cv]
 by_cases hA:4≤k∧k≤24
 ·have f1:((4:Int)≤(k:Int))=True:=Jo
  by_cases hB:k≤18
  ·have f2:((k:Int)≤18)=True:=Jo
   rw[show Qc k hv=[101,101] by simp only[Qc]; rw[if_pos (by omega)]]
   refine KV c180_ok rfl rfl (by simp only[Gg,Gf]; decide) fun N=>?_
   simp (maxSteps:=2000000) -implicitDefEqProofs only[c180,go_sem,f1,f2]
  ·have f2:((k:Int)≤18)=False:=Jn
   have f3:((19:Int)≤(k:Int))=True:=Jo
   have f4:((k:Int)≤24)=True:=Jo
   rw[show Qc k hv=[101] by simp only[Qc]; rw[if_neg (by omega),if_pos (by omega)]]
   refine KV c180_ok rfl rfl (by simp only[Gg,Gf]; decide) fun N=>?_
   simp (maxSteps:=2000000) -implicitDefEqProofs only[c180,go_sem,f1,f2,f3,f4]
 by_cases hC:k=42
 ·subst hC
  have e1:(([]:List UInt8) == [])=true:=rfl
  have e2:∀ (a:UInt8) l,(a::l == [])=false:=fun _ _=>rfl
  cases hv <;> (refine KV c180_ok rfl rfl (by simp only[Gg,Gf]; decide) fun N=>?_; simp (maxSteps:=2000000) -implicitDefEqProofs only[c180,go_sem,Gd,e1,e2]; simp[Qc])
 by_cases hD:k=43∨k=44∨k=25∨k=62∨k=63∨k=64∨k=26∨k=45∨k=27∨k=28∨k=29∨k=40∨k=41∨k=46∨k=47∨k=65
 rotate_left
 ·simp only[not_or]at hD
  rw[show Qc k hv=[] by simp only[Qc]; repeat rw[if_neg (by first | omega | exact fun h=>hC h.1)]]
  have f2:((k:Int)≤18)=(k < 4):=propext (by omega)
  have f3:((4:Int)≤(k:Int))=¬ k < 4:=propext (by omega)
  have f4:((19:Int)≤(k:Int))=¬ k < 4:=propext (by omega)
  have f5:((k:Int)≤24)=(k < 4):=propext (by omega)
  by_cases h4:k < 4 <;> (refine KV c180_ok rfl rfl (by simp only[Gg,Gf]; decide) fun N=>?_; simp (maxSteps:=2000000) -implicitDefEqProofs only[c180,go_sem,f2,f3,f4,f5,h4,kbo,hD,hC,not_true_eq_false,not_false_eq_true])
 rcases hD with rfl | rfl | rfl | rfl | rfl | rfl | rfl | rfl | rfl | rfl | rfl | rfl | rfl | rfl | rfl | rfl <;> (
  refine KV c180_ok rfl rfl (by simp only[Gg,Gf]; decide) fun N=>?_
  repeat first
   |refine Je (id:=1) (z:=1) (els:=[[S hv]]) rfl rfl ?_; simp only[go_sem,Ki,frz,JS,KP]
   |refine vr_fvS (l1:=[]) (l2:=[.rptr [S hv]]) (args:=[S [_]]) c199_ok nm (many1 _ hv hl) rfl rfl JdU ?_
   |refine ⟨by have h1:=hcnt 73; have h2:=hcnt 83; have h3:=hcnt 78; have h4:=hcnt 99; have h5:=hcnt 101; have h6:=hcnt 98; have h7:=hcnt 80; have h8:=hcnt 116; simp; omega,?_⟩
   |simp (maxSteps:=2000000) -implicitDefEqProofs only[c180,go_sem,Gd,List.length_replicate]
  all_goals first | rfl | simp[Qc])
theorem sizedL (x:Nd) (hv:List UInt8):Fn Ga 183 [.agg x.cv,S hv] (.bool (Qz x.k x.n hv)):=by
 obtain ⟨k,text,n,kids,pl⟩:=x
 simp only[Nd.cv]
 by_cases hD:k=65∨k=26∨k=40∨k=45∨k=41∨k=28∨k=29∨k=48∨k=47
 rotate_left
 ·simp only[not_or]at hD
  rw[show Qz k n hv=true by simp only[Qz]; repeat rw[if_neg (by omega)]]
  refine KV c183_ok rfl rfl (by simp only[Gg,Gf]; decide) fun N=>?_
  simp (maxSteps:=2000000) -implicitDefEqProofs only[c183,go_sem,kbo,hD,not_false_eq_true]
 rcases hD with rfl | rfl | rfl | rfl | rfl | rfl | rfl | rfl | rfl <;> (
  refine KV c183_ok rfl rfl (by simp only[Gg,Gf]; decide) fun N=>?_
  simp only[Qz]
  repeat first
   |refine Je (id:=1) (z:=1) (els:=[[S hv]]) rfl rfl ?_; simp only[go_sem,Ki,frz,JS,KP]
   |refine vr_fvSB (l1:=[]) (l2:=[.rptr [S hv]]) (args:=[S [_],.int .i64 _,.int .i64 _]) c204_ok nm (many2 _ _ _ hv) rfl rfl (by first | exact JdU | exact gokS rfl) (fun B hb=>?_); try simp only[hb]; clear hb; cases B
   |refine Yp (within 0 100 n) rfl (by first | exact JdU | exact gokS rfl) ?_
   |refine Yp (within 1 9 n) rfl JdU ?_
   |simp (maxSteps:=2000000) -implicitDefEqProofs only[c183,go_sem,Gd]
  all_goals simp)
def fldI (nmd:Bool) (k:Nat) (text:List UInt8) (n:Int) (hv:List UInt8):Bool:=Qy nmd k text && QH k n hv
theorem fieldsL (x:Nd) (hv:List UInt8) (nmd:Bool) (hn:Fn Ga 202 [S x.text] (.bool nmd)):Fn Ga 182 [.agg x.cv,S hv] (.bool (fldI nmd x.k x.text x.n hv)):=by
 obtain ⟨k,text,n,kids,pl⟩:=x
 simp only at hn
 simp only[Nd.cv]
 by_cases hC:(k=3∨k=26∨k=42∨k=43∨k=44∨k=47∨k=64∨k=65∨k=48∨k=40∨k=41∨k=28∨k=1∨k=2∨k=29)
 rotate_left
 ·rw[show fldI nmd k text n hv=(text == [] && n == 0) by simp only[fldI,Qy,QH]; repeat rw[if_neg (by omega)]]
  have hE:=counted k
  rw[show cntdV k=.tup [S [],.bool false] by simp only[cntdV]; repeat rw[if_neg (by omega)]]at hE
  simp only[not_or]at hC
  refine KV c182_ok rfl rfl (by simp only[Gg,Gf]; decide) fun N=>?_
  cases t1:text == [] <;> repeat first
   |simp (maxSteps:=2000000) -implicitDefEqProofs only[c182,go_sem,t1,kbo,hC,not_false_eq_true]
   |refine Yp hE rfl JdU ?_
 rcases hC with rfl | rfl | rfl | rfl | rfl | rfl | rfl | rfl | rfl | rfl | rfl | rfl | rfl | rfl | rfl <;> (
  refine KV c182_ok rfl rfl (by simp only[Gg,Gf]; decide) fun N=>?_
  simp only[fldI,Qy,QH]
  repeat first
   |refine Yp hn rfl JdU ?_; cases nmd
   |refine Yp (within 0 1000000000 n) rfl JdU ?_
   |refine Yp (within 0 1 n) rfl JdU ?_
   |refine JQ Jz (by decide) ?_
   |refine J4 (.inl rfl) (countL hv _) ?_
   |simp (maxSteps:=2000000) -implicitDefEqProofs only[c182,go_sem,Gd,cntdV,Nat.reduceEqDiff,if_true,if_false]
   |rcases GQ (text == []) with hb | hb <;> rw[hb]
   |rcases GQ (text == [35]) with hb | hb <;> rw[hb]
   |refine Yp (counted 3) rfl JdU ?_
   |refine Yp (counted 26) rfl JdU ?_
   |refine Yp (counted 42) rfl JdU ?_
   |refine Yp (counted 43) rfl JdU ?_
   |refine Yp (counted 44) rfl JdU ?_
   |refine Yp (counted 47) rfl JdU ?_
   |refine Yp (counted 64) rfl JdU ?_
   |refine Yp (counted 65) rfl JdU ?_
   |refine Yp (counted 48) rfl JdU ?_
   |refine Yp (counted 40) rfl JdU ?_
   |refine Yp (counted 41) rfl JdU ?_
   |refine Yp (counted 28) rfl JdU ?_
   |refine Yp (counted 1) rfl JdU ?_
   |refine Yp (counted 2) rfl JdU ?_
   |refine Yp (counted 29) rfl JdU ?_
  all_goals first | simp | simp_all)
end Go.Cm
end
section
open Go.Shelf Go.RowKit Go.Proofs
namespace Go.Cm
theorem letter_lt (k:Nat):letter k < 256:=by
 unfold letter
 repeat' split
 all_goals omega
theorem fnSort (k:Nat) (hk:k < 256):Fn Ga 179 [.int .u8 k] (.int .u8 (letter k)):=by
 refine Jb c179_ok rfl rfl fun N=>?_
 rcases (show (1≤k∧k≤29)∨(60≤k∧k≤63)∨(30≤k∧k≤39)∨(49≤k∧k≤59)∨66≤k∨k=0∨k=46∨k=47∨k=40∨k=41∨k=42∨k=43∨k=44∨k=45∨k=48∨k=64∨k=65 by omega) with h | h | h | h | h | rfl | rfl | rfl | rfl | rfl | rfl | rfl | rfl | rfl | rfl | rfl | rfl
 ·have e:letter k=101:=by unfold letter; rw[if_pos h]
  simp -implicitDefEqProofs only[c179,go_sem,e,show decide ((1:Int)≤(k:Int))=true from decide_eq_true (by omega),show decide ((k:Int)≤29)=true from decide_eq_true (by omega)]
  first | done | rfl
 ·have e:letter k=116:=by unfold letter; rw[if_neg (by omega),if_pos h]
  simp -implicitDefEqProofs only[c179,go_sem,e,show decide ((1:Int)≤(k:Int))=true from decide_eq_true (by omega),show decide ((k:Int)≤29)=false from decide_eq_false (by omega),show decide ((60:Int)≤(k:Int))=true from decide_eq_true (by omega),show decide ((k:Int)≤63)=true from decide_eq_true (by omega)]
  first | done | rfl
 ·have e:letter k=32:=by unfold letter; repeat rw[if_neg (by omega)]
  simp -implicitDefEqProofs only[c179,go_sem,e,show decide ((1:Int)≤(k:Int))=true from decide_eq_true (by omega),show decide ((k:Int)≤29)=false from decide_eq_false (by omega),show decide ((60:Int)≤(k:Int))=false from decide_eq_false (by omega),show decide ((40:Int)≤(k:Int))=false from decide_eq_false (by omega),kbo (show ¬ k=46 by omega),kbo (show ¬ k=47 by omega),kbo (show ¬ k=64 by omega),kbo (show ¬ k=65 by omega)]
  first | done | rfl
 ·have e:letter k=32:=by unfold letter; repeat rw[if_neg (by omega)]
  simp -implicitDefEqProofs only[c179,go_sem,e,show decide ((1:Int)≤(k:Int))=true from decide_eq_true (by omega),show decide ((k:Int)≤29)=false from decide_eq_false (by omega),show decide ((60:Int)≤(k:Int))=false from decide_eq_false (by omega),show decide ((40:Int)≤(k:Int))=true from decide_eq_true (by omega),show decide ((k:Int)≤48)=false from decide_eq_false (by omega),kbo (show ¬ k=46 by omega),kbo (show ¬ k=47 by omega),kbo (show ¬ k=64 by omega),kbo (show ¬ k=65 by omega)]
  first | done | rfl
 ·have e:letter k=32:=by unfold letter; repeat rw[if_neg (by omega)]
  simp -implicitDefEqProofs only[c179,go_sem,e,show decide ((1:Int)≤(k:Int))=true from decide_eq_true (by omega),show decide ((k:Int)≤29)=false from decide_eq_false (by omega),show decide ((60:Int)≤(k:Int))=true from decide_eq_true (by omega),show decide ((k:Int)≤63)=false from decide_eq_false (by omega),show decide ((40:Int)≤(k:Int))=true from decide_eq_true (by omega),show decide ((k:Int)≤48)=false from decide_eq_false (by omega),kbo (show ¬ k=46 by omega),kbo (show ¬ k=47 by omega),kbo (show ¬ k=64 by omega),kbo (show ¬ k=65 by omega)]
  first | done | rfl
 all_goals simp (config:={implicitDefEqProofs:=false}) [c179,go_sem,letter] <;> exact ⟨by decide,by decide⟩
theorem calls_of_fn {P:Program}{f:Nat}{args:List CV}{v:CV}(h:Fn P f args v) (hv:v.closed=true) {w:World}{imm:Nat→Nat→Option Value}(himm:∀ B i x,imm B i=some x→w.cell? ⟨B,i,none⟩=some x) (hone:∀ B i x,imm B i=some x→x.oneCell'=true) {vs:Array Value}(hvs:JM [] imm args vs.toList) (hgl:GLw w) :
  Calls P f vs w fun e w'=>(∃ r imm',Kl imm imm'∧rel [] imm' v r∧e=.returned r)∧Below w.heap.size w w':=by
 have hs:Sim Env.none { own:=[],imm:=imm,ext:=fun _=>False } [] w:=⟨rfl,by simp,himm,hone,by simp,by simp,by simp,by simp,fun B h=>hgl.lt (h.resolve_left id),hgl,by simp⟩
 refine ((h Env.none [] _ w vs hs hvs).calls fun k=>Jdr none k).mono ?_
 rintro e w' ⟨r,m',v',H',rfl,hext,hs',hrel,rfl,rfl⟩
 have hno:∀ B,¬ owned { own:=[],imm:=imm,ext:=fun _=>False } [] B:=by
  rintro B (h | ⟨k,o,x,hk,_⟩)
  ·exact h
  ·simp at hk
 exact ⟨⟨r,m'.imm,hext.imm,K6 _ _ hv hrel,rfl⟩,hext.same.1,hext.same.2.2,hext.same.2.1,hext.size,fun k hk=>hext.frame k hk (hno k)⟩
end Go.Cm
namespace Go.Proofs
def Tryz.bRen:Go.Shelf.Ren:=⟨fun n=>if n=167 then 197 else Tryz.lays105_ren.f n,Tryz.lays105_ren.t,Tryz.lays105_ren.g⟩
theorem Tryz.bLays167:Lays.n167 Ga Tryz.bRen:={ Tryz.lays105 with f167:=Tryz.func197.trans (congrArg some (by kernel_rfl)) }
theorem Tryz.bLays169:Lays.n169 Ga Tryz.bRen:={ Tryz.lays105 with }
theorem Tryz.bExtra:Builder.Extra Ga Tryz.bRen:={
 sizeBuilder:=by kernel_rfl
 liesBuilder:=by kernel_rfl
 t5:=Tryz.underlying5
 a5:=Tryz.isAgg5
 z5:=Tryz.sizeOf5
 v5:=Tryz.zeroValue5
 infoByte:=by kernel_rfl
 cellsByte:=by kernel_rfl
 sizeByte:=by kernel_rfl
 neB5:=by decide }
theorem Tryz.WriteByte (B b:Nat) (bs:List Value) (c:Int) (w:World) (h:Lib.IsBuilder 197 5 B b bs w) (hlen:bs.length+1≤140737488355328) (hBw:B≤w.heap.size) :
  Calls Ga 197 #[.pointer (some ⟨b,0,none⟩),.int .u8 c] w fun e w'=>e=.returned .nilIface∧(Lib.BuilderAt 197 5 B b (.pointer (some ⟨b,0,none⟩)) (bs++[.int .u8 c]) w'∧Below B w w'):=
 Any.Builder_WriteByte Tryz.bLays167 Tryz.bExtra B b bs c w h hlen hBw
theorem Tryz.BString (B b:Nat) (l:List UInt8) (w:World) (h:Lib.IsBuilder 197 5 B b (Lib.byteCells l) w) (hBw:B≤w.heap.size) :
  Calls Ga 198 #[.pointer (some ⟨b,0,none⟩)] w fun e w'=>e=.returned (.string ⟨l.toArray⟩)∧Below B w w':=
 Any.Builder_String_any Tryz.bLays169 Tryz.bExtra B b l w h hBw
theorem Tryz.bat_below {T e:TypeId}{B b:Nat}{p:Value}{bs:List Value}{W W':World}(h:Lib.BuilderAt T e B b p bs W) (hb:Below W.heap.size W W'):Lib.BuilderAt T e B b p bs W':=by
 obtain ⟨hB,v,hv,hown,hne⟩:=h
 have hlt:b < W.heap.size:=(Array.getElem?_eq_some_iff.1 hv).1
 exact ⟨hB,v,(hb.block b hlt).trans hv,hown.kept (row:=none) ⟨hb.os,hb.tape,hb.output,hb.size,fun k hk _=>hb.block k hk⟩ (Classical.em _),hne⟩
theorem Tryz.isb_below {T e:TypeId}{B b:Nat}{bs:List Value}{W W':World}(h:Lib.IsBuilder T e B b bs W) (hb:Below W.heap.size W W'):Lib.IsBuilder T e B b bs W':=
 h.elim (fun x=>.inl (Tryz.bat_below x hb)) (fun x=>.inr (Tryz.bat_below x hb))
theorem Tryz.cell_lt {w:World}{a:Addr}{v:Value}(h:w.cell? a=some v):a.block < w.heap.size:=by
 rcases Nat.lt_or_ge a.block w.heap.size with h' | h'
 ·exact h'
 ·rw[World.cell?,Array.getElem?_eq_none h']at h
  simp at h
def Tryz.letters (ds:List Nat):List UInt8:=ds.map fun d=>UInt8.ofNat (Go.Cm.letter d)
theorem Tryz.letters_take (ds:List Nat) (j d:Nat) (h:ds[j]? = some d):Tryz.letters (ds.take (j+1))=Tryz.letters (ds.take j)++[UInt8.ofNat (Go.Cm.letter d)]:=by
 rw[G6,h]
 simp[Tryz.letters]
open Go.Cm in
set_option maxHeartbeats 4000000 in
set_option maxRecDepth 100000 in
theorem Tryz.sorts_walk (np kp:Option Addr) (nl nc kl kc:Nat) (items n0 n1 n2 n4:Value) (ds:List Nat) (w:World) (hgw:GLw w) (hdl:ds.length=kl) (hkd:∀ k∈ds,k < 256)
  (hbig:kl < 140737488355328)
  (hks:∀ j d,ds[j]? = some d→∃ bn no bk ko k,np=some ⟨bn,no,none⟩∧kp=some ⟨bk,ko,none⟩∧k < nl∧w.cell? ⟨bk,ko+j,none⟩=some (.int .i64 (k:Nat))∧w.cell? ⟨bn,no+k*5,none⟩=some (.int .u8 (d:Nat))) :
  Calls Ga 178 #[.agg #[.slice np nl nc,items],.agg #[n0,n1,n2,.slice kp kl kc,n4]] w fun e w'=>e=.returned (.string ⟨(Tryz.letters ds).toArray⟩)∧Below w.heap.size w w':=by
 have HK:Hid (∀ j d,ds[j]? = some d→∃ bn no bk ko k,np=some ⟨bn,no,none⟩∧kp=some ⟨bk,ko,none⟩∧k < nl∧w.cell? ⟨bk,ko+j,none⟩=some (.int .i64 (k:Nat))∧w.cell? ⟨bn,no+k*5,none⟩=some (.int .u8 (d:Nat))):=hks
 have HD:Hid (∀ k∈ds,k < 256):=hkd
 clear hks hkd
 go_enter Tryz.func178,Tryz.ntmps178
 go_wp2
 go_loopw [11] (fun v wr=>∃ j:Nat,j≤kl∧v=.int .i64 j∧Lib.IsBuilder 197 5 (w.heap.size+2) (w.heap.size+2) (Lib.byteCells (Tryz.letters (ds.take j))) wr∧wr.cell? ⟨w.heap.size,0,none⟩=some (.slice np nl nc)∧Below w.heap.size w wr∧w.heap.size+2≤wr.heap.size) (fun i _=>kl-(intOf i).toNat)
 case atStart=>
  refine ⟨0,Nat.zero_le _,rfl,?_,?_,?_,?_⟩
  ·simpa [Tryz.letters,Lib.byteCells]using Lib.fresh_isBuilder 197 5 ((w.alloc (.cells #[.slice np nl nc,items] 28)).alloc (.cells #[n0,n1,n2,.slice kp kl kc,n4] 43))
  ·simp[go_sem]
  ·exact (((Below.refl _ w).alloc (Gl _) _).alloc (by simp) _).alloc (by simp; omega) _
  ·simp
 case round=>
  obtain ⟨j,hj,rfl,hI,hT,hbw,hsz⟩:=hrel
  have HI:Hid (Lib.IsBuilder 197 5 (w.heap.size+2) (w.heap.size+2) (Lib.byteCells (Tryz.letters (ds.take j))) wr):=hI
  clear hI
  by_cases hlt:j < kl
  ·obtain ⟨d,hd⟩:∃ d,ds[j]? = some d:=⟨ds[j],Gc (by omega)⟩
   have hd256:=HD.out d (Gv hd)
   obtain ⟨bn,no,bk,ko,k,rfl,rfl,hk,h1,h2⟩:=HK.out j d hd
   have h1':wr.cell? ⟨bk,ko+j,none⟩=some (.int .i64 (k:Nat)):=(hbw.cell (Tryz.cell_lt h1)).trans h1
   have h2':wr.cell? ⟨bn,no+k*5,none⟩=some (.int .u8 (d:Nat)):=(hbw.cell (Tryz.cell_lt h2)).trans h2
   clear h1 h2
   have HD2:Hid (ds[j]? = some d):=hd
   clear hd
   go_wp2_with (go_at_call 179; refine (calls_of_fn (imm:=fun _ _=>none) (fnSort d hd256) rfl (by simp) (by simp) (by simp[JM,rel]) (Tryz.GLw_below hgw hbw)).mono ?_)
   rintro e W1 ⟨⟨r,imm',_,hr,rfl⟩,b1⟩
   simp[rel]at hr
   subst hr
   have HI1:=HI.out
   have b2:=hbw.trans (b1.mono hbw.size)
   have HB:Hid (Lib.IsBuilder 197 5 (w.heap.size+2) (w.heap.size+2) (Lib.byteCells (Tryz.letters (ds.take j))) W1):=Tryz.isb_below HI1 b1
   have hT1:W1.cell? ⟨w.heap.size,0,none⟩=some (.slice (some ⟨bn,no,none⟩) nl nc):=(b1.cell (by simp; omega)).trans hT
   have hlen:(Lib.byteCells (Tryz.letters (ds.take j))).length+1≤140737488355328:=by rw[Lib.byteCells_length]; simp[Tryz.letters]; omega
   have hsz1:=Hg hsz b1.size
   clear HI1
   go_wp2_with (go_at_call 197; refine (Tryz.WriteByte _ _ _ _ _ HB.out hlen hsz1).mono ?_)
   rintro e W2 ⟨rfl,hB2,b3⟩
   have hT2:W2.cell? ⟨w.heap.size,0,none⟩=some (.slice (some ⟨bn,no,none⟩) nl nc):=(b3.cell (by simp)).trans hT1
   have HB2:Hid (Lib.IsBuilder 197 5 (w.heap.size+2) (w.heap.size+2) (Lib.byteCells (Tryz.letters (ds.take j))++[Value.int IntKind.u8 (letter d:Nat)]) W2):=Or.inr hB2
   have b4:=b2.trans (b3.mono (by omega))
   have hsz2:=Hg hsz1 b3.size
   clear hB2 b1 b2 b3
   go_wp2
   go_roundw
   case rel=>
    refine ⟨j+1,by omega,by go_num,?_,hT2,b4,hsz2⟩
    rw[Tryz.letters_take ds j d HD2.out,Lib.byteCells_append]
    have:=HB2.out
    have hl:letter d % 256=letter d:=Nat.mod_eq_of_lt (letter_lt d)
    simpa [Lib.byteCells,hl]using this
   case measure=>
    simp[intOf]; omega
  ·have hjl:j=kl:=by omega
   subst hjl
   rw[Gu (by omega)]at HI
   go_wp2_with (go_at_call 198; refine (Tryz.BString _ _ _ _ HI.out hsz).mono ?_)
   rintro e W1 ⟨rfl,b1⟩
   go_wp2
   go_ret
   exact ⟨rfl,hbw.trans (b1.mono (by omega))⟩
end Go.Proofs
namespace Go.Cm
theorem sortsL (t:Tr) (x:Nd) (hx:x.Fit) (hn:∀ y∈t.nodes,y.k < 256) (hk:∀ k∈x.kids,0≤k∧k < t.nodes.length):Fn Ga 178 [.agg [.rslc 5 (ndz t.nodes) none,.rslc 1 (iz t.items) none],.agg x.cv] (S (lets t.nodes x)):=by
 intro E H
 refine KG fun m w vs hs hv=>?_
 simp only[JM,rel,Nd.cv]at hv
 obtain ⟨_,_,e0,⟨t1,rfl,r1,_,e1,hnn,r2,_,rfl,hit,rfl⟩,_,_,rfl,⟨t2,rfl,s0,_,e2,hs0,s1,_,rfl,hs1,s2,_,rfl,hs2,s3,_,rfl,hkk,s4,_,rfl,hs4,rfl⟩,rfl⟩:=hv
 have ht1:t1=#[r1,r2]:=by cases t1; simp_all
 have ht2:t2=#[s0,s1,s2,s3,s4]:=by cases t2; simp_all
 have hvs:vs=#[.agg t1,.agg t2]:=by cases vs; simp_all
 subst ht1 ht2 hvs
 have hnode:∃ np nl nc,r1=.slice np nl nc∧∀ (k:Nat),k < t.nodes.length→k < nl∧∃ B o,np=some ⟨B,o,none⟩∧w.cell? ⟨B,o+k*5,none⟩=some (.int .u8 (Jq t.nodes k:Nat)):=by
  rcases hnn with ⟨_,h0,b,rfl⟩ | ⟨B,o,c,rfl,_,_,hels⟩
  ·refine ⟨b,0,0,rfl,fun k hk=>?_⟩
   have:=congrArg Gy h0
   rw[Jc]at this
   simp at this
   rw[this]at hk; simp at hk
  ·refine ⟨_,_,_,rfl,fun k hk=>⟨by rw[Jc]; exact hk,B,o,rfl,?_⟩⟩
   have hg:(ndz t.nodes)[k]? = some (t.nodes.getD k default).cv:=by
    simp[ndz,Gb,Gc hk]
   have h1:=((K5 _ o).1 hels k _ hg).2
   obtain ⟨r,hr,hr2⟩:=h1 0 _ rfl
   simp only[rel]at hr2
   subst hr2
   exact hs.imm _ _ _ hr
 obtain ⟨np,nl,nc,rfl,hN⟩:=hnode
 have hkid:∃ kp kc,s3=.slice kp x.kids.length kc∧∀ (j:Nat) k,x.kids[j]? = some k→∃ B o,kp=some ⟨B,o,none⟩∧w.cell? ⟨B,o+j,none⟩=some (.int .i64 k):=by
  rcases hkk with ⟨_,he,b,rfl⟩ | ⟨B,o,c,rfl,_,_,hels'⟩
  ·have hks:x.kids=[]:=by
    have:=congrArg Gy he
    rw[Jf]at this
    simpa using this
   exact ⟨b,0,by rw[hks]; rfl,fun j k hj=>by simp[hks]at hj⟩
  ·refine ⟨_,c,by rw[Jf],fun j k hj=>⟨B,o,rfl,?_⟩⟩
   have hj2:(iz x.kids)[j]? = some [CV.int .i64 k]:=by simp[iz,hj]
   have h1:=((K5 _ o).1 hels' j _ hj2).2
   obtain ⟨r,hr,hr2⟩:=h1 0 _ rfl
   simp only[rel]at hr2
   subst hr2
   have:=hs.imm _ _ _ hr
   simpa using this
 obtain ⟨kp,kc,rfl,hK⟩:=hkid
 have hkn:=hx.kidn
 refine ⟨_,Tryz.sorts_walk np kp nl nc x.kids.length kc r2 s0 s1 s2 s4 (x.kids.map (Jq t.nodes)) w hs.gl.1 (by simp) (fun d hd=>?_) (by omega) (fun j d hj=>?_),?_⟩
 ·obtain ⟨k,hk1,rfl⟩:=List.mem_map.1 hd
  have:=hk k hk1
  refine hn _ ?_
  have hlt:k.toNat < t.nodes.length:=by omega
  rw[Gb,Gc hlt]
  exact Gx hlt
 ·rw[Gr]at hj
  cases hkj:x.kids[j]? with
  |none=>rw[hkj]at hj; cases hj
  |some k=>
   rw[hkj]at hj
   simp only[He,Option.some.injEq]at hj
   subst hj
   have hr:=hk k (Gv hkj)
   obtain ⟨h3,B,o,h4,h5⟩:=hN k.toNat (by omega)
   obtain ⟨B',o',h6,h7⟩:=hK j k hkj
   refine ⟨B,o,B',o',k.toNat,h4,h6,h3,?_,?_⟩
   ·rw[h7,show ((k.toNat:Nat):Int)=k by omega]
   ·rw[h5]
    simp only[Jq,Int.toNat_natCast]
 ·simp only[rel,lets,Tryz.letters,Jey,GL]
  rfl
end Go.Cm
end
section
open Go.Proofs
namespace Go.Cm
def bks (xs:List Int):List (List CV):=(List.range xs.length).map fun (s:Nat)=>[.int .i64 ((xs.length:Int)-1-s),.int .i64 (xs.reverse.getD s 0)]
theorem bks_get {xs:List Int}{s:Nat}(h:s < xs.length):(bks xs)[s]? = some [.int .i64 ((xs.length:Int)-1-s),.int .i64 (xs.reverse.getD s 0)]:=by
 simp[bks,h]
theorem bks_len {xs:List Int}:(bks xs).length=xs.length:=by simp[bks]
theorem backward1 (xs:List Int) (hlen:xs.length≤100000):Iter Ga 216 [] [.rptr [.rslc 1 (iz xs) none]] (bks xs):=by
 intro E l hy
 refine J7 c216_ok fun N=>?_
 simp +contextual only[c216,go_sem,Jf]
 refine ⟨Jj,?_⟩
 refine JC (I:=fun s:Nat=>s≤xs.length) (inv:=fun s=>gp [(0,.yld l),(0,.rptr [.rslc 1 (iz xs) none]),(1,.int .i64 ((xs.length:Int)-1-s))] 15) (hp:=fun s=>[.ext s true]) (μ:=fun s=>xs.length-s) 0 (by omega) ?_ rfl ?_
 ·simp[forget,gp]
 ·intro s hs
  simp +contextual only[go_sem,Jf]
  refine ⟨fun h1=>?_,fun h1=>?_⟩
  ·have hlt:s < xs.length:=by omega
   have hi:((xs.length:Int)-1-s).toNat=xs.length-1-s:=by omega
   have hg:(iz xs).getD (xs.length-1-s) []=[.int .i64 (xs.reverse.getD s 0)]:=by
    have h2:xs.length-1-s < xs.length:=by omega
    simp[iz,Gb,Gc h2,List.getElem?_reverse hlt]
   rw[hi,hg]
   refine ⟨by omega,?_⟩
   simp +contextual only[go_sem]
   refine vr_yield (i:=0) (s:=s) (.inl rfl) rfl hy rfl (fun k s b hk=>?_) ?_ rfl fun c=>?_
   ·rcases k with _ | k
    ·rfl
    ·simp at hk
   ·simp only[go_sem,bks_get hlt]
   ·cases c
    ·simp +contextual only[go_sem]
     exact .inr ⟨_,rfl⟩
    ·simp +contextual only[go_sem]
     refine ⟨Jj,s+1,by omega,by omega,?_⟩
     simp[forget]
     omega
  ·have:s=xs.length:=by omega
   refine .inl ?_
   simp[bks_len,this]
theorem backward (xs:List Int):Fn Ga 196 [.rslc 1 (iz xs) none] (.fn 216 [] [.rptr [.rslc 1 (iz xs) none]]):=by
 have main:CallsC Ga Env.none 196 [.rslc 1 (iz xs) none] [] fun v H'=>v=.fn 216 [] [.ptr 0 0 0]∧H'=[.arr 1 [[.rslc 1 (iz xs) none]]]:=by
  refine J7 c196_ok fun N=>?_
  simp +contextual only[c196,go_sem]
 exact fn_of (main.freeze fun v H' ⟨h1,h2⟩=>⟨0,1,[[.rslc 1 (iz xs) none]],by rw[h2]; rfl,rfl,by rw[h1]; simp[frz,JS]⟩) rfl rfl
def Js (l:List Nd):List (List Int):=l.map Nd.kids
theorem JK {l:List Nd}{i:Nat}(h:i < l.length):(Js l)[i]? = some (l.getD i default).kids:=by
 simp[Js,Gb,Gc h]
theorem JaA {K:List (List Int)}{i:Nat}{o:List Int}{ks:List Int}(h:Jt (K.take i) []=some o) (hk:K[i]? = some ks):Jt (K.take (i+1)) []=(Jci o ks).map (fun f=>o++[f])∧o.length=i:=by
 have hlt:=(Gh.1 hk).1
 have hl:=Qn _ _ _ h
 rw[Gp hlt,(Gh.1 hk).2,YZ,h]
 refine ⟨?_,by simpa [Hf (Gn hlt)]using hl⟩
 simp only[GM,Jt]
 cases Jci o ks <;> rfl
theorem JcR {K:List (List Int)}{i:Nat}(h:Jt (K.take i) []=none):Jt K []=none:=by
 rw[← Gz i K,YZ,h]; rfl
theorem stepF_none {o ks:List Int}{s:Nat}(h:Qd o (ks.reverse.take s) ((o.length:Int)-1)=none):Jci o ks=none:=by
 unfold Jci
 rw[← Gz s ks.reverse,Jcb,h]; rfl
def JbB (t:Tr) (v:CV) (H':List CObj):Prop:=match Jt (Js t.nodes) []with
 |some o=>∃ id,v=.tup [KN id (iz o),.bool true]∧H'[id]? = some (Qi 1 (iz o))
 |none=>v=.tup [.nils,.bool false]
theorem firstsW (t:Tr) (ht:t.Fit):CallsC Ga Env.none 175 [t.cv] [] (JbB t):=by
 have hmany:=ht.many
 refine J7 c175_ok fun N=>?_
 simp +contextual only[c175,go_sem,Tr.cv,Tr.row]
 refine Q3 ?_
 simp only[go_sem,Jc]
 refine Jy (σ:=Nat×List Int) (I:=fun s=>s.1≤t.nodes.length∧Jt ((Js t.nodes).take s.1) []=some s.2)
  (inv:=fun s=>gp [(2,.ptr 0 0 0),(0,.ptr 1 0 0),(6,.rslc 5 (ndz t.nodes) none),(0,.int .i64 t.nodes.length),(0,.int .i64 s.1)] 30)
  (hp:=fun s=>[.arr 1 [[KN 2 (iz s.2)]],.arr 1 [[.bool false]],Qi 1 (iz s.2)]) (μ:=fun s=>t.nodes.length-s.1) (0,[]) [1,2,3] ⟨by omega,rfl⟩ rfl ?_ rfl ?_
 ·simp[forget,JA,ren,Jl,gp]
 ·rintro ⟨i,o⟩ ⟨hi,ho⟩
  dsimp only at hi ho
  simp +contextual only[go_sem,Jc]
  refine ⟨fun h=>?_,fun h=>?_⟩
  ·have hlt:i < t.nodes.length:=by omega
   have hx:=ht.nodes _ (Gx hlt)
   have hg:t.nodes.getD i default=t.nodes[i]:=by rw[Gb,Gc hlt]; rfl
   obtain ⟨hstep,hol⟩:=JaA ho (JK hlt)
   have hok:=Qh _ _ _ QG.nil ho
   rw[KQ hlt]
   generalize t.nodes.getD i default=x at hstep hg ⊢
   rw[← hg]at hx
   refine ⟨by omega,by simp[Nd.cv],?_⟩
   simp +contextual only[go_sem,Nd.cv]
   refine ⟨Jj,?_⟩
   refine JR (backward x.kids) ?_
   simp +contextual only[go_sem]
   have hkn:=hx.kidn
   refine vr_rfuncJ (xs:=bks x.kids) (Γ:=Int) (fun s a=>Qd o (x.kids.reverse.take s) ((i:Int)-1)=some a) (fun s a=>[.arr 1 [[KN 2 (iz o)]],.arr 1 [[.bool false]],Qi 1 (iz o),.arr 5 [x.cv],.arr 1 [[.int .i64 a]]]) ((i:Int)-1) rfl rfl rfl rfl rfl c216_ok nm (backward1 _ (by omega)) (by simp[bks]) rfl ?_ ?_
   ·intro s a c ha hc
    have hlts:s < x.kids.length:=by
     have:=(Gh.1 hc).1; rwa [bks_len]at this
    rw[bks_get hlts]at hc
    cases hc
    have hlt2:s < x.kids.reverse.length:=by rw[List.length_reverse]; exact hlts
    have hst:x.kids.reverse.take (s+1)=x.kids.reverse.take s++[x.kids.reverse.getD s 0]:=by
     rw[Gp hlt2,Gb,Gc hlt2]; rfl
    generalize x.kids.reverse.getD s 0=k at hst ⊢
    have hr:=Jca hok _ _ a (by omega) (by omega) ha
    have hnx:Qd o (x.kids.reverse.take (s+1)) ((i:Int)-1)=if a < 0∨k≠a then none else some (o.getD k.toNat 0-1):=by
     rw[hst,Jcb,ha]; simp only[GM,Qd]
    by_cases hc:a < 0∨k≠a
    ·rw[if_pos hc]at hnx
     have hnone:Jt (Js t.nodes) []=none:=by
      refine JcR (i:=i+1) ?_
      rw[hstep,stepF_none (s:=s+1) (by rw[hol]; exact hnx)]; rfl
     by_cases h0:a < 0
     ·have d0:(a < 0)=True:=eq_true h0
      simp +contextual only[go_sem,d0]
      simp only[JbB,hnone]
     ·have d0:(a < 0)=False:=eq_false h0
      have d1:(k == a)=false:=beq_eq_false_iff_ne.2 (by omega)
      have d2:(k != a)=true:=by rw[bne,d1]; rfl
      simp +contextual only[go_sem,d0,d1,d2]
      simp only[JbB,hnone]
    ·rw[if_neg hc]at hnx
     have hka:k=a:=by omega
     subst hka
     have hne:iz o≠[]:=by
      intro e
      have:=congrArg Gy e
      rw[Jf]at this
      simp at this
      rw[this]at hol; simp at hol; omega
     have d0:(k < 0)=False:=Jn
     have d2:(k != k)=false:=by simp
     rw[QA hne,Qk hne]
     have hlk:k.toNat < o.length:=by omega
     have hv:=hok k.toNat o[k.toNat] (Gc hlk)
     have e:o.getD k.toNat 0=o[k.toNat]:=by simp[Gb,Gc hlk]
     simp +contextual only[go_sem,d0,d2,Jf]
     rw[JP hlk]
     refine ⟨by omega,⟨by omega,by simp⟩,?_⟩
     simp +contextual only[go_sem]
     refine ⟨inr64 (by rw[e]; omega) (by rw[e]; omega),_,hnx,?_⟩
     rfl
   ·intro a ha
    rw[bks_len]at ha
    rw[Gu (by simp)]at ha
    have hr:=Jca hok _ _ a (by omega) (by omega) ha
    have hsf:Jci o x.kids=some (a+1):=by unfold Jci; rw[hol,ha]; rfl
    rw[hsf]at hstep
    simp +contextual only[go_sem,Jr,Jf]
    refine ⟨Jj,⟨by omega,by omega⟩,Jj,(i+1,o++[a+1]),[0,1,6],⟨by simp only; omega,hstep⟩,by simp only; omega,rfl,?_,?_⟩
    ·rw[Ka,JY,JZ]
     simp only[Ke,Gj,GD,go_sem,Ji,Ja (Jd o)]
     simp[JA,ren,Jl,Jf,Ja (Jd o)]
    ·simp[forget,JA,ren,Jl]
  ·have:i=t.nodes.length:=by omega
   subst this
   rw[Gu (by simp[Js])]at ho
   cases o with
   |nil=>
    simp only[iz,GD,Qu,Xc,go_sem]
    simp only[JbB,ho]
    exact ⟨2,rfl,rfl⟩
   |cons y o=>
    simp only[iz,Gj,QQ,Yx,go_sem]
    simp only[JbB,ho]
    exact ⟨2,rfl,rfl⟩
theorem firstsS (t:Tr) (ht:t.Fit) {o:List Int}(h:Jt (Js t.nodes) []=some o):Fn Ga 175 [t.cv] (.tup [.rslc 1 (iz o) none,.bool true]):=by
 refine fn_of_rowT ?_ rfl (Jd o) rfl
 have:=firstsW t ht
 refine this.mono fun v H' hv=>?_
 simpa only[JbB,h]using hv
theorem firstsN (t:Tr) (ht:t.Fit) (h:Jt (Js t.nodes) []=none):Fn Ga 175 [t.cv] (.tup [.nils,.bool false]):=by
 refine fn_of ?_ rfl rfl
 have:=firstsW t ht
 refine this.mono fun v H' hv=>?_
 simpa only[JbB,h]using hv
theorem rowg {t:Tr}{i:Nat}(h:i < t.nodes.length):t.nodes.getD i default=t.nodes[i]:=by rw[Gb,Gc h]; rfl
theorem areItems (t:Tr) (ht:t.Fit) (o:List Int) (ho:QG o) (hl:o.length=t.nodes.length):Fn Ga 176 [t.cv,.rslc 1 (iz o) none] (.bool (Yl o (fun i=>Jq t.nodes i == 65) t.nodes.length t.items 0)):=by
 have hmany:=ht.many
 have hit:=ht.items
 refine Jb c176_ok rfl rfl fun N=>?_
 simp +contextual only[c176,go_sem,Tr.cv,Tr.row,Jf]
 generalize hD:(fun i=>Jq t.nodes i == 65)=isD
 refine JC (σ:=Nat×Int) (I:=fun s=>s.1≤t.items.length∧0≤s.2∧s.2≤t.nodes.length∧Yl o isD t.nodes.length t.items 0=Yl o isD t.nodes.length (t.items.drop s.1) s.2)
  (inv:=fun s=>gp [(1,.rslc 1 (iz o) none),(0,.ptr 0 0 0),(2,.int .i64 s.2),(3,.rslc 1 (iz t.items) none),(0,.int .i64 t.items.length),(0,.int .i64 s.1)] 36)
  (hp:=fun _=>[.arr 2 [t.row]]) (μ:=fun s=>t.items.length-s.1) (0,0) ⟨by omega,by simp,by simp,by simp⟩ ?_ rfl ?_
 ·simp[forget,gp]
 ·rintro ⟨j,a⟩ ⟨hj,h0,h1,hinv⟩
  simp only at hj h0 h1 hinv
  simp +contextual only[go_sem,Tr.row,Jf,Jc]
  refine ⟨fun h=>?_,fun h=>?_⟩
  ·have hlt:j < t.items.length:=by omega
   rw[Gt hlt,Yl]at hinv
   rw[JP hlt,show t.items.getD j 0=t.items[j] by rw[Gb,Gc hlt]; rfl]
   generalize t.items[j]=i at hinv ⊢
   refine ⟨by omega,?_⟩
   simp +contextual only[go_sem,Jc]
   refine ⟨Jj,?_⟩
   refine JR (within _ _ _) ?_
   simp +contextual only[go_sem]
   cases b1:inI a ((t.nodes.length:Int)-1) i with
   |false=>
    rw[b1]at hinv
    simp +contextual only[go_sem]
    rw[hinv]; rfl
   |true=>
    rw[b1]at hinv
    have hi:a≤i∧i≤(t.nodes.length:Int)-1:=by
     simp only[inI,Gs,decide_eq_true_eq]at b1; exact b1
    have hil:i.toNat < t.nodes.length:=by omega
    simp +contextual only[go_sem,Jc]
    rw[KQ hil]
    refine ⟨by omega,?_⟩
    simp +contextual only[go_sem,Nd.cv]
    have hk:isD i=((t.nodes.getD i.toNat default).k == 65):=by rw[← hD]; rfl
    have hk2:(((t.nodes.getD i.toNat default).k:Int) == 65)=isD i:=by
     rw[hk,Gi]; simp; omega
    have hk3:(((t.nodes.getD i.toNat default).k:Int) != 65) = !isD i:=by rw[bne,hk2]
    rw[hk3]
    cases b2:isD i with
    |false=>
     rw[b2]at hinv
     simp +contextual only[go_sem]
     rw[hinv]; rfl
    |true=>
     rw[b2]at hinv
     simp +contextual only[go_sem,Jf]
     rw[JP (by omega)]
     refine ⟨by omega,?_⟩
     simp +contextual only[go_sem]
     have hne:(o.getD i.toNat 0 != a) = !(o.getD i.toNat 0 == a):=rfl
     rw[hne]
     cases b3:(o.getD i.toNat 0 == a) with
     |false=>
      rw[b3]at hinv
      simp +contextual only[go_sem]
      rw[hinv]; rfl
     |true=>
      rw[b3]at hinv
      simp +contextual only[go_sem]
      refine ⟨Jj,Jj,(j+1,i+1),⟨by simp only; omega,by simp only; omega,by simp only; omega,?_⟩,by simp only; omega,?_⟩
      ·simpa using hinv
      ·simp[forget]
  ·have:j=t.items.length:=by omega
   subst this
   rw[hinv]; simp[Yl]
theorem isGreat (t:Tr):Fn Ga 154 [t.cv] (.bool (decide (700 < t.nodes.length∨20 < t.items.length))):=by
 refine Jb c154_ok rfl rfl fun N=>?_
 simp +contextual only[c154,go_sem,Tr.cv,Tr.row,Jf,Jc]
 refine ⟨fun h=>?_,fun h=>?_⟩
 ·congr 1
  exact decide_eq_decide.2 (by omega)
 ·congr 1
  symm
  rw[decide_eq_true_eq]
  omega
def mx (a b:Int):Int:=if b > a then b else a
def Jew (deep:List Int) (ks:List Int):Int:=ks.foldl (fun a k=>mx a (deep.getD k.toNat 0+1)) 1
def Km:List (List Int)→List Int→List Int
 |[],d=>d
 |ks::K,d=>Km K (d++[Jew d ks])
theorem Jd7:∀ (x y:List (List Int)) (d:List Int),Km (x++y) d=Km y (Km x d)
 |[],_,_=>rfl
 |k::x,y,d=>by simp only[List.cons_append,Km]; exact Jd7 x y _
theorem Xi:∀ (K:List (List Int)) (d:List Int),(Km K d).length=d.length+K.length
 |[],d=>by simp[Km]
 |k::K,d=>by simp only[Km]; rw[Xi K]; simp; omega
def DOk (d:List Int):Prop:=∀ v∈d,1≤v∧v≤d.length
theorem mx_le {a b c:Int}(h1:a≤c) (h2:b≤c):mx a b≤c:=by unfold mx; split <;> omega
theorem mx_ge {a b c:Int}(h1:c≤a):c≤mx a b:=by unfold mx; split <;> omega
theorem Jgd {d:List Int}{m:Int}(h:∀ v∈d,1≤v∧v≤m) (hm:0≤m) (k:Nat):0≤d.getD k 0∧d.getD k 0≤m:=by
 rw[Gb]
 cases hk:d[k]? with
 |none=>simp; omega
 |some v=>
  have:=h v (Gv hk)
  simp; omega
theorem Jf0 {d:List Int}{m:Int}(h:∀ v∈d,1≤v∧v≤m) (hm:0≤m):∀ (ks:List Int) (a:Int),1≤a→a≤m+1→1≤ks.foldl (fun a k=>mx a (d.getD k.toNat 0+1)) a∧ks.foldl (fun a k=>mx a (d.getD k.toNat 0+1)) a≤m+1
 |[],a,h1,h2=>⟨h1,h2⟩
 |k::ks,a,h1,h2=>by
  have:=Jgd h hm k.toNat
  exact Jf0 h hm ks _ (mx_ge h1) (mx_le h2 (by omega))
theorem Jgs:∀ (K:List (List Int)) (d:List Int),DOk d→DOk (Km K d)
 |[],d,h=>h
 |k::K,d,h=>by
  refine Jgs K _ fun v hv=>?_
  rcases List.mem_append.1 hv with hv | hv
  ·have:=h v hv
   simp; omega
  ·simp at hv
   have:=Jf0 (m:=d.length) (fun v hv=>h v hv) (by omega) k 1 (by omega) (by omega)
   rw[hv]
   simp only[List.length_append,Gg,Gf]
   unfold Jew
   omega
theorem maxL (x:Int) (l:List Int) (hl:l.length≤100000):Fn Ga 185 [.rslc 1 (iz (x::l)) none] (.int .i64 (l.foldl mx x)):=by
 refine Jb c185_ok rfl rfl fun N=>?_
 have d0:(((l.length+1:Nat):Int) < 1)=False:=Jn
 simp +contextual only[c185,go_sem,Jf,d0]
 rw[JP (by simp)]
 refine ⟨by omega,?_⟩
 simp +contextual only[go_sem]
 refine JC (I:=fun i:Nat=>i≤l.length) (inv:=fun i=>gp [(0,.rslc 1 (iz (x::l)) none),(2,.int .i64 ((l.take i).foldl mx x)),(0,.int .i64 (i+1:Nat))] 20) (hp:=fun _=>[]) (μ:=fun i=>l.length-i) 0 (by omega) ?_ rfl ?_
 ·simp[forget,gp]
 ·intro i hi
  simp +contextual only[go_sem,Jf,Gg]
  refine ⟨fun h=>?_,fun h=>?_⟩
  ·have hlt:i < l.length:=by omega
   rw[JP (by simp; omega)]
   refine ⟨by omega,?_⟩
   simp +contextual only[go_sem]
   refine ⟨Jj,i+1,by omega,by omega,?_⟩
   have hs:(l.take (i+1)).foldl mx x=mx ((l.take i).foldl mx x) (l.getD i 0):=by
    rw[Gp hlt,G7,Gb,Gc hlt]; rfl
   rw[hs]
   simp[forget,mx]
  ·have:i=l.length:=by omega
   subst this
   rw[Gm]
def JaF (t:Tr):Bool:=(Km (Js t.nodes) []).any fun v=>decide (30 < v)
theorem mx_any (c:Int):∀ (l:List Int) (x:Int),c < l.foldl mx x↔(c < x∨(l.any fun v=>decide (c < v))=true)
 |[],x=>by simp
 |y::l,x=>by
  rw[GI,mx_any c l (mx x y),Ha,Bool.or_eq_true,decide_eq_true_eq,← or_assoc]
  refine or_congr ?_ Iff.rfl
  unfold mx
  split <;> omega
theorem YG {K:List (List Int)}{i:Nat}{ks:List Int}(h:K[i]? = some ks):Km (K.take (i+1)) []=Km (K.take i) []++[Jew (Km (K.take i) []) ks]:=by
 have hlt:=(Gh.1 h).1
 rw[Gp hlt,(Gh.1 h).2,Jd7]; rfl
theorem isDeep (t:Tr) (ht:t.Fit) {o:List Int}(ho:Jt (Js t.nodes) []=some o):Fn Ga 156 [t.cv] (.bool (JaF t)):=by
 have hmany:=ht.many
 refine Jb c156_ok rfl rfl fun N=>?_
 simp +contextual -implicitDefEqProofs only[c156,go_sem,Tr.cv,Tr.row]
 refine Q3 ?_
 simp only[go_sem,Jc]
 refine Jy (I:=fun i:Nat=>i≤t.nodes.length) (inv:=fun i=>gp [(3,KN 0 (iz (Km ((Js t.nodes).take i) []))),(6,.rslc 5 (ndz t.nodes) none),(0,.int .i64 t.nodes.length),(0,.int .i64 i)] 31)
  (hp:=fun i=>[Qi 1 (iz (Km ((Js t.nodes).take i) []))]) (μ:=fun i=>t.nodes.length-i) 0 [1] (by omega) rfl ?_ rfl ?_
 ·simp[forget,JA,ren,Jl,gp,Km,iz,KN]
 ·intro i hi
  have hdl:(Km ((Js t.nodes).take i) []).length=i:=by
   rw[Xi,GA]
   simp[Js]
   omega
  have hdk:=Jgs ((Js t.nodes).take i) [] (by intro v hv; simp at hv)
  by_cases hlt:i < t.nodes.length
  ·have hstep:=YG (JK hlt)
   have hbel:=QM ho (JK hlt)
   have hx:=ht.nodes _ (Gx hlt)
   rw[← rowg hlt]at hx
   have hln:=hdl
   clear hdl
   generalize Km ((Js t.nodes).take i) []=d at hstep hln hdk ⊢
   have d1:((i:Int) < (t.nodes.length:Int))=True:=Jo
   simp +contextual -implicitDefEqProofs only[go_sem,Jc,d1]
   rw[KQ hlt]
   generalize t.nodes.getD i default=x at hstep hbel hx ⊢
   refine ⟨by omega,by simp[Nd.cv],?_⟩
   simp +contextual -implicitDefEqProofs only[go_sem,Nd.cv,Jf]
   have hkn:=hx.kidn
   have hdr:∀ v∈d,1≤v∧v≤i:=fun v hv=>by have:=hdk v hv; omega
   refine JC (I:=fun j:Nat=>j≤x.kids.length) (inv:=fun j=>gp [(3,KN 0 (iz d)),(2,.int .i64 (Jew d (x.kids.take j))),(3,.rslc 5 (ndz t.nodes) none),(0,.int .i64 t.nodes.length),(0,.int .i64 i),(4,.rslc 1 (iz x.kids) none),(0,.int .i64 x.kids.length),(0,.int .i64 j)] 24)
    (hp:=fun _=>[Qi 1 (iz d),.arr 5 [x.cv]]) (μ:=fun j=>x.kids.length-j) 0 (by omega) ?_ rfl ?_
   ·simp[forget,gp,Jew]
   ·intro j hj
    by_cases hjl:j < x.kids.length
    ·have d2:((j:Int) < (x.kids.length:Int))=True:=Jo
     have hmem:x.kids.getD j 0∈x.kids:=by
      rw[Gb,Gc hjl]; exact Gx hjl
     have hb:=hbel _ hmem
     have hne:iz d≠[]:=by
      intro e
      have:=congrArg Gy e
      rw[Jf]at this
      simp at this
      rw[this]at hln; simp at hln; omega
     have hst:Jew d (x.kids.take (j+1))=mx (Jew d (x.kids.take j)) (d.getD (x.kids.getD j 0).toNat 0+1):=by
      have hgk:x.kids.getD j 0=x.kids[j]:=by rw[Gb,Gc hjl]; rfl
      unfold Jew
      rw[Gp hjl,G7,hgk]; rfl
     rw[QA hne,Qk hne]
     simp +contextual -implicitDefEqProofs only[go_sem,Jf,d2]
     rw[JP hjl]
     generalize x.kids.getD j 0=k at hb hst ⊢
     refine ⟨by omega,?_⟩
     simp +contextual -implicitDefEqProofs only[go_sem,Jf]
     rw[JP (by omega)]
     have hgr:=Jgd (m:=i) (fun v hv=>by have:=hdr v hv; omega) (by omega) k.toNat
     refine ⟨by omega,⟨by omega,by simp⟩,?_⟩
     simp +contextual -implicitDefEqProofs only[go_sem]
     refine ⟨Jj,Jj,j+1,by omega,by omega,?_⟩
     rw[hst]
     simp[forget,mx]
    ·have hje:j=x.kids.length:=by omega
     subst hje
     have d2:((x.kids.length:Int) < (x.kids.length:Int))=False:=Jn
     rw[Gm]
     have hor:=Jf0 (m:=i) hdr (by omega) x.kids 1 (by omega) (by omega)
     simp +contextual -implicitDefEqProofs only[go_sem,d2,Jr,Jf]
     refine ⟨⟨by omega,by omega⟩,Jj,i+1,[3],by omega,by omega,rfl,?_,?_⟩
     ·rw[hstep,Ka,JZ]
      simp only[Ke,Gj,GD,go_sem,Ji]
      rw[← Ka,Ja (Jd _)]
     ·rw[hstep,Ka,JY]
      simp[forget,JA,ren,Jl,Jf]
  ·have hie:i=t.nodes.length:=by omega
   subst hie
   have d1:((t.nodes.length:Int) < (t.nodes.length:Int))=False:=Jn
   have hB:JaF t=(Km ((Js t.nodes).take t.nodes.length) []).any fun v=>decide (30 < v):=by
    rw[JaF,Gu (by simp[Js])]
   rw[hB]
   generalize Km ((Js t.nodes).take t.nodes.length) []=d at hdl hdk ⊢
   have hdl2:d.length≤100000:=by omega
   cases d with
   |nil=>
    simp +contextual -implicitDefEqProofs only[go_sem,d1,iz,GD,Qu,Xc]
    rfl
   |cons y d=>
    have d3:((0:Int) < ((iz (y::d)).length:Nat))=True:=eq_true (by rw[Jf]; simp only[Gg]; omega)
    rw[QA (by simp[iz]),Qk (by simp[iz])]
    simp +contextual -implicitDefEqProofs only[go_sem,d1,d3]
    refine Je (id:=0) (z:=1) (els:=iz (y::d)) rfl (Jd _) ?_
    simp only[go_sem,JS,Ki,frz,KP,Gm]
    refine JV (gok rfl) (maxL y d (by simp at hdl2; omega)) ?_
    simp +contextual -implicitDefEqProofs only[go_sem]
    congr 1
    rw[Gi,decide_eq_true_eq,mx_any]
    simp
theorem indexN {f:Nat}{l1 l2:List CV}{F:IFunc}(l:List Nd) (q:Nd→Bool) (cap:Option Nat) (hF:Jg Ga f=some F) (hc1:Jv l1=true) (hc2:Jv l2=true)
  (hq:∀ p∈l,Fn Ga f (l1++[.agg p.cv]++l2) (.bool (q p))) (hlen:l.length≤100000):Fn Ga 205 [.rslc 5 (ndz l) cap,.fn f l1 l2] (.int .i64 (Q8 q l 0)):=by
 refine Jb c205_ok (by simp[Jv,CV.closed,hc1,hc2]) rfl fun N=>?_
 simp +contextual -implicitDefEqProofs only[c205,go_sem,Jc]
 refine JC (I:=fun i:Nat=>i≤l.length∧Q8 q l 0=Q8 q (l.drop i) i) (inv:=fun i=>gp [(0,.rslc 5 (ndz l) cap),(0,.fn f l1 l2),(5,.int .i64 l.length),(0,.int .i64 i)] 10) (hp:=fun _=>[]) (μ:=fun i=>l.length-i) 0 ?_ ?_ rfl ?_
 ·simp
 ·simp[forget,gp]
 ·rintro i ⟨hi,hinv⟩
  simp +contextual -implicitDefEqProofs only[go_sem,Jc]
  refine ⟨fun h=>?_,fun h=>?_⟩
  ·have hlt:i < l.length:=by omega
   obtain ⟨p,hp⟩:∃ p,l[i]? = some p:=⟨_,Gc hlt⟩
   rw[QS hp]at hinv
   rw[KQ hlt,show l.getD i default=p by rw[Gb,hp]; rfl]
   refine ⟨by omega,by simp[Nd.cv],?_⟩
   refine vr_fv (.inl rfl) rfl hF nm (hq p (Gv hp)) ?_
   simp only[go_sem]
   refine ⟨fun h2=>?_,fun h2=>?_⟩
   ·rw[hinv,if_pos h2]
   ·rw[h2]at hinv
    refine ⟨Jj,i+1,⟨by omega,by simpa using hinv⟩,by omega,?_⟩
    simp[forget]
  ·have:i=l.length:=by omega
   subst this
   rw[hinv]; simp[Q8]
theorem containsN {f:Nat}{l1 l2:List CV}{F:IFunc}(l:List Nd) (q:Nd→Bool) (cap:Option Nat) (hF:Jg Ga f=some F) (hc1:Jv l1=true) (hc2:Jv l2=true)
  (hq:∀ p∈l,Fn Ga f (l1++[.agg p.cv]++l2) (.bool (q p))) (hlen:l.length≤100000):Fn Ga 184 [.rslc 5 (ndz l) cap,.fn f l1 l2] (.bool (l.any q)):=by
 refine Jb c184_ok (by simp[Jv,CV.closed,hc1,hc2]) rfl fun N=>?_
 simp +contextual -implicitDefEqProofs only[c184,go_sem]
 refine JR (indexN l q cap hF hc1 hc2 hq hlen) ?_
 simp +contextual -implicitDefEqProofs only[go_sem,Ja5]
def ndI (l:List Nd) (x:Nd):Bool:=J3 (Jac x.text) x.k x.text x.n x.pl (lets l x)
theorem isFormN (t:Tr) (x:Nd) (hx:x.Fit) (hn:∀ y∈t.nodes,y.k < 256) (hk:∀ k∈x.kids,0≤k∧k < t.nodes.length):Fn Ga 177 [.agg x.cv,.rptr t.row] (.bool (!ndI t.nodes x)):=by
 have hl:(lets t.nodes x).length≤1000:=by rw[QK]; have:=hx.kidn; omega
 refine Jb c177_ok rfl rfl fun N=>?_
 simp +contextual -implicitDefEqProofs only[c177,go_sem,Tr.row,Nd.cv]
 refine JR (sortsL t x hx hn hk) ?_
 simp +contextual -implicitDefEqProofs only[go_sem]
 refine JR (fnSort x.k hx.k) ?_
 simp +contextual -implicitDefEqProofs only[go_sem]
 have hs1:((letter x.k:Int) == 32)=(letter x.k == 32):=by
  rw[Gi]; simp; omega
 rw[hs1]
 cases b1:(letter x.k == 32) with
 |true=>
  simp +contextual -implicitDefEqProofs only[go_sem]
  simp[ndI,J3,b1]
 |false=>
  simp +contextual -implicitDefEqProofs only[go_sem]
  refine JV (gok rfl) (expectedL x _ hl) ?_
  simp +contextual -implicitDefEqProofs only[go_sem]
  cases b2:(lets t.nodes x == Qc x.k (lets t.nodes x)) with
  |false=>
   simp +contextual -implicitDefEqProofs only[go_sem]
   simp[ndI,J3,b2]
  |true=>
   simp +contextual -implicitDefEqProofs only[go_sem]
   refine JV (gok rfl) (within 0 2500 x.pl) ?_
   simp +contextual -implicitDefEqProofs only[go_sem]
   cases b3:inI 0 2500 x.pl with
   |false=>
    simp +contextual -implicitDefEqProofs only[go_sem]
    simp[ndI,J3,b3]
   |true=>
    simp +contextual -implicitDefEqProofs only[go_sem]
    refine JV (gok rfl) (fieldsL x _ (Jac x.text) (isNameW x.text (by have:=hx.text; omega))) ?_
    simp +contextual -implicitDefEqProofs only[go_sem]
    cases b4:fldI (Jac x.text) x.k x.text x.n (lets t.nodes x) with
    |false=>
     simp +contextual -implicitDefEqProofs only[go_sem]
     unfold fldI at b4
     simp[ndI,J3,b4]
    |true=>
     simp +contextual -implicitDefEqProofs only[go_sem]
     refine JV (gok rfl) (sizedL x _) ?_
     simp +contextual -implicitDefEqProofs only[go_sem]
     unfold fldI at b4
     simp[ndI,J3,b1,b2,b3,b4]
theorem isFormS (t:Tr) (ht:t.Fit) {o:List Int}(h:Jt (Js t.nodes) []=some o):Fn Ga 155 [t.cv] (.bool (Yl o (fun i=>Jq t.nodes i == 65) t.nodes.length t.items 0 && t.nodes.all (ndI t.nodes))):=by
 have hl:=Qn _ _ _ h
 simp[Js]at hl
 refine Jb c155_ok rfl rfl fun N=>?_
 simp +contextual only[c155,go_sem,Tr.cv,Tr.row]
 refine Je (id:=0) (z:=2) (els:=[t.row]) rfl rfl ?_
 simp only[go_sem,JS,Ki,frz,KP]
 simp +contextual only[go_sem,Tr.row]
 refine JR (firstsS t ht h) ?_
 simp +contextual only[go_sem,Tr.row]
 refine JV (gok rfl) (areItems t ht o (Qh _ _ _ QG.nil h) hl) ?_
 simp +contextual only[go_sem]
 cases b1:Yl o (fun i=>Jq t.nodes i == 65) t.nodes.length t.items 0 with
 |false=>simp +contextual only[go_sem]
 |true=>
  simp +contextual only[go_sem,Tr.row]
  refine JR (containsN t.nodes (fun x=>!ndI t.nodes x) none c177_ok rfl rfl (fun x hx=>?_) (by have:=ht.many; omega)) ?_
  ·obtain ⟨j,hj⟩:=GY hx
   have hjl:=(Gh.1 hj).1
   have hkj:(Js t.nodes)[j]? = some x.kids:=by simp[Js,hj]
   exact isFormN t x (ht.nodes x hx) (fun y hy=>(ht.nodes y hy).k) (fun k hk=>by have:=QM h hkj k hk; omega)
  ·simp +contextual only[go_sem]
   congr 1
   rw[Gi]
   simp
theorem isFormN0 (t:Tr) (ht:t.Fit) (h:Jt (Js t.nodes) []=none):Fn Ga 155 [t.cv] (.bool false):=by
 refine Jb c155_ok rfl rfl fun N=>?_
 simp +contextual only[c155,go_sem,Tr.cv,Tr.row]
 refine JR (firstsN t ht h) ?_
 simp +contextual only[go_sem]
def frm (t:Tr):Bool:=match Jt (Js t.nodes) []with
 |some o=>Yl o (fun i=>Jq t.nodes i == 65) t.nodes.length t.items 0 && t.nodes.all (ndI t.nodes)
 |none=>false
theorem isForm (t:Tr) (ht:t.Fit):Fn Ga 155 [t.cv] (.bool (frm t)):=by
 unfold frm
 cases h:Jt (Js t.nodes) []with
 |none=>exact isFormN0 t ht h
 |some o=>exact isFormS t ht h
def chk (t:Tr):Int:=if 700 < t.nodes.length∨20 < t.items.length then 5 else if frm t=true then (if JaF t=true then 5 else 0) else 4
theorem frm_some {t:Tr}(h:frm t=true):∃ o,Jt (Js t.nodes) []=some o:=by
 unfold frm at h
 cases ho:Jt (Js t.nodes) []with
 |none=>rw[ho]at h; cases h
 |some o=>exact ⟨o,rfl⟩
theorem parseCheck (t:Tr) (ht:t.Fit):Fn Ga 125 [t.cv] (.int .i64 (chk t)):=by
 refine Jb c125_ok rfl rfl fun N=>?_
 simp +contextual -implicitDefEqProofs only[c125,go_sem,Tr.cv,Tr.row]
 refine Je (id:=0) (z:=2) (els:=[t.row]) rfl rfl ?_
 simp only[go_sem,JS,Ki,frz,KP]
 refine JR (isGreat t) ?_
 by_cases h1:700 < t.nodes.length∨20 < t.items.length
 ·have hc:chk t=5:=by unfold chk; rw[if_pos h1]
  rw[decide_eq_true h1,hc]
  simp +contextual -implicitDefEqProofs only[go_sem]
 ·rw[decide_eq_false h1]
  simp +contextual -implicitDefEqProofs only[go_sem,Tr.row]
  refine JR (isForm t ht) ?_
  cases h2:frm t with
  |false=>
   have hc:chk t=4:=by unfold chk; rw[if_neg h1,if_neg (by rw[h2]; simp)]
   rw[hc]
   simp +contextual -implicitDefEqProofs only[go_sem]
  |true=>
   obtain ⟨o,ho⟩:=frm_some h2
   have hc:chk t=if JaF t=true then 5 else 0:=by unfold chk; rw[if_neg h1,if_pos h2]
   rw[hc]
   simp +contextual -implicitDefEqProofs only[go_sem,Tr.row]
   refine JR (isDeep t ht ho) ?_
   cases h3:JaF t with
   |false=>simp +contextual -implicitDefEqProofs only[go_sem]
   |true=>simp +contextual -implicitDefEqProofs only[go_sem]
end Go.Cm
end
section
open Go.Proofs
namespace Go.Cm
theorem Jfl {K:List (List Int)}{o:List Int}(hl:o.length=K.length) (h:∀ (j:Nat) ks,K[j]? = some ks→∃ f,o[j]? = some f∧Qd o ks.reverse ((j:Int)-1)=some (f-1)):Jt K []=some o:=by
 have key:∀ i,i≤K.length→Jt (K.take i) []=some (o.take i):=by
  intro i
  induction i with
  |zero=>intro _; simp[Jt]
  |succ i ih=>
   intro hi
   have h1:=ih (by omega)
   obtain ⟨ks,hk⟩:∃ ks,K[i]? = some ks:=⟨_,Gc (by omega)⟩
   obtain ⟨f,hf,hb⟩:=h i ks hk
   have hs:=(JaA h1 hk).1
   have ho:=Qh _ _ _ QG.nil h1
   have hil:(o.take i).length=i:=by rw[GA]; omega
   have hb2:Qd (o.take i) ks.reverse ((i:Int)-1)=some (f-1):=by
    rw[← Ja8 (t:=o.drop i) ho ks.reverse _ (by rw[hil]; omega),Gz]; exact hb
   have hst:Jci (o.take i) ks=some f:=by
    unfold Jci; rw[hil,hb2]; simp
   rw[hs,hst,G6,hf]; rfl
 have:=key K.length (Gl _)
 rw[Gm,← hl,Gm]at this
 exact this
theorem Jej {out out':List Int}{d:Int}(hd:0≤d):∀ (ks:List Int) (a:Int),(∀ k∈ks,d≤k∧out'.getD (k + -d).toNat 0=out.getD k.toNat 0 + -d)→Qd out' (ks.map (· + -d)) (a + -d)=(Qd out ks a).map (· + -d)
 |[],a,_=>rfl
 |k::ks,a,h=>by
  obtain ⟨h1,h2⟩:=h k (by simp)
  simp only[Gj,Qd]
  by_cases hc:a < 0∨k≠a
  ·rw[if_pos hc,if_pos (by omega)]; rfl
  ·rw[if_neg hc,if_neg (by omega),h2,show out.getD k.toNat 0 + -d-1=(out.getD k.toNat 0-1) + -d by omega]
   exact Jej hd ks _ fun x hx=>h x (by simp[hx])
theorem getD_seg {l:List Int}{d m:Nat}{e:Int}{k:Int}(h1:d≤k) (h2:k < m) (h3:m≤l.length):(((l.take m).drop d).map (· + e)).getD (k + -(d:Int)).toNat 0=l.getD k.toNat 0+e:=by
 have h4:(k + -(d:Int)).toNat=k.toNat-d:=by omega
 have h5:k.toNat < l.length:=by omega
 rw[h4,Gb,Gr,Gq,Gw,if_pos (by omega),show d+(k.toNat-d)=k.toNat by omega,Gb,Gc h5]
 rfl
section
variable {K:List (List Int)}{o:List Int}(t:Ordd K o) {d m:Nat}(hdm:d≤m) (hm:m≤K.length) (hin:∀ j:Nat,d≤j→j < m→(d:Int)≤fs o j)
include t hin
theorem JfK {j:Nat}(h1:d≤j) (h2:j < m) {ks:List Int}(hj:K[j]? = some ks) {k:Int}(hk:k∈ks):(d:Int)≤k∧k < j:=by
 have:=t.kid_rng hj hk
 have hlt:=(Gh.1 hj).1
 have h3:=t.rng (j:=k) (by omega) (by omega)
 have:=hin j h1 h2
 omega
include hm
theorem seg_firsts:Jt (((K.take m).drop d).map fun ks=>ks.map (· + -(d:Int))) []=some (((o.take m).drop d).map (· + -(d:Int))):=by
 have hol:=t.len
 refine Jfl (by simp[hol]) fun j ks hj=>?_
 rw[Gr,Gq,Gw]at hj
 by_cases hlt:d+j < m
 ·rw[if_pos hlt]at hj
  obtain ⟨ks0,hk0,rfl⟩:∃ ks0,K[d+j]? = some ks0∧ks0.map (· + -(d:Int))=ks:=by
   cases h:K[d+j]? with
   |none=>rw[h]at hj; simp at hj
   |some x=>rw[h]at hj; exact ⟨x,rfl,by simpa using hj⟩
  obtain ⟨f,hf,hb⟩:=Q0 t.h hk0
  refine ⟨f + -(d:Int),?_,?_⟩
  ·rw[Gr,Gq,Gw,if_pos hlt,hf]; rfl
  ·have:=Jej (out:=o) (out':=((o.take m).drop d).map (· + -(d:Int))) (d:=d) (by omega) ks0.reverse (((d+j:Nat):Int)-1) (fun k hk=>by
    have hr:=JfK t hin (GN d j) hlt hk0 (List.mem_reverse.1 hk)
    exact ⟨hr.1,getD_seg hr.1 (by omega) (by omega)⟩)
   rw[hb,List.map_reverse,show ((d+j:Nat):Int)-1 + -(d:Int)=(j:Int)-1 by omega]at this
   rw[this]
   simp only[He]
   congr 1; omega
 ·rw[if_neg hlt]at hj; simp at hj
end
theorem deepF_pre:∀ (K:List (List Int)) (d:List Int),∃ t,Km K d=d++t
 |[],d=>⟨[],by simp[Km]⟩
 |ks::K,d=>by
  obtain ⟨t,ht⟩:=deepF_pre K (d++[Jew d ks])
  exact ⟨_,by rw[Km,ht,List.append_assoc]⟩
theorem YF {K:List (List Int)}{m:Nat}(hm:m≤K.length):Km (K.take m) []=(Km K []).take m:=by
 have h:=Jd7 (K.take m) (K.drop m) []
 rw[Gz]at h
 obtain ⟨t,ht⟩:=deepF_pre (K.drop m) (Km (K.take m) [])
 have hl:=Xi (K.take m) []
 simp only[Gf,GG,GA]at hl
 have hl2:(Km (K.take m) []).length=m:=by rw[hl]; exact Hf hm
 rw[h,ht,List.take_left' hl2]
theorem Je1 {D D':List Int}{e:Int}(ks:List Int) (h:∀ k∈ks,D'.getD (k+e).toNat 0=D.getD k.toNat 0):Jew D' (ks.map (· + e))=Jew D ks:=by
 unfold Jew
 have key:∀ (l:List Int) (a:Int),(∀ k∈l,D'.getD (k+e).toNat 0=D.getD k.toNat 0)→(l.map (· + e)).foldl (fun a k=>mx a (D'.getD k.toNat 0+1)) a=l.foldl (fun a k=>mx a (D.getD k.toNat 0+1)) a:=by
  intro l
  induction l with
  |nil=>intro a _; rfl
  |cons k l ih=>
   intro a h
   rw[Gj,GI,GI,h k (by simp)]
   exact ih _ fun x hx=>h x (by simp[hx])
 exact key ks 1 h
theorem seg_deep {K:List (List Int)}{o:List Int}(t:Ordd K o) {d m:Nat}(hdm:d≤m) (hm:m≤K.length) (hin:∀ j:Nat,d≤j→j < m→(d:Int)≤fs o j):Km (((K.take m).drop d).map fun ks=>ks.map (· + -(d:Int))) []=((Km K []).take m).drop d:=by
 have hDl:=Xi K []
 simp only[Gf,GG]at hDl
 generalize hK':(((K.take m).drop d).map fun ks=>ks.map (· + -(d:Int)))=K'
 have hl':K'.length=m-d:=by rw[← hK']; simp; omega
 have key:∀ i,i≤m-d→Km (K'.take i) []=((Km K []).take (d+i)).drop d:=by
  intro i
  induction i with
  |zero=>intro _; simp[Km]
  |succ i ih=>
   intro hi
   obtain ⟨ks0,hk0⟩:∃ ks0,K[d+i]? = some ks0:=⟨_,Gc (by omega)⟩
   have hk:K'[i]? = some (ks0.map (· + -(d:Int))):=by
    rw[← hK',Gr,Gq,Gw,if_pos (by omega),hk0]; rfl
   rw[YG hk,ih (by omega),← Nat.add_assoc]
   have h2:=YG hk0
   rw[YF (by omega),YF (by omega)]at h2
   rw[h2,List.drop_append_of_le_length (by rw[GA]; omega)]
   congr 2
   refine Je1 ks0 fun k hk=>?_
   have hr:=JfK t hin (GN d i) (by omega) hk0 hk
   have h4:(k + -(d:Int)).toNat=k.toNat-d:=by omega
   rw[h4,Gb,Gb,Gq,show d+(k.toNat-d)=k.toNat by omega]
 have:=key (m-d) (Gl _)
 rw[Gu (by omega),show d+(m-d)=m by omega]at this
 exact this
def mvN (d:Int) (x:Nd):Nd:={ x with kids:=x.kids.map (· + d) }
def segN (l:List Nd) (d m:Nat):List Nd:=((l.take m).drop d).map (mvN (-(d:Int)))
theorem segN_len {l:List Nd}{d m:Nat}(hm:m≤l.length):(segN l d m).length=m-d:=by simp[segN]; omega
theorem segN_get {l:List Nd}{d m j:Nat}(h:d+j < m) (hm:m≤l.length):(segN l d m)[j]? = some (mvN (-(d:Int)) (l.getD (d+j) default)):=by
 rw[segN,Gr,Gq,Gw,if_pos h,Gb,Gc (by omega)]; rfl
theorem segN_kids {l:List Nd}{d m:Nat}:Js (segN l d m)=(((Js l).take m).drop d).map fun ks=>ks.map (· + -(d:Int)):=by
 simp only[Js,segN,GL,List.map_take,List.map_drop]
 rfl
theorem segN_kind {l:List Nd}{d m:Nat}{k:Int}(h1:d≤k) (h2:k < m) (hm:m≤l.length):Jq (segN l d m) (k + -(d:Int))=Jq l k:=by
 have h4:(k + -(d:Int)).toNat=k.toNat-d:=by omega
 unfold Jq
 rw[h4,Gb,segN_get (by omega) hm,show d+(k.toNat-d)=k.toNat by omega]; rfl
structure GoodT (t:Tr) (o:List Int):Prop where
 many:t.nodes.length≤700
 items:t.items.length≤20
 ord:Ordd (Js t.nodes) o
 its:chain o t.nodes.length 0 t.items t.nodes.length
 defs:∀ i∈t.items,Jq t.nodes i=65
 nds:∀ x∈t.nodes,ndI t.nodes x=true
 deep:∀ v∈Km (Js t.nodes) [],v≤30
theorem Ko {l:List Nd}:(Js l).length=l.length:=by simp[Js]
theorem Jb8 (t:Tr):chk t=0↔∃ o,GoodT t o:=by
 constructor
 ·intro h
  unfold chk at h
  split at h
  ·simp at h
  ·rename_i h1
   split at h
   ·rename_i h2
    split at h
    ·simp at h
    ·rename_i h3
     obtain ⟨o,ho⟩:=frm_some h2
     unfold frm at h2
     rw[ho]at h2
     simp only[Gs,G9]at h2
     have hok:=Qh _ _ _ QG.nil ho
     have hol:=Qn _ _ _ ho
     simp only[Gf,GG,Ko]at hol
     obtain ⟨c1,c2⟩:=(XG hok hol t.items 0 (by omega)).1 h2.1
     refine ⟨o,⟨by omega,by omega,⟨ho⟩,c1,fun i hi=>by simpa using c2 i hi,h2.2,fun v hv=>?_⟩⟩
     by_cases hv2:v≤30
     ·exact hv2
     ·refine absurd ?_ h3
      unfold JaF
      rw[G8]
      exact ⟨v,hv,by simpa using Int.not_le.1 hv2⟩
   ·simp at h
 ·rintro ⟨o,g⟩
  have h1:=g.many
  have h2:=g.items
  unfold chk
  rw[if_neg (by omega),if_pos,if_neg]
  ·unfold JaF
   rw[G8]
   rintro ⟨v,hv,hd⟩
   have:=g.deep v hv
   simp only[decide_eq_true_eq]at hd
   omega
  ·unfold frm
   rw[g.ord.h]
   have hol:=g.ord.len
   rw[Ko]at hol
   simp only[Gs,G9]
   refine ⟨(XG g.ord.ok hol t.items 0 (by omega)).2 ⟨g.its,fun i hi=>by simpa using g.defs i hi⟩,g.nds⟩
namespace GoodT
variable {t:Tr}{o:List Int}(g:GoodT t o)
include g
theorem olen:o.length=t.nodes.length:=by rw[g.ord.len,Ko]
theorem kid {j:Nat}(hj:j < t.nodes.length) {k:Int}(hk:k∈(t.nodes.getD j default).kids):0≤k∧k < j:=by
 have:=g.ord.kid_rng (JK hj) hk
 omega
theorem seg {d m:Nat}(hdm:d≤m) (hm:m≤t.nodes.length) (hin:∀ j:Nat,d≤j→j < m→(d:Int)≤fs o j) (its:List Int) (h1:its.length≤20)
  (h2:chain (((o.take m).drop d).map (· + -(d:Int))) (m-d) 0 its (m-d:Nat)) (h3:∀ i∈its,Jq (segN t.nodes d m) i=65):GoodT ⟨segN t.nodes d m,its⟩ (((o.take m).drop d).map (· + -(d:Int))):=by
 have hmK:m≤(Js t.nodes).length:=by rw[Ko]; exact hm
 have hl:=segN_len (d:=d) hm
 have hmany:=g.many
 refine ⟨by simp only[hl]; omega,h1,⟨?_⟩,by simp only[hl]; exact h2,h3,?_,?_⟩
 ·simp only[segN_kids]
  exact seg_firsts g.ord hmK hin
 ·intro x hx
  obtain ⟨j,hj⟩:=GY hx
  simp only at hj hx
  have hjl:j < m-d:=by
   have:=(Gh.1 hj).1
   omega
  rw[segN_get (by omega) hm,Option.some.injEq]at hj
  subst hj
  have hlt:d+j < t.nodes.length:=by omega
  have hn:=g.nds (t.nodes.getD (d+j) default) (by rw[Gb,Gc hlt]; exact Gx hlt)
  have hlets:lets (segN t.nodes d m) (mvN (-(d:Int)) (t.nodes.getD (d+j) default))=lets t.nodes (t.nodes.getD (d+j) default):=by
   unfold lets mvN
   simp only[GL]
   refine List.map_congr_left fun k hk=>?_
   have hr:=JfK g.ord hin (GN d j) (by omega) (JK hlt) hk
   simp only[Function.comp_apply]
   rw[segN_kind hr.1 (by omega) hm]
  unfold ndI at hn ⊢
  simp only at hn ⊢
  rw[hlets]
  exact hn
 ·intro v hv
  simp only[segN_kids]at hv
  rw[seg_deep g.ord hdm hmK hin]at hv
  exact g.deep v (List.mem_of_mem_take (List.mem_of_mem_drop hv))
end GoodT
end Go.Cm
end
end
