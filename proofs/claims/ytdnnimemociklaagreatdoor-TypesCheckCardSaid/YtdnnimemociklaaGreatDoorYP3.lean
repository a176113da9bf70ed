/-
  A part of the proof. Conditions: none.
-/
import Derived.Test.YtdnnimemociklaaGreatDoorYA6
import Derived.Test.YtdnnimemociklaaGreatDoorYI3
import Derived.Test.YtdnnimemociklaaGreatDoorYS1
import Derived.BigCall
import Derived.Shelf.Strings.Builder1
import Derived.Lib.Join
import Derived.Lib.ItoaLen
set_option linter.unusedSimpArgs false
set_option linter.unusedVariables false
open Go.Proofs.Tryz renaming prog->Ga
open Bool renaming and_eq_true->Gi,eq_iff_iff->Gj,eq_false_or_eq_true->Gt,or_eq_false_iff->GD,true_and->GG,not_false->GN,false_and->GQ,true_or->GR,and_eq_false_iff->G9,not_true->GY,not_eq_true'->Ha,or_false->Hd,false_eq_true->Hz,not_eq_true->HV,or_eq_true->HY,false_or->HZ
open Int renaming cast_ofNat_Int->Gd,toNat_natCast->GK,add_zero->H5
open List renaming getD_eq_getElem?_getD->Gc,getElem?_eq_getElem->Gb,getElem?_eq_some_iff->Gl,drop_eq_getElem_cons->Gp,take_succ_eq_append_getElem->Gu,getElem_mem->Gg,take_length->Gn,map_cons->Gh,drop_eq_nil_of_le->Gw,length_cons->Gr,mem_of_getElem?->Gx,take_of_length_le->Gy,length_nil->Gs,map_nil->Gq,length_take->Gz,all_eq_true->GA,getElem?_map->GH,mem_singleton->GL,take_append_drop->GU,getElem?_append_left->GZ,mem_cons->GI,drop_zero->GM,cons_append->GV,length->GJ,getElem?_append_right->He,mem_append->G5,replicate->G6,takeWhile_cons->Hf,length_pos_iff->Hg,foldl_append->Hl,any_eq_true->Hm,nil_append->Ho,foldl_cons->Hq,prefix_iff_eq_take->H6,all_cons->Hr,takeWhile_prefix->H7,mem_of_mem_take->H8,getElem?_of_mem->H9,count_le_length->La,contains_eq_mem->Lb,getElem?_take->Lc,getElem?_drop->Ld,contains_cons->Le,all_takeWhile->Lf,take_add_one->Lg,range->Ht,append_assoc->Lh,any_eq_false->Li,all_eq_false->Lj,length_drop->Ll,drop_length->Lm,length_map->Lp,count_cons->Lr,mem_range->Ls,drop_take->Lt,map_take->vX,map_drop->vY,any_cons->vZ,mem_map->vv,map_map->vw,all_map->vW
open Option renaming getD_some->GX,bind_some->Hu,map_some->vV
open Nat renaming le_refl->Gf,le_of_lt->Gm,zero_add->Gv,lt_or_ge->G7,add_sub_cancel_left->vU,le_trans->Hw,min_eq_left->vz
open Option.some renaming injEq->Hy
open Prod.mk renaming injEq->G8
noncomputable section
section
open Go.Proofs
namespace Go.Cm
variable {a f i:Nat}{α:Type}{l:LA}{q:UInt8->Bool}
theorem nm:(Ga.funcs[f]?.map (·.name))≠some "runtime.NumGoroutine" :=Jcz pNames f
def isLt (c:UInt8):Bool:=decide (97<=c.toNat) && decide (c.toNat<=122)
def isBk (c:UInt8):Bool:=c == 32 || c == 10
def isGp (c:UInt8):Bool:=isBk c || c == 126
theorem dle (a:Nat)(c:UInt8):decide ((a:Int)<=(c.toNat:Int))=decide (a<=c.toNat):=decide_eq_decide.2 om
theorem dge (a:Nat)(c:UInt8):decide ((c.toNat:Int)<=(a:Int))=decide (c.toNat<=a):=decide_eq_decide.2 om
theorem deq (a:Nat)(ha:a<256)(c:UInt8):((c.toNat:Int) == (a:Int))=(c == UInt8.ofNat a):=by
 rw[Gj];simp only[beq_iff_eq]
 constructor
 ·intro h;apply UInt8.toNat_inj.1;simp;omega
 ·intro h;rw[h];simp;omega
theorem Je3 (c:UInt8):Fn Ga 265 [.int .u8 c.toNat] (.bool (isLt c)):=by
 refine Jb c265_ok rfl rfl λN=>?_
 have h1:=dle 97 c;have h2:=dge 122 c;simp only[Gd]at h1 h2;simp +contextual only[c265,go_sem,h1,h2,isLt]
theorem Jdp (c:UInt8):Fn Ga 267 [.int .u8 c.toNat] (.bool (Xy c)):=by
 refine Jb c267_ok rfl rfl λN=>?_
 have h1:=dle 48 c;have h2:=dge 57 c;simp only[Gd]at h1 h2;simp +contextual only[c267,go_sem,h1,h2,Xy]
theorem lexIsBlank (c:UInt8):Fn Ga 264 [.int .u8 c.toNat] (.bool (isBk c)):=by
 refine Jb c264_ok rfl rfl λN=>?_
 have h1:=deq 32 vk c;have h2:=deq 10 vk c;simp only[Gd]at h1 h2;simp +contextual only[c264,go_sem,h1,h2];show ((c == 32)=false->CV.bool (c == 10)=CV.bool ((c == 32) || (c == 10)))/\((c == 32)=true->CV.bool true=CV.bool ((c == 32) || (c == 10)))
 cases (c == 32) <;> simp
theorem lexIsGap (c:UInt8):Fn Ga 252 [.int .u8 c.toNat] (.bool (isGp c)):=by
 refine Jb c252_ok rfl rfl λN=>?_
 have h1:=deq 126 vk c;simp only[Gd]at h1;simp +contextual only[c252,go_sem];refine JU (lexIsBlank c) ?_;simp +contextual only[go_sem,h1]
 cases h:isBk c with
 |true=>simp[isGp,h]
 |false=>simp[isGp,h]
def XG {α:Type}(q:α->Bool):List α->Nat->Int
 |[],_=>-1
 |p::l,i=>if q p then i else XG q l (i+1)
theorem Xd{q:α->Bool}{l:List α}{p:α}(h:l[i]? = some p):XG q (l.drop i) i=if q p then(i:Int) else XG q (l.drop (i+1)) (i+1):=by have Ab:=(Gl.1 h).1;have hp:=(Gl.1 h).2;rw[Gp Ab,hp];rfl
theorem fixA_neg{q:α->Bool}:∀(l:List α) (i:Nat),XG q l i<0↔l.any q=false
 |[],_=>by simp[XG]
 |p::l,i=>by
  have:=fixA_neg (q:=q) l (i+1);simp only[XG,vZ,GD];by_cases h:q p=true
  ·simp only[h,if_true,Bool.true_eq_false,false_and,iff_false];omega
  ·have h':q p=false:=by simpa using h
   rw[if_neg h,this];simp[h']
theorem Jaa{q:α->Bool}(l:List α):decide (0<=XG q l 0)=l.any q:=by
 have h:=fixA_neg (q:=q) l 0
 cases h2:l.any q with
 |true=>rw[decide_eq_true_eq];rw[h2]at h;simp at h;exact h
 |false=>rw[decide_eq_false_iff_not];have:=h.2 h2;omega
structure FnQ where
 f:Nat
 q:UInt8->Bool
def JhP (p:FnQ):Prop:=(∃F,Jd Ga p.f=some F)/\∀c:UInt8,Fn Ga p.f [.int .u8 c.toNat] (.bool (p.q c))
def qLt:FnQ:=⟨265,isLt⟩
def qDg:FnQ:=⟨267,Xy⟩
theorem qLt_ok:JhP qLt:=⟨⟨_,c265_ok⟩,Je3⟩
theorem qDg_ok:JhP qDg:=⟨⟨_,c267_ok⟩,Jdp⟩
def fnz (l:List FnQ):LQ:=l.map λp=>[.fn p.f [] []]
theorem fnz_len {l:List FnQ}:(fnz l).length=l.length:=by simp[fnz]
theorem fnz_get {l:List FnQ}{p:FnQ}(h:l[i]? = some p):(fnz l).getD i []=[.fn p.f [] []]:=by simp[fnz,Gc,h]
section
variable {E:Env}{H:Lv}{id:Nat}{at_:Nat}
theorem run1 (hH:H[id]? = some (.arr 1 [[.int .i64 (at_:Int)]]))(Ab:at_<l.length)(p:FnQ)(hp:JhP p):Pure Ga E 274 [.fn p.f [] [],.rptr [S l],.ptr id 0 0] H (.bool (p.q (l.getD at_ 0))):=by
 obtain⟨⟨F,hF⟩,hq⟩:=hp;refine Ki c274_ok λN=>?_
 simp +contextual only[c274,go_sem,hH];refine⟨⟨om,om⟩,?_⟩;refine vr_fv (.inl rfl) rfl hF nm (hq _) ?_;simp +contextual only[go_sem]
theorem vr_pcallv {P:Program}{n0:Nat}{N:Fr}{Q:Exit->Lu->Lv->Prop}{T:Lu}{k:LM}{d:Option Nat}{g:Option (Nat×Bool)}{x:IArg}{l1 l2:Lu}{xs:LP}{l:LD}{v:CV}{F:IFunc}(hg:GOk T g) (hx:Kg T x=.fn f l1 l2) (hF:Jd P f=some F) (EY:(P.funcs[f]?.map (·.name))≠some "runtime.NumGoroutine")
  (Ah:Pure P E f (l1++xs.map (Kg T)++l2) H v) (h:KD P E n0 N Q (.ops l::k) (put T d v) H):Ok P E n0 N Q (.ops (⟨d,.callv x xs,g⟩::l)::k) T H:=by
 have Bq:∃fn,P.funcs[f]? = some fn/\fn.body.isSome=true:=by
  unfold Jd at hF
  split at hF
  ·rename_i fn Bq
   split at hF
   ·rename_i c hb;exact⟨fn,Bq,by rw[hb];rfl⟩
   ·cases hF
  ·cases hF
 obtain⟨fn,Bq,DI⟩:=Bq;exact Jhx hg hx Bq DI (λe=>EY (by rw[Bq,<-e];rfl)) Ah λv' H' ⟨h1,h2⟩=>by rw[h1,h2];exact JD _ _ _ h
theorem indexF (hH:H[id]? = some (.arr 1 [[.int .i64 (at_:Int)]]))(Ab:at_<l.length)(fs:List FnQ)(cap:Option Nat)(En:∀p∈fs,JhP p)(hl:fs.length<=1000) :
  Pure Ga E 282 [.rslc 1 (fnz fs) cap,.fn 274 [] [.rptr [S l],.ptr id 0 0]] H (.int .i64 (XG (λp=>p.q (l.getD at_ 0)) fs 0)):=by
 generalize hQ:(λp:FnQ=>p.q (l.getD at_ 0))=q;refine Ki c282_ok λN=>?_
 simp +contextual only[c282,go_sem,fnz_len];refine JL (I:=λi:Nat=>i<=fs.length/\XG q fs 0=XG q (fs.drop i) i) (inv:=λi=>gp [(0,.rslc 1 (fnz fs) cap),(0,.fn 274 [] [.rptr [S l],.ptr id 0 0]),(5,.int .i64 fs.length),(0,.int .i64 i)] 10) (hp:=λ_=>H) (μ:=λi=>fs.length-i) 0 ?_ ?_ rfl ?_
 ·simp
 ·simp[forget,gp]
 ·rintro i ⟨hi,Aa⟩;simp +contextual only[go_sem,fnz_len];refine⟨λh=>?_,λh=>?_⟩
  ·have Ei:i<fs.length:=om;obtain⟨p,hp⟩:∃p,fs[i]? = some p:=⟨_,Gb Ei⟩;rw[Xd hp]at Aa;rw[fnz_get hp];refine anO ?_;simp +contextual only[go_sem];refine vr_pcallv (.inl rfl) rfl c274_ok nm (run1 hH Ab p (En p (Gx hp))) ?_;have IG:p.q (l.getD at_ 0)=q p:=by rw[<-hQ]
   rw[IG];simp only[go_sem];refine⟨λh2=>?_,λh2=>?_⟩
   ·rw[Aa,if_pos h2]
   ·rw[h2]at Aa;refine⟨Jg,i+1,⟨om,by simpa using Aa⟩,om,?_⟩;simp[forget]
  ·have:i=fs.length:=om;subst this;rw[Aa];simp[XG]
theorem containsF (hH:H[id]? = some (.arr 1 [[.int .i64 (at_:Int)]]))(Ab:at_<l.length)(fs:List FnQ)(cap:Option Nat)(En:∀p∈fs,JhP p)(hl:fs.length<=1000) :
  Pure Ga E 278 [.rslc 1 (fnz fs) cap,.fn 274 [] [.rptr [S l],.ptr id 0 0]] H (.bool (fs.any λp=>p.q (l.getD at_ 0))):=by
 refine Ki c278_ok λN=>?_
 simp +contextual only[c278,go_sem];refine JaZ (indexF hH Ab fs cap En hl) ?_;simp +contextual only[go_sem,Jaa]
theorem noneF (hH:H[id]? = some (.arr 1 [[.int .i64 (at_:Int)]]))(Ab:at_<l.length)(fs:List FnQ)(cap:Option Nat)(En:∀p∈fs,JhP p)(hl:fs.length<=1000) :
  Pure Ga E 273 [.rslc 1 (fnz fs) cap,.fn 274 [] [.rptr [S l],.ptr id 0 0]] H (.bool (!fs.any λp=>p.q (l.getD at_ 0))):=by
 refine Ki c273_ok λN=>?_
 simp +contextual only[c273,go_sem];refine JaZ (containsF hH Ab fs cap En hl) ?_;simp +contextual only[go_sem]
end
def Xl (q:UInt8->Bool)(l:LA)(a:Nat):Nat:=a+((l.drop a).takeWhile q).length
theorem Jad(h:a<=l.length):Xl q l a<=l.length:=by unfold Xl;have:=(List.takeWhile_sublist (l:=l.drop a) q).length_le;simp at this;omega
theorem runE_end(h:l.length<=a):Xl q l a=a:=by unfold Xl;rw[Gw h];rfl
theorem Jd0(h:a<l.length)(hq:q (l.getD a 0)=true):Xl q l a=Xl q l (a+1):=by unfold Xl;rw[Gc,Gb h]at hq;simp only[GX]at hq;rw[Gp h,Hf,if_pos hq];simp;omega
theorem JeD(h:a<l.length)(hq:q (l.getD a 0)=false):Xl q l a=a:=by unfold Xl;rw[Gc,Gb h]at hq;simp only[GX]at hq;rw[Gp h,Hf,hq];simp
theorem lexRun (l:LA)(a:Nat)(fs:List FnQ)(cap:Option Nat)(En:∀p∈fs,JhP p)(hl:fs.length<=1000)(Cu:l.length<=1000000)(ha:a<=l.length) :
  Fn Ga 266 [S l,.int .i64 (a:Int),.rslc 1 (fnz fs) cap] (.int .i64 (Xl (λc=>fs.any λp=>p.q c) l a:Nat)):=by
 generalize hQ:(λc=>fs.any λp:FnQ=>p.q c)=q;refine Jb c266_ok rfl rfl λN=>?_
 simp +contextual only[c266,go_sem];refine Je (id:=0) (z:=1) (els:=[[S l]]) rfl rfl ?_;simp only[go_sem,JK,KC,frz,Kn];refine JL (I:=λi:Nat=>i<=l.length/\Xl q l a=Xl q l i) (inv:=λi=>gp [(2,.rslc 1 (fnz fs) cap),(0,.rptr [S l]),(0,.ptr 1 0 0)] 15) (hp:=λi=>[.dead,.arr 1 [[.int .i64 (i:Int)]]]) (μ:=λi=>l.length-i) a ⟨ha,rfl⟩ ?_ rfl ?_
 ·simp[forget,gp]
 ·rintro i ⟨hi,Aa⟩;simp +contextual only[go_sem];by_cases Ab:i<l.length
  ·have d1:=dtT i l.length;simp +contextual only[go_sem,d1];refine vr_pureg (gok rfl) (noneF (id:=1) (l:=l) (at_:=i) rfl Ab fs cap En hl) ?_;have hq:(fs.any λp=>p.q (l.getD i 0))=q (l.getD i 0):=by rw[<-hQ]
   rw[hq]
   cases Da:q (l.getD i 0) with
   |true=>simp +contextual only[go_sem];refine⟨Jg,i+1,⟨om,by rw[Aa,Jd0 Ab Da]⟩,om,sM,?_⟩;simp[forget]
   |false=>simp +contextual only[go_sem];rw[Aa,JeD Ab Da]
  ·have d1:=dfF i l.length;simp +contextual only[go_sem,d1];rw[Aa,runE_end om]
end Go.Cm
end
section
open Go.Proofs Go.RowKit
namespace Go.Cm
theorem repL_eq (c:UInt8):∀n,Lib.repeatL [c] n=G6 n c
 |0=>rfl
 |n+1=>by
  have:=repL_eq c n;simp[Lib.repeatL,List.replicate_succ]at this|-
  first|exact this|(rw[this])
theorem cntL_eq (c:UInt8)(l:LA):Lib.countByte l c=Qz c l:=rfl
theorem cntB_le (c:UInt8)(l:LA):Qz c l<=l.length:=La
theorem repeatL (c:UInt8)(n:Nat)(hn:n<=1000000):Fn Ga 214 [S [c],.int .i64 n] (S (G6 n c)):=by
 intro E H;refine K6 λm w vs hs hv=>?_
 simp only[J7,rel]at hv;obtain⟨r,rs,e,rfl,r2,rs2,rfl,rfl,rfl⟩:=hv;have BI:vs=#[.string ⟨⟨[c]⟩⟩,.int .i64 n]:=by cases vs;simp_all
 subst BI;refine⟨_,Tryz.strings_Repeat ⟨⟨[c]⟩⟩ n w om ?_,?_⟩
 ·simp[S_size];omega
 ·rw[repL_eq];rfl
theorem countL (l:LA)(c:UInt8):Fn Ga 215 [S l,S [c]] (.int .i64 (Qz c l)):=by
 intro E H;refine K6 λm w vs hs hv=>?_
 simp only[J7,rel]at hv;obtain⟨r,rs,e,rfl,r2,rs2,rfl,rfl,rfl⟩:=hv;have BI:vs=#[.string ⟨⟨l⟩⟩,.string ⟨#[c]⟩]:=by cases vs;simp_all
 subst BI;refine⟨_,(Tryz.strings_Count_one ⟨⟨l⟩⟩ c w).mono λe w' ⟨h1,h2⟩=>⟨h1,by rw[h2];exact Below.refl _ _⟩,?_⟩;rw[cntL_eq];rfl
end Go.Cm
end
section
open Go.Shelf Go.RowKit Go.Proofs
namespace Go.Proofs
theorem Tryz.tab_of {w:World}(h:Go.Cm.GLw w):Lib.TabIs Ga w "internal/strconv.uint64pow10" .u64 Lib.pow10Tab:=by
 obtain⟨_,⟨e,q,h1⟩,_⟩:=h
 have hg:Ga.globalNamed "internal/strconv.uint64pow10" = some Go.Cm.gTab:=by kernel_rfl
 simp only[show Go.Cm.gTab<Go.Cm.gN by decide,if_true]at h1;simp only[Lib.TabIs,World.var?,hg,Hu,h1]
theorem Tryz.err_of {w:World}(h:Go.Cm.GLw w){B:Nat}(hB:B∈Go.Cm.gErr):∃te pe,w.cell? ⟨B,0,none⟩=some (.iface te pe):=by
 obtain⟨te,pe,e,q,h1⟩:=h.2.2 B hB;have Ab:B<Go.Cm.gN:=by
  have:∀x∈Go.Cm.gErr,x<Go.Cm.gN:=by decide
  exact this B hB
 simp only[if_pos Ab]at h1;exact⟨te,pe,by simp[World.cell?,h1]⟩
theorem Tryz.GLw_below {w w':World}(h:Go.Cm.GLw w)(hb:Below w.heap.size w w'):Go.Cm.GLw w':=h.mono λB hB=>hb.block B (h.lt hB)
open Go.Cm in
set_option maxHeartbeats 4000000 in
set_option maxRecDepth 100000 in
theorem Tryz.isNumber_walk (l:List UInt8)(hd:l.all Xy=true)(Ai:l≠[])(hl:l.length<=1000000)(w:World)(hg:GLw w) :
  Calls Ga 269 #[.string ⟨⟨l⟩⟩] w λe w'=>e=.returned (.bool (Jb8 l))/\Below w.heap.size w w':=by
 have hat:=atoi_digits l hd Ai;have iQ:=digits_back _ l rfl hd Ai;by_cases hr:JcT l<9223372036854775808
 ·rw[if_pos hr]at hat;have Ao:Jb8 l=(decide (JcT l<=1000000000) && (Lib.decDigits (JcT l) == l)):=by
   unfold Jb8
   congr 1
   rw[Gj];simp only[decide_eq_true_eq,beq_iff_eq];exact iQ.symm
  rw[Ao];generalize JcT l=v at hat hr;have grow_below:∀(w:World) (k:Nat) (os:Array Obj),Below w.heap.size w (Go.Sort.grow (w.drewN k) os):=λw k os=>
   ⟨rfl,rfl,rfl,by simp[Go.Sort.grow,World.drewN],λi hi=>by simp only[Go.Sort.grow,World.drewN];rw[Array.getElem?_append_left hi]⟩
  by_cases hv:v<=1000000000
  ·rw[decide_eq_true hv,GG];have d2:((v:Int)<=1000000000):=by omega
   go_enter Tryz.func269,Tryz.ntmps269
   go_wp2_with (go_at_call 275;refine(Tryz.strconv_Atoi_ok ⟨⟨l⟩⟩ (by simp[ByteArray.size];omega) v hat _).mono ?_;rintro e W1 ⟨rfl,hW⟩)
   have Dg:Below w.heap.size w W1:=by
    rcases hW with rfl|⟨t,rfl⟩
    ·exact Below.refl _ _
    ·exact Lib.bytesWorld_below _ _ _
   have Ib:=Tryz.GLw_below hg Dg;clear hW
   go_wp2_with (go_at_call 276;refine(Tryz.strconv_Itoa (v:Int) (by omega) (by omega) _ (Tryz.tab_of Ib)).mono ?_;rintro e W2 ⟨rfl,k,os,rfl⟩)
   rw[Lib.itoa_nonneg];have Ca:=grow_below W1 k os;generalize Go.Sort.grow (W1.drewN k) os=W2 at Ca|-
   go_wp2
   go_ret
   refine⟨?_,Dg.trans (Ca.mono Dg.size)⟩
   congr 2
  ·rw[decide_eq_false hv,GQ];have d2:¬((v:Int)<=1000000000):=by omega
   go_enter Tryz.func269,Tryz.ntmps269
   go_wp2_with (go_at_call 275;refine(Tryz.strconv_Atoi_ok ⟨⟨l⟩⟩ (by simp[ByteArray.size];omega) v hat _).mono ?_;rintro e W1 ⟨rfl,hW⟩)
   have Dg:Below w.heap.size w W1:=by
    rcases hW with rfl|⟨t,rfl⟩
    ·exact Below.refl _ _
    ·exact Lib.bytesWorld_below _ _ _
   clear hW
   go_wp2
   go_ret
   exact⟨rfl,Dg⟩
 ·rw[if_neg hr]at hat;have Ao:Jb8 l=false:=by unfold Jb8;rw[decide_eq_false (by omega)];rfl
  rw[Ao];obtain⟨te,pe,iO⟩:=Tryz.err_of hg (B:=2) (by decide)
  go_enter Tryz.func269,Tryz.ntmps269
  go_wp2_with (go_at_call 275;refine(Tryz.strconv_Atoi_range ⟨⟨l⟩⟩ (by simp[ByteArray.size];omega) hat _ _ iO (.inr ⟨te,pe,rfl⟩)).mono ?_;rintro e W1 ⟨N,rfl,UI,kK,Dg⟩)
  go_wp2
  go_ret
  exact⟨rfl,Dg⟩
end Go.Proofs
namespace Go.Cm
theorem isNumberL (l:LA)(hd:l.all Xy=true)(Ai:l≠[])(hl:l.length<=1000000):Fn Ga 269 [S l] (.bool (Jb8 l)):=by
 intro E H;refine K6 λm w vs hs hv=>?_
 simp only[J7,rel]at hv;obtain⟨r,rs,e,rfl,rfl⟩:=hv;have BI:vs=#[.string ⟨⟨l⟩⟩]:=by cases vs;simp_all
 subst BI;exact⟨_,Tryz.isNumber_walk l hd Ai hl w hs.gl.1,rfl⟩
end Go.Cm
end
section
set_option maxRecDepth 100000
set_option maxHeartbeats 20000000
open Go.Proofs
namespace Go.Cm
variable {l:LA}{a i:Nat}{q:UInt8->Bool}
def Qj (c:UInt8):Bool:=isLt c || Xy c
theorem any_ld:(λc:UInt8=>[qLt,qDg].any λp=>p.q c)=Qj:=by funext c;simp[qLt,qDg,Qj]
theorem any_d:(λc:UInt8=>[qDg].any λp=>p.q c)=Xy:=by funext c;simp[qDg]
def kws:LV:=[[97,110,100],[97,114,114,97,121],[98,111,111,108],[98,121],[100,101,102],[100,111],[101,108,115,101],[101,109,112,116,121],[102,97,108,115,101],[103,105,118,101],[104,101,97,100],[105,102],[105,110],[105,110,116],[108,111,111,112],[110,101,120,116],[110,105,108],[110,111,116],[111,114],[115,105,122,101],[115,116,114,101,97,109],[116,97,105,108],[116,114,117,101],[119,104,105,108,101]]
def sgs:LV:=[[58,58],[58,61],[45,62],[46,46],[61,61],[33,61],[60,61],[62,61],[60],[62],[61],[43],[45],[42],[47],[37],[35],[40],[41],[91],[93],[123],[125],[44],[59],[58]]
def sz (l:LV):LQ:=l.map λs=>[S s]
theorem JbX {l:LV}:(sz l).length=l.length:=by simp[sz]
theorem sz_get {l:LV}(h:i<l.length):(sz l).getD i []=[S (l.getD i [])]:=by simp[sz,Gc,Gb h]
theorem JfC:Fn Ga 162 [] (.rslc 1 (sz kws) none):=by refine Jgu (Ki c162_ok λN=>?_) rfl;simp only[c162,go_sem];exact⟨_,_,_,_,_,rfl,rfl,vk,rfl,vM⟩
theorem apiSigns:Fn Ga 187 [] (.rslc 1 (sz sgs) none):=by refine Jgu (Ki c187_ok λN=>?_) rfl;simp only[c187,go_sem];exact⟨_,_,_,_,_,rfl,rfl,vk,rfl,vM⟩
theorem Jgq (l p:LA):Fn Ga 168 [S l,S p] (.bool (l.take p.length == p)):=by
 refine Jb c168_ok rfl rfl λN=>?_
 simp +contextual only[c168,go_sem];refine⟨λh=>om,λh=>?_⟩
 congr 1
 symm
 rw[beq_eq_false_iff_ne];intro e;have:=congrArg GJ e;simp at this;omega
theorem hasPrefix (l p:LA):Fn Ga 234 [S l,S p] (.bool (l.take p.length == p)):=by
 refine Jb c234_ok rfl rfl λN=>?_
 simp +contextual only[c234,go_sem];refine JU (Jgq _ _) ?_;simp +contextual only[go_sem]
theorem Jh9 (l m:LA):((⟨⟨l⟩⟩:ByteArray) == ⟨⟨m⟩⟩)=(l == m):=by rw[beq_toListBytes];simp
def kwm (l:LV):List (CV×CV):=l.map λs=>(S s,.bool true)
theorem kw_new {l:LV}{s:LA}(h:s∉l):∀i,QZ .str (S s) (kwm l) i=some none:=by
 induction l with
 |nil=>intro i;rfl
 |cons a l ih=>
  intro i;simp only[GI,not_or]at h;have e:JaX .str (S s) (S a)=some false:=by
   simp only[JaX,Jh9]
   congr 1
   rw[beq_eq_false_iff_ne];exact h.1
  simp only[kwm,Gh,QZ,e];exact ih h.2 (i+1)
theorem kw_old {l:LV}{s:LA}(h:s∈l):∀i,∃j,QZ .str (S s) (kwm l) i=some (some (j,.bool true)):=by
 induction l with
 |nil=>cases h
 |cons a l ih=>
  intro i;by_cases ha:s=a
  ·subst ha;have e:JaX .str (S s) (S s)=some true:=by simp[JaX,Jh9]
   exact⟨i,by simp only[kwm,Gh,QZ,e]⟩
  ·have hm:s∈l:=(GI.1 h).elim (λh=>absurd h ha) id;have e:JaX .str (S s) (S a)=some false:=by
    simp only[JaX,Jh9]
    congr 1
    rw[beq_eq_false_iff_ne];exact ha
   obtain⟨j,hj⟩:=ih hm (i+1);exact⟨j,by simp only[kwm,Gh,QZ,e];exact hj⟩
theorem kw_take_all:∀i:Fin 24,kws.getD i []∉kws.take i:=vM
theorem kw_take(h:i<kws.length):kws.getD i []∉kws.take i:=kw_take_all ⟨i,h⟩
theorem keywords {E:Env}{H:Lv}:CallsC Ga E 268 [] H λv H'=>v=.map H.length/\H'=H++[.map (kwm kws)]:=by
 refine Ki c268_ok λN=>?_
 simp +contextual only[c268,go_sem];refine JU JfC ?_;simp +contextual only[go_sem,JbX];refine JL (I:=λi:Nat=>i<=kws.length) (inv:=λi=>gp [(1,.map H.length),(3,.rslc 1 (sz kws) none),(0,.int .i64 kws.length),(0,.int .i64 i)] 7) (hp:=λi=>H++[.map (kwm (kws.take i))]) (μ:=λi=>kws.length-i) 0 om ?_ rfl ?_
 ·simp[forget,gp]
 ·intro i hi;simp +contextual only[go_sem,JbX];refine⟨λh=>?_,λh=>?_⟩
  ·have Ab:i<kws.length:=om;rw[sz_get Ab];have hn:=kw_new (kw_take Ab) 0;have hs:kws.take (i+1)=kws.take i++[kws.getD i []]:=by rw[Gu Ab,Gc,Gb Ab];rfl
   refine anO ?_;simp +contextual only[go_sem,hn];have Ap:kws.length=24:=rfl;refine⟨Jg,i+1,om,om,?_,?_⟩
   ·rw[hs];simp[kwm]
   ·simp[forget]
  ·have:i=kws.length:=om;subst this;rw[Gn]
def sgnF (r:LA):LV->LA->LA
 |[],b=>b
 |s::l,b=>sgnF r l (if r.take s.length=s/\b.length<s.length then s else b)
def sgnL (r:LA):LA:=sgnF r sgs []
def cut (l:LA)(a b:Nat):LA:=(l.take b).drop a
def tkL (l:LA)(a:Nat):Nat×LA×Bool:=
 if isLt (l.getD a 0)=true then
  (if kws.contains (cut l a (Xl Qj l a))=true then(1,cut l a (Xl Qj l a),true) else(2,cut l a (Xl Qj l a),decide ((cut l a (Xl Qj l a)).length<=12)))
 else if Xy (l.getD a 0)=true then(3,cut l a (Xl Xy l a),Jb8 (cut l a (Xl Xy l a)))
 else(4,sgnL (l.drop a),!(sgnL (l.drop a) == []))
def lxz (k:Nat)(x:LA)(a:Int):Lu:=[.int .u8 k,S x,.int .i64 a]
def tkV (a:Nat)(t:Nat×LA×Bool):CV:=.tup [.agg (lxz t.1 t.2.1 a),.bool t.2.2]
theorem Jbr{b:Nat}(h1:a<=b)(h2:b<=l.length):(cut l a b).length=b-a:=by simp[cut];omega
theorem Jb5(h:a<l.length)(hq:q (l.getD a 0)=true):a<Xl q l a:=by rw[Jd0 h hq];unfold Xl;omega
theorem run_all(ha:a<=l.length):(cut l a (Xl q l a)).all q=true:=by
 have e:cut l a (Xl q l a)=(l.drop a).takeWhile q:=by unfold cut Xl;rw[Lt,vU];exact(H6.1 (H7 q)).symm
 rw[e];exact Lf
theorem sgnF_len {r:LA}:∀(L:LV) (b:LA),b.length<=2->(∀s∈L,s.length<=2)->(sgnF r L b).length<=2
 |[],b,h,_=>h
 |s::L,b,h,hL=>by
  simp only[sgnF];refine sgnF_len L _ ?_ (λx hx=>hL x (by simp[hx]))
  split
  ·exact hL s sM
  ·exact h
theorem sgs_len:∀s∈sgs,s.length<=2:=vM
theorem tokenL (l:LA)(a:Nat)(ha:a<l.length)(hl:l.length<=1000000):Fn Ga 253 [S l,.int .i64 (a:Int)] (tkV a (tkL l a)):=by
 refine Jb c253_ok rfl rfl λN=>?_
 simp +contextual only[c253,go_sem];refine anO ?_;refine JU (Je3 _) ?_;by_cases h1:isLt (l.getD a 0)=true
 ·have hE:=Jad (q:=Qj) (Gm ha);have BL:a<=Xl Qj l a:=by unfold Xl;omega
  simp +contextual only[go_sem,h1];refine Je (id:=1) (z:=1) (els:=[[.fn 265 [] []],[.fn 267 [] []]]) rfl rfl ?_;simp only[go_sem,JK,KC,frz,Kn];have Rw:∀p∈[qLt,qDg],JhP p:=by
   intro p hp;rcases GI.1 hp with rfl|hp
   ·exact qLt_ok
   ·rw[GL.1 hp];exact qDg_ok
  have Ak:=lexRun l a [qLt,qDg] none Rw sM hl (Gm ha);rw[any_ld,show fnz [qLt,qDg]=[[.fn 265 [] []],[.fn 267 [] []]] from rfl]at Ak;refine JU Ak ?_;simp +contextual only[go_sem];refine anO ?_;have Cw:(l.take (Xl Qj l a)).drop a=cut l a (Xl Qj l a):=rfl;simp only[Cw];have hT:tkL l a=if kws.contains (cut l a (Xl Qj l a))=true then(1,cut l a (Xl Qj l a),true) else(2,cut l a (Xl Qj l a),decide ((cut l a (Xl Qj l a)).length<=12)):=by unfold tkL;rw[if_pos h1]
  rw[hT];generalize cut l a (Xl Qj l a)=x;obtain⟨r,hr,Us⟩:∃r,QZ .str (S x) (kwm kws) 0=some r/\(match r with|some (_,v)=>v|none=>CV.bool false)=.bool (kws.contains x):=by
   by_cases hm:x∈kws
   ·obtain⟨j,hj⟩:=kw_old hm 0;exact⟨_,hj,by simp[hm]⟩
   ·exact⟨_,kw_new hm 0,by simp[hm]⟩
  refine Jbw [(.on [0],.on [0,3]),Foot.no,(.on [1],.on []),Foot.any] Jm vM ?_;refine⟨_,_,hs_new (mk:=.map) rfl (λH2=>keywords),?_⟩;refine⟨_,_,Jah rfl rfl trivial,?_⟩;refine⟨_,_,hs_ld (id:=0) (i:=0) (off:=1) rfl rfl (by simp[Cond.holds]),?_⟩;refine⟨.bool (kws.contains x),[CObj.arr 3 [[.int .u8 0,S x,.int .i64 a]],.dead,.map (kwm kws)],hs_any (c:=.tt) (.inl rfl) ?_ trivial,?_⟩
  ·simp only[go_sem,hr]
   cases r with
   |none=>simp only at Us|-;rw[Us]
   |some p=>simp only at Us|-;rw[Us]
  ·simp only[vdf,put_some]
   cases hk:kws.contains x with
   |true=>simp +contextual only[go_sem,tkV,lxz];rfl
   |false=>have e12:decide ((x.length:Int)<=12)=decide (x.length<=12):=decide_eq_decide.2 om;simp +contextual only[go_sem,tkV,lxz,e12];rfl
 ·by_cases h2:Xy (l.getD a 0)=true
  ·have DN:isLt (l.getD a 0)=false:=by simpa using h1
   have hE:=Jad (q:=Xy) (Gm ha);have BL:=Jb5 (q:=Xy) ha h2;have Aj:=run_all (q:=Xy) (Gm ha);have Az:=Jbr (Gm BL) hE;have hT:tkL l a=(3,cut l a (Xl Xy l a),Jb8 (cut l a (Xl Xy l a))):=by unfold tkL;rw[if_neg h1,if_pos h2]
   rw[hT];simp +contextual only[go_sem,DN];refine anO ?_;refine JU (Jdp _) ?_;simp +contextual only[go_sem,h2];have Rw:∀p∈[qDg],JhP p:=by intro p hp;rw[GL.1 hp];exact qDg_ok
   have Ak:=lexRun l a [qDg] none Rw sM hl (Gm ha);rw[any_d,show fnz [qDg]=[[.fn 267 [] []]] from rfl]at Ak;refine JaD [false,false,false,false,false,false,false,false,true,false,true] Jm vM ?_;simp +contextual only[go_sem];refine vh_row [[.fn 267 [] []]] rfl rfl rfl rfl ?_;simp +contextual only[go_sem];refine vh_f Ak ?_;simp +contextual only[go_sem];refine vh_all (S (cut l a (Xl Xy l a))) (λH2=>by simp only[go_sem];rfl) (by simp only[Cond.holds];exact⟨om,om,by show ((Xl Xy l a:Nat):Int)<=((l.length:Nat):Int);omega⟩) ?_;simp +contextual only[go_sem];generalize hx:cut l a (Xl Xy l a)=x at Aj Az|-;have OQ:=isNumberL x Aj (by intro e;rw[e]at Az;simp at Az;omega) om;refine Jbw [(.on [1],.on []),Foot.no,(.on [1],.on []),Foot.no,Foot.any,Foot.no] Jm vM ?_;refine⟨_,_,hs_ld (id:=0) (i:=0) (off:=0) rfl rfl ⟨Gf 1,Gf 3⟩,_,_,hs_all (λ_=>rfl) trivial,_,_,hs_ld (id:=0) (i:=0) (off:=1) rfl rfl ⟨Gf 1,(by decide:2<=3)⟩,_,_,hs_f (.inl rfl) OQ,_,_,hs_any (.inl rfl) rfl ⟨Gf 1,Gf 3⟩,_,_,hs_all (λ_=>rfl) trivial,?_⟩;simp +contextual only[vdf,go_sem,tkV,lxz,splice];rfl
  ·have DN:isLt (l.getD a 0)=false:=by simpa using h1
   have FU:Xy (l.getD a 0)=false:=by simpa using h2
   have hT:tkL l a=(4,sgnL (l.drop a),!(sgnL (l.drop a) == [])):=by unfold tkL;rw[if_neg h1,if_neg h2]
   rw[hT];simp +contextual only[go_sem,DN];refine anO ?_;refine JU (Jdp _) ?_;simp +contextual only[go_sem,FU];refine JU apiSigns ?_;simp +contextual only[go_sem,JbX];have Ck:sgs.length=26:=rfl;refine JL (σ:=Nat×LA) (I:=λs=>s.1<=sgs.length/\sgnL (l.drop a)=sgnF (l.drop a) (sgs.drop s.1) s.2) (inv:=λs=>gp [(0,S l),(0,.int .i64 (a:Int)),(2,.ptr 0 0 0),(49,.rslc 1 (sz sgs) none),(0,.int .i64 sgs.length),(0,.int .i64 s.1)] 23) (hp:=λs=>[.arr 3 [lxz 4 s.2 a]]) (μ:=λs=>sgs.length-s.1) (0,[]) ⟨om,rfl⟩ ?_ rfl ?_
   ·simp[forget,gp]
   ·rintro⟨i,b⟩ ⟨hi,Aa⟩;simp only at hi Aa;simp +contextual only[go_sem,JbX,lxz];refine⟨λh=>?_,λh=>?_⟩
    ·have Ab:i<sgs.length:=om;rw[sz_get Ab];rw[Gp Ab,sgnF]at Aa;rw[show sgs.getD i []=sgs[i] by rw[Gc,Gb Ab];rfl];generalize sgs[i]=s at Aa|-;refine anO ?_;simp +contextual only[go_sem];refine anO ?_;have IC:(l.take l.length).drop a=l.drop a:=by rw[Gn]
     simp only[IC];refine JU (hasPrefix (l.drop a) s) ?_;simp +contextual only[go_sem];by_cases hp:(l.drop a).take s.length=s
     ·have e1:((l.drop a).take s.length == s)=true:=beq_iff_eq.2 hp;by_cases hb:b.length<s.length
      ·have d1:=dtT b.length s.length;rw[if_pos ⟨hp,hb⟩]at Aa;simp +contextual only[go_sem,e1,d1];refine⟨Jg,(i+1,s),⟨by simp only;omega,Aa⟩,by simp only;omega,rfl,?_⟩;simp[forget]
      ·have d1:=dfF b.length s.length;rw[if_neg (λh=>hb h.2)]at Aa;simp +contextual only[go_sem,e1,d1];refine⟨Jg,(i+1,b),⟨by simp only;omega,Aa⟩,by simp only;omega,rfl,?_⟩;simp[forget]
     ·have e1:((l.drop a).take s.length == s)=false:=beq_eq_false_iff_ne.2 hp;rw[if_neg (λh=>hp h.1)]at Aa;simp +contextual only[go_sem,e1];refine⟨Jg,(i+1,b),⟨by simp only;omega,Aa⟩,by simp only;omega,rfl,?_⟩;simp[forget]
    ·have:i=sgs.length:=om;subst this;rw[Lm]at Aa;rw[Aa];simp +contextual only[go_sem,tkV,lxz,sgnF]
def knd (l:LA):Option Nat:=
 if l=[] then none else if isGp (l.getD 0 0)=true then none
 else if (tkL l 0).2.2=true/\(tkL l 0).2.1=l then some (tkL l 0).1 else none
def kndV:Option Nat->CV
 |some k=>.tup [.int .u8 k,.int .i64 0]
 |none=>.tup [.int .u8 0,.int .i64 4]
theorem lexKind (l:LA)(hl:l.length<=1000000):Fn Ga 241 [S l] (kndV (knd l)):=by
 refine Jb c241_ok rfl (by unfold kndV;split <;> rfl) λN=>?_
 by_cases h0:l=[]
 ·have e0:(l == [])=true:=beq_iff_eq.2 h0;have hk:knd l=none:=by unfold knd;rw[if_pos h0]
  rw[hk];simp +contextual only[c241,go_sem,e0,kndV]
 ·have e0:(l == [])=false:=beq_eq_false_iff_ne.2 h0;have Ey:0<l.length:=Hg.2 h0;simp +contextual only[c241,go_sem,e0];refine anO ?_;refine Ka (gok rfl) (lexIsGap _) ?_
  cases h1:isGp (l.getD 0 0) with
  |true=>
   have hk:knd l=none:=by unfold knd;rw[if_neg h0,if_pos h1]
   rw[hk];simp +contextual only[go_sem,kndV]
  |false=>
   simp +contextual only[go_sem];refine JU (tokenL l 0 Ey hl) ?_;unfold tkV;have hk:knd l=if (tkL l 0).2.2=true/\(tkL l 0).2.1=l then some (tkL l 0).1 else none:=by unfold knd;rw[if_neg h0,if_neg (by rw[h1];simp)]
   rw[hk];obtain⟨k,x,b⟩:=tkL l 0;simp +contextual only[go_sem,lxz,splice]
   cases b with
   |false=>simp +contextual only[go_sem];simp[kndV]
   |true=>
    by_cases hx:x=l
    ·have ex:(x == l)=true:=beq_iff_eq.2 hx;simp +contextual only[go_sem,ex];simp[kndV,hx]
    ·have ex:(x == l)=false:=beq_eq_false_iff_ne.2 hx;simp +contextual only[go_sem,ex];simp[kndV,hx]
def JdT (l:LA):Bool:=isLt (l.getD 0 0) && l.all Qj && !kws.contains l && decide (l.length<=12) && !(l == [])
theorem Jct:cut l 0 (Xl q l 0)=l↔l.all q=true:=by
 have e:cut l 0 (Xl q l 0)=l.takeWhile q:=by unfold cut Xl;simp only[GM,Gv];exact(H6.1 (H7 q)).symm
 rw[e]
 constructor
 ·intro h;rw[<-h];exact Lf
 ·intro h;have:∀l:LA,l.all q=true->l.takeWhile q=l:=by
   intro l
   induction l with
   |nil=>intro _;rfl
   |cons a l ih=>intro h;simp only[Hr,Gi]at h;rw[Hf,if_pos h.1,ih h.2]
  exact this l h
theorem lt_gp {c:UInt8}(h:isLt c=true):isGp c=false:=by simp only[isLt,Gi,decide_eq_true_eq]at h;simp only[isGp,isBk,GD,beq_eq_false_iff_ne];refine⟨⟨?_,?_⟩,?_⟩ <;> (rintro rfl;revert h;decide)
theorem knd_name (l:LA):(knd l == some 2)=JdT l:=by
 rw[Gj,beq_iff_eq];unfold knd JdT;by_cases h0:l=[]
 ·simp[h0]
 rw[if_neg h0];by_cases h1:isLt (l.getD 0 0)=true
 ·have hg:=lt_gp h1;rw[if_neg (by rw[hg];simp)];have hT:tkL l 0=if kws.contains (cut l 0 (Xl Qj l 0))=true then(1,cut l 0 (Xl Qj l 0),true) else(2,cut l 0 (Xl Qj l 0),decide ((cut l 0 (Xl Qj l 0)).length<=12)):=by unfold tkL;rw[if_pos h1]
  by_cases hf:cut l 0 (Xl Qj l 0)=l
  ·rw[hf]at hT;have ha:=Jct.1 hf;rw[hT,h1]
   cases hk:kws.contains l <;> simp[h0,ha]
  ·have ha:l.all Qj=false:=by
    cases h:l.all Qj with
    |false=>rfl
    |true=>exact absurd (Jct.2 h) hf
   rw[hT]
   cases hk:kws.contains (cut l 0 (Xl Qj l 0)) <;> simp[hf,ha]
 ·have DN:isLt (l.getD 0 0)=false:=by simpa using h1
  rw[DN];simp only[GQ,Hz,iff_false]
  split
  ·simp
  ·split
   ·unfold tkL;rw[if_neg h1]
    split <;> simp
   ·simp
theorem isNameW (l:LA)(hl:l.length<=1000000):Fn Ga 216 [S l] (.bool (JdT l)):=by
 refine Jb c216_ok rfl rfl λN=>?_
 simp +contextual only[c216,go_sem];refine JU (lexKind l hl) ?_;rw[<-knd_name]
 cases h:knd l with
 |none=>simp +contextual only[go_sem,kndV];rfl
 |some k=>
  simp +contextual only[go_sem,kndV]
  congr 1
  rw[Gj];simp;omega
theorem within (a b n:Int):Fn Ga 196 [.int .i64 a,.int .i64 b,.int .i64 n] (.bool (inI a b n)):=by
 refine Jb c196_ok rfl rfl λN=>?_
 simp +contextual only[c196,go_sem,inI]
def cntdV (k:Nat):CV:=if k=40 then .tup [S [83],.bool true] else if k=41 then .tup [S [98],.bool true] else if k=28 then .tup [S [73],.bool true] else if k=65 then .tup [S [80],.bool true] else .tup [S [],.bool false]
theorem counted (k:Nat):Fn Ga 217 [.int .u8 k] (cntdV k):=by
 unfold cntdV
 split
 ·subst_vars
  refine Jb c217_ok rfl rfl λN=>?_
  simp +contextual only[c217,go_sem,Gd]
 ·rename_i Eu;have e40:=kb (m:=40) Eu;simp only[Gd]at e40
  split
  ·subst_vars
   refine Jb c217_ok rfl rfl λN=>?_
   simp +contextual only[c217,go_sem,Gd]
  ·rename_i Ba;have e41:=kb (m:=41) Ba;simp only[Gd]at e41
   split
   ·subst_vars
    refine Jb c217_ok rfl rfl λN=>?_
    simp +contextual only[c217,go_sem,Gd]
   ·rename_i Ef;have e28:=kb (m:=28) Ef;simp only[Gd]at e28
    split
    ·subst_vars
     refine Jb c217_ok rfl rfl λN=>?_
     simp +contextual only[c217,go_sem,Gd]
    ·rename_i BF;have e65:=kb (m:=65) BF;simp only[Gd]at e65;refine Jb c217_ok rfl rfl λN=>?_
     simp +contextual only[c217,go_sem,e40,e41,e28,e65]
theorem many1 (c:UInt8)(hv:LA)(hl:hv.length<=1000):Fn Ga 213 [S [c],.rptr [S hv]] (S (G6 (Qz c hv) c)):=by
 refine Jb c213_ok rfl rfl λN=>?_
 simp +contextual only[c213,go_sem];refine JU (countL hv c) ?_;simp +contextual only[go_sem];refine JU (repeatL c (Qz c hv) (by have:=cntB_le c hv;omega)) ?_;simp +contextual only[go_sem]
theorem many2 (c:UInt8)(a b:Int)(hv:LA):Fn Ga 218 [S [c],.int .i64 a,.int .i64 b,.rptr [S hv]] (.bool (inI a b (Qz c hv))):=by
 refine Jb c218_ok rfl rfl λN=>?_
 simp +contextual only[c218,go_sem];refine JU (countL hv c) ?_;simp +contextual only[go_sem];refine JU (within _ _ _) ?_;simp +contextual only[go_sem]
theorem expectedL (x:Nd)(hv:LA)(hl:hv.length<=1000):Fn Ga 195 [.agg x.cv,S hv] (S (Qi x.k hv)):=by
 obtain⟨k,text,n,kids,pl⟩:=x;have EC:=λc=>cntB_le c hv
 simp only[Nd.cv];by_cases hA:4<=k/\k<=24
 ·have f1:((4:Int)<=(k:Int))=True:=J4;by_cases hB:k<=18
  ·have f2:((k:Int)<=18)=True:=J4;rw[show Qi k hv=[101,101] by simp only[Qi];rw[if_pos om]];refine fcS c195_ok λN=>?_
   simp (maxSteps:=2000000) -implicitDefEqProofs only[c195,go_sem,f1,f2]
  ·have f2:((k:Int)<=18)=False:=JS;have f3:((19:Int)<=(k:Int))=True:=J4;have f4:((k:Int)<=24)=True:=J4;rw[show Qi k hv=[101] by simp only[Qi];rw[if_neg om,iP7]];refine fcS c195_ok λN=>?_
   simp (maxSteps:=2000000) -implicitDefEqProofs only[c195,go_sem,f1,f2,f3,f4]
 by_cases hC:k=42
 ·subst hC;have e1:(([]:LA) == [])=true:=rfl;have e2:∀(a:UInt8) l,(a::l == [])=false:=λ_ _=>rfl
  cases hv <;> (refine fcS c195_ok λN=>?_;simp (maxSteps:=2000000) -implicitDefEqProofs only[c195,go_sem,Gd,e1,e2];simp[Qi])
 by_cases hD:k=43\/k=44\/k=25\/k=62\/k=63\/k=64\/k=26\/k=45\/k=27\/k=28\/k=29\/k=40\/k=41\/k=46\/k=47\/k=65
 rotate_left
 ·simp only[not_or]at hD;rw[show Qi k hv=[] by simp only[Qi];repeat rw[if_neg (by first|omega|exact λh=>hC h.1)]];have f2:((k:Int)<=18)=(k<4):=propext om;have f3:((4:Int)<=(k:Int))=¬k<4:=propext om;have f4:((19:Int)<=(k:Int))=¬k<4:=propext om;have f5:((k:Int)<=24)=(k<4):=propext om;by_cases h4:k<4 <;> (refine fcS c195_ok λN=>?_;simp (maxSteps:=2000000) -implicitDefEqProofs only[c195,go_sem,f2,f3,f4,f5,h4,kbo,hD,hC,not_true_eq_false,not_false_eq_true])
 rcases hD with rfl|rfl|rfl|rfl|rfl|rfl|rfl|rfl|rfl|rfl|rfl|rfl|rfl|rfl|rfl|rfl <;> (
  refine fcS c195_ok λN=>?_
  repeat first
   |refine Je (id:=1) (z:=1) (els:=[[S hv]]) rfl rfl ?_;simp only[go_sem,KC,frz,JK,Kn]
   |refine vr_fvS (l1:=[]) (l2:=[.rptr [S hv]]) (args:=[S [_]]) c213_ok nm (many1 _ hv hl) rfl rfl Jfa ?_
   |refine⟨by have h1:=EC 73;have h2:=EC 83;have h3:=EC 78;have h4:=EC 99;have h5:=EC 101;have h6:=EC 98;have h7:=EC 80;have h8:=EC 116;simp;omega,?_⟩
   |simp (maxSteps:=2000000) -implicitDefEqProofs only[c195,go_sem,Gd,List.length_replicate]
  all_goals first|rfl|simp[Qi])
theorem sizedL (x:Nd)(hv:LA):Fn Ga 198 [.agg x.cv,S hv] (.bool (Q5 x.k x.n hv)):=by
 obtain⟨k,text,n,kids,pl⟩:=x;simp only[Nd.cv];by_cases hD:k=65\/k=26\/k=40\/k=45\/k=41\/k=28\/k=29\/k=48\/k=47
 rotate_left
 ·simp only[not_or]at hD;rw[show Q5 k n hv=true by simp only[Q5];repeat rw[if_neg om]];refine fcS c198_ok λN=>?_
  simp (maxSteps:=2000000) -implicitDefEqProofs only[c198,go_sem,kbo,hD,not_false_eq_true]
 rcases hD with rfl|rfl|rfl|rfl|rfl|rfl|rfl|rfl|rfl <;> (
  refine fcS c198_ok λN=>?_
  simp only[Q5]
  repeat first
   |refine Je (id:=1) (z:=1) (els:=[[S hv]]) rfl rfl ?_;simp only[go_sem,KC,frz,JK,Kn]
   |refine vr_fvSB (l1:=[]) (l2:=[.rptr [S hv]]) (args:=[S [_],.int .i64 _,.int .i64 _]) c218_ok nm (many2 _ _ _ hv) rfl rfl (by first|exact Jfa|exact gokS rfl) (λB hb=>?_);try simp only[hb];clear hb;cases B
   |refine Jac (within 0 100 n) rfl (by first|exact Jfa|exact gokS rfl) ?_
   |refine Jac (within 1 9 n) rfl Jfa ?_
   |simp (maxSteps:=2000000) -implicitDefEqProofs only[c198,go_sem,Gd]
  all_goals simp)
def fldI (nmd:Bool)(k:Nat)(text:LA)(n:Int)(hv:LA):Bool:=Xf nmd k text && Xb k n hv
theorem fieldsL (x:Nd)(hv:LA)(nmd:Bool)(hn:Fn Ga 216 [S x.text] (.bool nmd)):Fn Ga 197 [.agg x.cv,S hv] (.bool (fldI nmd x.k x.text x.n hv)):=by
 obtain⟨k,text,n,kids,pl⟩:=x;simp only at hn;simp only[Nd.cv];by_cases hC:(k=3\/k=26\/k=42\/k=43\/k=44\/k=47\/k=64\/k=65\/k=48\/k=40\/k=41\/k=28\/k=1\/k=2\/k=29)
 rotate_left
 ·rw[show fldI nmd k text n hv=(text == [] && n == 0) by simp only[fldI,Xf,Xb];repeat rw[if_neg om]];have hE:=counted k;rw[show cntdV k=.tup [S [],.bool false] by simp only[cntdV];repeat rw[if_neg om]]at hE;simp only[not_or]at hC;refine fcS c197_ok λN=>?_
  cases t1:text == [] <;> repeat first
   |simp (maxSteps:=2000000) -implicitDefEqProofs only[c197,go_sem,t1,kbo,hC,not_false_eq_true]
   |refine Jac hE rfl Jfa ?_
 rcases hC with rfl|rfl|rfl|rfl|rfl|rfl|rfl|rfl|rfl|rfl|rfl|rfl|rfl|rfl|rfl <;> (
  refine fcS c197_ok λN=>?_
  simp only[fldI,Xf,Xb]
  repeat first
   |refine Jac hn rfl Jfa ?_;cases nmd
   |refine Jac (within 0 1000000000 n) rfl Jfa ?_
   |refine Jac (within 0 1 n) rfl Jfa ?_
   |refine JQ Jm vk ?_
   |refine Kc (.inl rfl) (countL hv _) ?_
   |simp (maxSteps:=2000000) -implicitDefEqProofs only[c197,go_sem,Gd,cntdV,Nat.reduceEqDiff,if_true,if_false]
   |rcases Gt (text == []) with hb|hb <;> rw[hb]
   |rcases Gt (text == [35]) with hb|hb <;> rw[hb]
   |refine Jac (counted 3) rfl Jfa ?_
   |refine Jac (counted 26) rfl Jfa ?_
   |refine Jac (counted 42) rfl Jfa ?_
   |refine Jac (counted 43) rfl Jfa ?_
   |refine Jac (counted 44) rfl Jfa ?_
   |refine Jac (counted 47) rfl Jfa ?_
   |refine Jac (counted 64) rfl Jfa ?_
   |refine Jac (counted 65) rfl Jfa ?_
   |refine Jac (counted 48) rfl Jfa ?_
   |refine Jac (counted 40) rfl Jfa ?_
   |refine Jac (counted 41) rfl Jfa ?_
   |refine Jac (counted 28) rfl Jfa ?_
   |refine Jac (counted 1) rfl Jfa ?_
   |refine Jac (counted 2) rfl Jfa ?_
   |refine Jac (counted 29) rfl Jfa ?_
  all_goals first|simp|simp_all)
end Go.Cm
end
section
open Go.Shelf Go.RowKit Go.Proofs
namespace Go.Cm
theorem letter_lt (k:Nat):letter k<256:=by
 unfold letter
 repeat' split
 all_goals omega
theorem fnSort (k:Nat)(hk:k<256):Fn Ga 194 [.int .u8 k] (.int .u8 (letter k)):=by
 refine Jb c194_ok rfl rfl λN=>?_
 rcases (show (1<=k/\k<=29)\/(60<=k/\k<=63)\/(30<=k/\k<=39)\/(49<=k/\k<=59)\/66<=k\/k=0\/k=46\/k=47\/k=40\/k=41\/k=42\/k=43\/k=44\/k=45\/k=48\/k=64\/k=65 by omega) with h|h|h|h|h|rfl|rfl|rfl|rfl|rfl|rfl|rfl|rfl|rfl|rfl|rfl|rfl
 ·have e:letter k=101:=by unfold letter;rw[if_pos h]
  simp only[c194,go_sem,e,show decide ((1:Int)<=(k:Int))=true from decide_eq_true om,show decide ((k:Int)<=29)=true from decide_eq_true om]
  first|done|rfl
 ·have e:letter k=116:=by unfold letter;rw[iN7,if_pos h]
  simp only[c194,go_sem,e,show decide ((1:Int)<=(k:Int))=true from decide_eq_true om,show decide ((k:Int)<=29)=false from decide_eq_false om,show decide ((60:Int)<=(k:Int))=true from decide_eq_true om,show decide ((k:Int)<=63)=true from decide_eq_true om]
  first|done|rfl
 ·have e:letter k=32:=by unfold letter;repeat rw[iN7]
  simp only[c194,go_sem,e,show decide ((1:Int)<=(k:Int))=true from decide_eq_true om,show decide ((k:Int)<=29)=false from decide_eq_false om,show decide ((60:Int)<=(k:Int))=false from decide_eq_false om,show decide ((40:Int)<=(k:Int))=false from decide_eq_false om,kbo (show ¬k=46 by omega),kbo (show ¬k=47 by omega),kbo (show ¬k=64 by omega),kbo (show ¬k=65 by omega)]
  first|done|rfl
 ·have e:letter k=32:=by unfold letter;repeat rw[iN7]
  simp only[c194,go_sem,e,show decide ((1:Int)<=(k:Int))=true from decide_eq_true om,show decide ((k:Int)<=29)=false from decide_eq_false om,show decide ((60:Int)<=(k:Int))=false from decide_eq_false om,show decide ((40:Int)<=(k:Int))=true from decide_eq_true om,show decide ((k:Int)<=48)=false from decide_eq_false om,kbo (show ¬k=46 by omega),kbo (show ¬k=47 by omega),kbo (show ¬k=64 by omega),kbo (show ¬k=65 by omega)]
  first|done|rfl
 ·have e:letter k=32:=by unfold letter;repeat rw[iN7]
  simp only[c194,go_sem,e,show decide ((1:Int)<=(k:Int))=true from decide_eq_true om,show decide ((k:Int)<=29)=false from decide_eq_false om,show decide ((60:Int)<=(k:Int))=true from decide_eq_true om,show decide ((k:Int)<=63)=false from decide_eq_false om,show decide ((40:Int)<=(k:Int))=true from decide_eq_true om,show decide ((k:Int)<=48)=false from decide_eq_false om,kbo (show ¬k=46 by omega),kbo (show ¬k=47 by omega),kbo (show ¬k=64 by omega),kbo (show ¬k=65 by omega)]
  first|done|rfl
 all_goals simp[c194,go_sem,letter] <;> exact⟨vk,vk⟩
theorem calls_of_fn {P:Program}{f:Nat}{args:Lu}{v:CV}(h:Fn P f args v)(hv:v.closed=true){w:World}{imm:Nat->Nat->LG}(MO:∀B i x,imm B i=some x->w.cell? ⟨B,i,none⟩=some x)(Bl:∀B i x,imm B i=some x->x.oneCell'=true){vs:LJ}(BI:J7 [] imm args vs.toList)(AO:GLw w) :
  Calls P f vs w λe w'=>(∃r imm',KJ imm imm'/\rel [] imm' v r/\e=.returned r)/\Below w.heap.size w w':=by
 have hs:Sim Env.none { own:=[],imm:=imm,ext:=λ_=>False } [] w:=⟨rfl,sM,MO,Bl,sM,sM,sM,sM,λB h=>AO.lt (h.resolve_left id),AO,sM⟩;refine((h Env.none [] _ w vs hs BI).calls λk=>JeE none k).mono ?_;rintro e w' ⟨r,m',v',H',rfl,Af,AB,hrel,rfl,rfl⟩;have Cc:∀B,¬owned { own:=[],imm:=imm,ext:=λ_=>False } [] B:=by
  rintro B (h|⟨k,o,x,hk,_⟩)
  ·exact h
  ·simp at hk
 exact⟨⟨r,m'.imm,Af.imm,Qt _ _ hv hrel,rfl⟩,Af.same.1,Af.same.2.2,Af.same.2.1,Af.size,λk hk=>Af.frame k hk (Cc k)⟩
end Go.Cm
namespace Go.Proofs
def Tryz.bRen:Go.Shelf.Ren:=⟨λn=>if n=167 then 211 else Tryz.lays105_ren.f n,Tryz.lays105_ren.t,Tryz.lays105_ren.g⟩
theorem Tryz.bLays167:Lays.n167 Ga Tryz.bRen:={ Tryz.lays105 with f167:=Tryz.func211.trans (congrArg some (by kernel_rfl)) }
theorem Tryz.bLays169:Lays.n169 Ga Tryz.bRen:={ Tryz.lays105 with }
theorem Tryz.bExtra:Builder.Extra Ga Tryz.bRen:={
 sizeBuilder:=by kernel_rfl
 liesBuilder:=by kernel_rfl
 t5:=Tryz.underlying5
 a5:=Tryz.isAgg5
 z5:=Tryz.sizeOf5
 v5:=Tryz.zeroValue5
 infoByte:=by kernel_rfl
 cellsByte:=by kernel_rfl
 sizeByte:=by kernel_rfl
 neB5:=by decide }
theorem Tryz.WriteByte (B b:Nat)(bs:List Value)(c:Int)(w:World)(h:Lib.IsBuilder 205 5 B b bs w)(Ad:bs.length+1<=140737488355328)(bM:B<=w.heap.size) :
  Calls Ga 211 #[.pointer (some ⟨b,0,none⟩),.int .u8 c] w λe w'=>e=.returned .nilIface/\(Lib.BuilderAt 205 5 B b (.pointer (some ⟨b,0,none⟩)) (bs++[.int .u8 c]) w'/\Below B w w'):=
 Any.Builder_WriteByte Tryz.bLays167 Tryz.bExtra B b bs c w h Ad bM
theorem Tryz.BString (B b:Nat)(l:List UInt8)(w:World)(h:Lib.IsBuilder 205 5 B b (Lib.byteCells l) w)(bM:B<=w.heap.size) :
  Calls Ga 212 #[.pointer (some ⟨b,0,none⟩)] w λe w'=>e=.returned (.string ⟨l.toArray⟩)/\Below B w w':=
 Any.Builder_String_any Tryz.bLays169 Tryz.bExtra B b l w h bM
theorem Tryz.bat_below {T e:TypeId}{B b:Nat}{p:Value}{bs:List Value}{W W':World}(h:Lib.BuilderAt T e B b p bs W)(hb:Below W.heap.size W W'):Lib.BuilderAt T e B b p bs W':=by obtain⟨hB,v,hv,CL,Ai⟩:=h;have Ab:b<W.heap.size:=(Array.getElem?_eq_some_iff.1 hv).1;exact⟨hB,v,(hb.block b Ab).trans hv,CL.kept (row:=none) ⟨hb.os,hb.tape,hb.output,hb.size,λk hk _=>hb.block k hk⟩ (Classical.em _),Ai⟩
theorem Tryz.isb_below {T e:TypeId}{B b:Nat}{bs:List Value}{W W':World}(h:Lib.IsBuilder T e B b bs W)(hb:Below W.heap.size W W'):Lib.IsBuilder T e B b bs W':=h.elim (λx=>.inl (Tryz.bat_below x hb)) (λx=>.inr (Tryz.bat_below x hb))
theorem Tryz.cell_lt {w:World}{a:Addr}{v:Value}(h:w.cell? a=some v):a.block<w.heap.size:=by
 rcases G7 a.block w.heap.size with h'|h'
 ·exact h'
 ·rw[World.cell?,Array.getElem?_eq_none h']at h;simp at h
def Tryz.letters (ds:List Nat):List UInt8:=ds.map λd=>UInt8.ofNat (Go.Cm.letter d)
theorem Tryz.letters_take (ds:List Nat)(j d:Nat)(h:ds[j]? = some d):Tryz.letters (ds.take (j+1))=Tryz.letters (ds.take j)++[UInt8.ofNat (Go.Cm.letter d)]:=by rw[Lg,h];simp[Tryz.letters]
open Go.Cm in
set_option maxHeartbeats 4000000 in
set_option maxRecDepth 100000 in
theorem Tryz.sorts_walk (np kp:Option Addr)(nl nc kl kc:Nat)(items n0 n1 n2 n4:Value)(ds:List Nat)(w:World)(iJ:GLw w)(AU:ds.length=kl)(MN:∀k∈ds,k<256)
  (Df:kl<140737488355328)
  (Bw:∀j d,ds[j]? = some d->∃bn no bk ko k,np=some ⟨bn,no,none⟩/\kp=some ⟨bk,ko,none⟩/\k<nl/\w.cell? ⟨bk,ko+j,none⟩=some (.int .i64 (k:Nat))/\w.cell? ⟨bn,no+k*5,none⟩=some (.int .u8 (d:Nat))) :
  Calls Ga 193 #[.agg #[.slice np nl nc,items],.agg #[n0,n1,n2,.slice kp kl kc,n4]] w λe w'=>e=.returned (.string ⟨(Tryz.letters ds).toArray⟩)/\Below w.heap.size w w':=by
 have HK:Hid (∀j d,ds[j]? = some d->∃bn no bk ko k,np=some ⟨bn,no,none⟩/\kp=some ⟨bk,ko,none⟩/\k<nl/\w.cell? ⟨bk,ko+j,none⟩=some (.int .i64 (k:Nat))/\w.cell? ⟨bn,no+k*5,none⟩=some (.int .u8 (d:Nat))):=Bw;have HD:Hid (∀k∈ds,k<256):=MN;clear Bw MN
 go_enter Tryz.func193,Tryz.ntmps193
 go_wp2
 go_loopw [11] (λv wr=>∃j:Nat,j<=kl/\v=.int .i64 j/\Lib.IsBuilder 205 5 (w.heap.size+2) (w.heap.size+2) (Lib.byteCells (Tryz.letters (ds.take j))) wr/\wr.cell? ⟨w.heap.size,0,none⟩=some (.slice np nl nc)/\Below w.heap.size w wr/\w.heap.size+2<=wr.heap.size) (λi _=>kl-(intOf i).toNat)
 case atStart=>
  refine⟨0,Nat.zero_le _,rfl,?_,?_,?_,?_⟩
  ·simpa [Tryz.letters,Lib.byteCells]using Lib.fresh_isBuilder 205 5 ((w.alloc (.cells #[.slice np nl nc,items] 25)).alloc (.cells #[n0,n1,n2,.slice kp kl kc,n4] 60))
  ·simp[go_sem]
  ·exact(((Below.refl _ w).alloc (Gf _) _).alloc (by simp) _).alloc (by simp;omega) _
  ·simp
 case round=>
  obtain⟨j,hj,rfl,hI,hT,PN,BP⟩:=hrel;have HI:Hid (Lib.IsBuilder 205 5 (w.heap.size+2) (w.heap.size+2) (Lib.byteCells (Tryz.letters (ds.take j))) wr):=hI;clear hI;by_cases Ab:j<kl
  ·obtain⟨d,hd⟩:∃d,ds[j]? = some d:=⟨ds[j],Gb (by omega)⟩;have Sy:=HD.out d (Gx hd);obtain⟨bn,no,bk,ko,k,rfl,rfl,hk,h1,h2⟩:=HK.out j d hd;have DN:wr.cell? ⟨bk,ko+j,none⟩=some (.int .i64 (k:Nat)):=(PN.cell (Tryz.cell_lt h1)).trans h1;have FU:wr.cell? ⟨bn,no+k*5,none⟩=some (.int .u8 (d:Nat)):=(PN.cell (Tryz.cell_lt h2)).trans h2;clear h1 h2;have HD2:Hid (ds[j]? = some d):=hd;clear hd
   go_wp2_with (go_at_call 194;refine(calls_of_fn (imm:=λ_ _=>none) (fnSort d Sy) rfl (by simp) (by simp) (by simp[J7,rel]) (Tryz.GLw_below iJ PN)).mono ?_)
   rintro e W1 ⟨⟨r,imm',_,hr,rfl⟩,b1⟩;simp[rel]at hr;subst hr;have HI1:=HI.out;have b2:=PN.trans (b1.mono PN.size);have HB:Hid (Lib.IsBuilder 205 5 (w.heap.size+2) (w.heap.size+2) (Lib.byteCells (Tryz.letters (ds.take j))) W1):=Tryz.isb_below HI1 b1;have jf:W1.cell? ⟨w.heap.size,0,none⟩=some (.slice (some ⟨bn,no,none⟩) nl nc):=(b1.cell (by simp;omega)).trans hT;have Ad:(Lib.byteCells (Tryz.letters (ds.take j))).length+1<=140737488355328:=by rw[Lib.byteCells_length];simp[Tryz.letters];omega
   have FY:=Hw BP b1.size;clear HI1
   go_wp2_with (go_at_call 211;refine(Tryz.WriteByte _ _ _ _ _ HB.out Ad FY).mono ?_)
   rintro e W2 ⟨rfl,fu,b3⟩;have je:W2.cell? ⟨w.heap.size,0,none⟩=some (.slice (some ⟨bn,no,none⟩) nl nc):=(b3.cell (by simp)).trans jf;have HB2:Hid (Lib.IsBuilder 205 5 (w.heap.size+2) (w.heap.size+2) (Lib.byteCells (Tryz.letters (ds.take j))++[Value.int IntKind.u8 (letter d:Nat)]) W2):=Or.inr fu;have b4:=b2.trans (b3.mono (by omega));have ER:=Hw FY b3.size;clear fu b1 b2 b3
   go_wp2
   go_roundw
   case rel=>refine⟨j+1,by omega,by go_num,?_,je,b4,ER⟩;rw[Tryz.letters_take ds j d HD2.out,Lib.byteCells_append];have:=HB2.out;have hl:letter d % 256=letter d:=Nat.mod_eq_of_lt (letter_lt d);simpa [Lib.byteCells,hl]using this
   case measure=>simp[intOf];omega
  ·have A8:j=kl:=by omega
   subst A8;rw[Gy (by omega)]at HI
   go_wp2_with (go_at_call 212;refine(Tryz.BString _ _ _ _ HI.out BP).mono ?_)
   rintro e W1 ⟨rfl,b1⟩
   go_wp2
   go_ret
   exact⟨rfl,PN.trans (b1.mono (by omega))⟩
end Go.Proofs
namespace Go.Cm
theorem sortsL (t:Tr)(x:Nd)(hx:x.Fit)(hn:∀y∈t.nodes,y.k<256)(hk:∀k∈x.kids,0<=k/\k<t.nodes.length):Fn Ga 193 [.agg [.rslc 5 (ndz t.nodes) none,.rslc 1 (iz t.items) none],.agg x.cv] (S (lets t.nodes x)):=by
 intro E H;refine K6 λm w vs hs hv=>?_
 simp only[J7,rel,Nd.cv]at hv;obtain⟨_,_,e0,⟨t1,rfl,r1,_,e1,RI,r2,_,rfl,Ma,rfl⟩,_,_,rfl,⟨t2,rfl,s0,_,e2,ET,s1,_,rfl,EL,s2,_,rfl,IC,s3,_,rfl,BC,s4,_,rfl,Pt,rfl⟩,rfl⟩:=hv;have fT:t1=#[r1,r2]:=by cases t1;simp_all
 have Uq:t2=#[s0,s1,s2,s3,s4]:=by cases t2;simp_all
 have BI:vs=#[.agg t1,.agg t2]:=by cases vs;simp_all
 subst fT Uq BI;have RH:∃np nl nc,r1=.slice np nl nc/\∀(k:Nat),k<t.nodes.length->k<nl/\∃B o,np=some ⟨B,o,none⟩/\w.cell? ⟨B,o+k*5,none⟩=some (.int .u8 (Jw t.nodes k:Nat)):=by
  rcases RI with ⟨_,h0,b,rfl⟩|⟨B,o,c,rfl,_,_,Fp⟩
  ·refine⟨b,0,0,rfl,λk hk=>?_⟩;have:=congrArg GJ h0;rw[Ja]at this;simp at this;rw[this]at hk;simp at hk
  ·refine⟨_,_,_,rfl,λk hk=>⟨by rw[Ja];exact hk,B,o,rfl,?_⟩⟩;have hg:(ndz t.nodes)[k]? = some (t.nodes.getD k default).cv:=by simp[ndz,Gc,Gb hk]
   have h1:=((Qs _ o).1 Fp k _ hg).2;obtain⟨r,hr,CJ⟩:=h1 0 _ rfl;simp only[rel]at CJ;subst CJ;exact hs.imm _ _ _ hr
 obtain⟨np,nl,nc,rfl,hN⟩:=RH;have Ej:∃kp kc,s3=.slice kp x.kids.length kc/\∀(j:Nat) k,x.kids[j]? = some k->∃B o,kp=some ⟨B,o,none⟩/\w.cell? ⟨B,o+j,none⟩=some (.int .i64 k):=by
  rcases BC with ⟨_,he,b,rfl⟩|⟨B,o,c,rfl,_,_,Sn⟩
  ·have Bw:x.kids=[]:=by have:=congrArg GJ he;rw[Jf]at this;simpa using this
   exact⟨b,0,by rw[Bw];rfl,λj k hj=>by simp[Bw]at hj⟩
  ·refine⟨_,c,by rw[Jf],λj k hj=>⟨B,o,rfl,?_⟩⟩;have D8:(iz x.kids)[j]? = some [CV.int .i64 k]:=by simp[iz,hj]
   have h1:=((Qs _ o).1 Sn j _ D8).2;obtain⟨r,hr,CJ⟩:=h1 0 _ rfl;simp only[rel]at CJ;subst CJ;have:=hs.imm _ _ _ hr;simpa using this
 obtain⟨kp,kc,rfl,hK⟩:=Ej;have Bj:=hx.kidn;refine⟨_,Tryz.sorts_walk np kp nl nc x.kids.length kc r2 s0 s1 s2 s4 (x.kids.map (Jw t.nodes)) w hs.gl.1 sM (λd hd=>?_) om (λj d hj=>?_),?_⟩
 ·obtain⟨k,Dz,rfl⟩:=vv.1 hd;have:=hk k Dz;refine hn _ ?_;have Ab:k.toNat<t.nodes.length:=om;rw[Gc,Gb Ab];exact Gg Ab
 ·rw[GH]at hj
  cases Er:x.kids[j]? with
  |none=>rw[Er]at hj;cases hj
  |some k=>
   rw[Er]at hj;simp only[vV,Hy]at hj;subst hj;have hr:=hk k (Gx Er);obtain⟨h3,B,o,h4,h5⟩:=hN k.toNat om;obtain⟨B',o',h6,h7⟩:=hK j k Er;refine⟨B,o,B',o',k.toNat,h4,h6,h3,?_,?_⟩
   ·rw[h7,show ((k.toNat:Nat):Int)=k by omega]
   ·rw[h5];simp only[Jw,GK]
 ·simp only[rel,lets,Tryz.letters,JdR,vw];rfl
end Go.Cm
end
section
open Go.Proofs
namespace Go.Cm
variable {d ks o xs:Lx}{f i:Nat}{K:LU}{a b m:Int}{F:IFunc}
def bks (xs:Lx):LQ:=(Ht xs.length).map λ(s:Nat)=>[.int .i64 ((xs.length:Int)-1-s),.int .i64 (xs.reverse.getD s 0)]
theorem bks_get{s:Nat}(h:s<xs.length):(bks xs)[s]? = some [.int .i64 ((xs.length:Int)-1-s),.int .i64 (xs.reverse.getD s 0)]:=by simp[bks,h]
theorem Jfx:(bks xs).length=xs.length:=by simp[bks]
theorem backward1 (xs:Lx)(Ad:xs.length<=100000):Iter Ga 87 [] [.rptr [.rslc 1 (iz xs) none]] (bks xs):=by
 intro E l hy;refine Ki c87_ok λN=>?_
 simp +contextual only[c87,go_sem,Jf];refine⟨Jg,?_⟩;refine JL (I:=λs:Nat=>s<=xs.length) (inv:=λs=>gp [(0,.yld l),(0,.rptr [.rslc 1 (iz xs) none]),(1,.int .i64 ((xs.length:Int)-1-s))] 15) (hp:=λs=>[.ext s true]) (μ:=λs=>xs.length-s) 0 om ?_ rfl ?_
 ·simp[forget,gp]
 ·intro s hs;simp +contextual only[go_sem,Jf];refine⟨λh1=>?_,λh1=>?_⟩
  ·have Ab:s<xs.length:=om;have hi:((xs.length:Int)-1-s).toNat=xs.length-1-s:=om;have hg:(iz xs).getD (xs.length-1-s) []=[.int .i64 (xs.reverse.getD s 0)]:=by
    have h2:xs.length-1-s<xs.length:=om;simp[iz,Gc,Gb h2,List.getElem?_reverse Ab]
   rw[hi,hg];refine anO ?_;simp +contextual only[go_sem];refine vr_yield (i:=0) (s:=s) (.inl rfl) rfl hy rfl (λk s b hk=>?_) ?_ rfl λc=>?_
   ·rcases k with _|k
    ·rfl
    ·simp at hk
   ·simp only[go_sem,bks_get Ab]
   ·cases c
    ·simp +contextual only[go_sem];exact .inr ⟨_,rfl⟩
    ·simp +contextual only[go_sem];refine⟨Jg,s+1,om,om,?_⟩;simp[forget];omega
  ·have:s=xs.length:=om;refine .inl ?_;simp[Jfx,this]
theorem backward (xs:Lx):Fn Ga 52 [.rslc 1 (iz xs) none] (.fn 87 [] [.rptr [.rslc 1 (iz xs) none]]):=by
 have main:CallsC Ga Env.none 52 [.rslc 1 (iz xs) none] [] λv H'=>v=.fn 87 [] [.ptr 0 0 0]/\H'=[.arr 1 [[.rslc 1 (iz xs) none]]]:=by
  refine Ki c52_ok λN=>?_
  simp +contextual only[c52,go_sem]
 exact JhQ (main.freeze λv H' ⟨h1,h2⟩=>⟨0,1,[[.rslc 1 (iz xs) none]],by rw[h2];rfl,rfl,by rw[h1];simp[frz,JK]⟩) rfl rfl
def JO (l:LF):LU:=l.map Nd.kids
theorem Kq {l:LF}(h:i<l.length):(JO l)[i]? = some (l.getD i default).kids:=by simp[JO,Gc,Gb h]
theorem JdL(h:JB (K.take i) []=some o)(hk:K[i]? = some ks):JB (K.take (i+1)) []=(Jev o ks).map (λf=>o++[f])/\o.length=i:=by
 have Ab:=(Gl.1 hk).1;have hl:=QQ _ _ _ h;rw[Gu Ab,(Gl.1 hk).2,JaP,h];refine⟨?_,by simpa [vz (Gm Ab)]using hl⟩;simp only[Hu,JB]
 cases Jev o ks <;> rfl
theorem JdM(h:JB (K.take i) []=none):JB K []=none:=by rw[<-GU i K,JaP,h];rfl
theorem stepF_none{s:Nat}(h:XA o (ks.reverse.take s) ((o.length:Int)-1)=none):Jev o ks=none:=by unfold Jev;rw[<-GU s ks.reverse,JcY,h];rfl
def Jcd (t:Tr)(v:CV)(H':Lv):Prop:=match JB (JO t.nodes) []with
 |some o=>∃id,v=.tup [Qr id (iz o),.bool true]/\H'[id]? = some (Xm 1 (iz o))
 |none=>v=.tup [.nils,.bool false]
theorem firstsW (t:Tr)(ht:t.Fit):CallsC Ga Env.none 190 [t.cv] [] (Jcd t):=by
 have Ag:=ht.many;refine Ki c190_ok λN=>?_
 simp +contextual only[c190,go_sem,Tr.cv,Tr.row];refine YJ ?_;simp only[go_sem,Ja];refine Js (σ:=Nat×Lx) (I:=λs=>s.1<=t.nodes.length/\JB ((JO t.nodes).take s.1) []=some s.2)
  (inv:=λs=>gp [(2,.ptr 0 0 0),(0,.ptr 1 0 0),(6,.rslc 5 (ndz t.nodes) none),(0,.int .i64 t.nodes.length),(0,.int .i64 s.1)] 30)
  (hp:=λs=>[.arr 1 [[Qr 2 (iz s.2)]],.arr 1 [[.bool false]],Xm 1 (iz s.2)]) (μ:=λs=>t.nodes.length-s.1) (0,[]) [1,2,3] ⟨om,rfl⟩ rfl ?_ rfl ?_
 ·simp[forget,JG,ren,Jl,gp]
 ·rintro⟨i,o⟩ ⟨hi,ho⟩
  dsimp only at hi ho
  simp +contextual only[go_sem,Ja];refine⟨λh=>?_,λh=>?_⟩
  ·have Ab:i<t.nodes.length:=om;have hx:=ht.nodes _ (Gg Ab);have hg:t.nodes.getD i default=t.nodes[i]:=by rw[Gc,Gb Ab];rfl
   obtain⟨Av,Bd⟩:=JdL ho (Kq Ab);have Ao:=QU _ _ _ Xj.nil ho;rw[QE Ab];generalize t.nodes.getD i default=x at Av hg|-;rw[<-hg]at hx;refine⟨om,by simp[Nd.cv],?_⟩;simp +contextual only[go_sem,Nd.cv];refine⟨Jg,?_⟩;refine JU (backward x.kids) ?_;simp +contextual only[go_sem];have Bj:=hx.kidn;refine vr_rfuncJ (xs:=bks x.kids) (Γ:=Int) (λs a=>XA o (x.kids.reverse.take s) ((i:Int)-1)=some a) (λs a=>[.arr 1 [[Qr 2 (iz o)]],.arr 1 [[.bool false]],Xm 1 (iz o),.arr 5 [x.cv],.arr 1 [[.int .i64 a]]]) ((i:Int)-1) rfl rfl rfl rfl rfl c87_ok nm (backward1 _ om) (by simp[bks]) rfl ?_ ?_
   ·intro s a c ha hc;have Dv:s<x.kids.length:=by have:=(Gl.1 hc).1;rwa [Jfx]at this
    rw[bks_get Dv]at hc
    cases hc
    have Ei:s<x.kids.reverse.length:=by rw[List.length_reverse];exact Dv
    have Al:x.kids.reverse.take (s+1)=x.kids.reverse.take s++[x.kids.reverse.getD s 0]:=by rw[Gu Ei,Gc,Gb Ei];rfl
    generalize x.kids.reverse.getD s 0=k at Al|-;have hr:=JcX Ao _ _ a om om ha;have Dt:XA o (x.kids.reverse.take (s+1)) ((i:Int)-1)=if a<0\/k≠a then none else some (o.getD k.toNat 0-1):=by rw[Al,JcY,ha];simp only[Hu,XA]
    by_cases hc:a<0\/k≠a
    ·rw[if_pos hc]at Dt;have CX:JB (JO t.nodes) []=none:=by refine JdM (i:=i+1) ?_;rw[Av,stepF_none (s:=s+1) (by rw[Bd];exact Dt)];rfl
     by_cases h0:a<0
     ·have d0:(a<0)=True:=eq_true h0;simp +contextual only[go_sem,d0];simp only[Jcd,CX]
     ·have d0:(a<0)=False:=eq_false h0;have d1:(k == a)=false:=beq_eq_false_iff_ne.2 om;have d2:(k != a)=true:=by rw[bne,d1];rfl
      simp +contextual only[go_sem,d0,d2];simp only[Jcd,CX]
    ·rw[if_neg hc]at Dt;have Dl:k=a:=om;subst Dl;have Ai:iz o≠[]:=by intro e;have:=congrArg GJ e;rw[Jf]at this;simp at this;rw[this]at Bd;simp at Bd;omega
     have d0:(k<0)=False:=JS;have d2:(k != k)=false:=sM;rw[Jae Ai,YM Ai];have Dk:k.toNat<o.length:=om;have hv:=Ao k.toNat o[k.toNat] (Gb Dk);have e:o.getD k.toNat 0=o[k.toNat]:=by simp[Gc,Gb Dk]
     simp +contextual only[go_sem,d0,d2,Jf];rw[JF Dk];refine⟨om,⟨om,sM⟩,?_⟩;simp +contextual only[go_sem];refine⟨inr64 (by rw[e];omega) (by rw[e];omega),_,Dt,?_⟩;rfl
   ·intro a ha;rw[Jfx]at ha;rw[Gy sM]at ha;have hr:=JcX Ao _ _ a om om ha;have gB:Jev o x.kids=some (a+1):=by unfold Jev;rw[Bd,ha];rfl
    rw[gB]at Av;simp +contextual only[go_sem,JA,Jf];refine⟨Jg,⟨om,om⟩,Jg,(i+1,o++[a+1]),[0,1,6],⟨by simp only;omega,Av⟩,by simp only;omega,rfl,?_,?_⟩
    ·rw[Qp,KM,KN];simp only[KE,Gh,Gq,go_sem,Jo];simp[JG,ren,Jl,Jf,Jc (Jh o)]
    ·simp[forget,JG,ren,Jl]
  ·have:i=t.nodes.length:=om;subst this;rw[Gy (by simp[JO])]at ho
   cases o with
   |nil=>simp only[iz,Gq,Ya,JaF,go_sem];simp only[Jcd,ho];exact⟨2,rfl,rfl⟩
   |cons y o=>simp only[iz,Gh,YL,Ja7,go_sem];simp only[Jcd,ho];exact⟨2,rfl,rfl⟩
theorem firstsS (t:Tr)(ht:t.Fit)(h:JB (JO t.nodes) []=some o):Fn Ga 190 [t.cv] (.tup [.rslc 1 (iz o) none,.bool true]):=by
 refine fn_of_rowT ?_ rfl (Jh o) rfl;have:=firstsW t ht;refine this.mono λv H' hv=>?_
 simpa only[Jcd,h]using hv
theorem firstsN (t:Tr)(ht:t.Fit)(h:JB (JO t.nodes) []=none):Fn Ga 190 [t.cv] (.tup [.nils,.bool false]):=by
 refine JhQ ?_ rfl rfl;have:=firstsW t ht;refine this.mono λv H' hv=>?_
 simpa only[Jcd,h]using hv
theorem rowg {t:Tr}(h:i<t.nodes.length):t.nodes.getD i default=t.nodes[i]:=by rw[Gc,Gb h];rfl
theorem areItems (t:Tr)(ht:t.Fit)(o:Lx)(ho:Xj o)(hl:o.length=t.nodes.length):Fn Ga 191 [t.cv,.rslc 1 (iz o) none] (.bool (Y8 o (λi=>Jw t.nodes i == 65) t.nodes.length t.items 0)):=by
 have Ag:=ht.many;have Ma:=ht.items;refine Jb c191_ok rfl rfl λN=>?_
 simp +contextual only[c191,go_sem,Tr.cv,Tr.row,Jf];generalize hD:(λi=>Jw t.nodes i == 65)=isD;refine JL (σ:=Nat×Int) (I:=λs=>s.1<=t.items.length/\0<=s.2/\s.2<=t.nodes.length/\Y8 o isD t.nodes.length t.items 0=Y8 o isD t.nodes.length (t.items.drop s.1) s.2)
  (inv:=λs=>gp [(1,.rslc 1 (iz o) none),(0,.ptr 0 0 0),(2,.int .i64 s.2),(3,.rslc 1 (iz t.items) none),(0,.int .i64 t.items.length),(0,.int .i64 s.1)] 36)
  (hp:=λ_=>[.arr 2 [t.row]]) (μ:=λs=>t.items.length-s.1) (0,0) ⟨om,sM,sM,sM⟩ ?_ rfl ?_
 ·simp[forget,gp]
 ·rintro⟨j,a⟩ ⟨hj,h0,h1,Aa⟩;simp only at hj h0 h1 Aa;simp +contextual only[go_sem,Tr.row,Jf,Ja];refine⟨λh=>?_,λh=>?_⟩
  ·have Ab:j<t.items.length:=om;rw[Gp Ab,Y8]at Aa;rw[JF Ab,show t.items.getD j 0=t.items[j] by rw[Gc,Gb Ab];rfl];generalize t.items[j]=i at Aa|-;refine anO ?_;simp +contextual only[go_sem,Ja];refine⟨Jg,?_⟩;refine JU (within _ _ _) ?_;simp +contextual only[go_sem]
   cases b1:inI a ((t.nodes.length:Int)-1) i with
   |false=>rw[b1]at Aa;simp +contextual only[go_sem];rw[Aa];rfl
   |true=>
    rw[b1]at Aa;have hi:a<=i/\i<=(t.nodes.length:Int)-1:=by simp only[inI,Gi,decide_eq_true_eq]at b1;exact b1
    have Ae:i.toNat<t.nodes.length:=om;simp +contextual only[go_sem,Ja];rw[QE Ae];refine anO ?_;simp +contextual only[go_sem,Nd.cv];have hk:isD i=((t.nodes.getD i.toNat default).k == 65):=by rw[<-hD];rfl
    have Aq:(((t.nodes.getD i.toNat default).k:Int) == 65)=isD i:=by rw[hk,Gj];simp;omega
    have Il:(((t.nodes.getD i.toNat default).k:Int) != 65) = !isD i:=by rw[bne,Aq]
    rw[Il]
    cases b2:isD i with
    |false=>rw[b2]at Aa;simp +contextual only[go_sem];rw[Aa];rfl
    |true=>
     rw[b2]at Aa;simp +contextual only[go_sem,Jf];rw[JF om];refine anO ?_;simp +contextual only[go_sem];have Ai:(o.getD i.toNat 0 != a) = !(o.getD i.toNat 0 == a):=rfl;rw[Ai]
     cases b3:(o.getD i.toNat 0 == a) with
     |false=>rw[b3]at Aa;simp +contextual only[go_sem];rw[Aa];rfl
     |true=>
      rw[b3]at Aa;simp +contextual only[go_sem];refine⟨Jg,Jg,(j+1,i+1),⟨by simp only;omega,by simp only;omega,by simp only;omega,?_⟩,by simp only;omega,?_⟩
      ·simpa using Aa
      ·simp[forget]
  ·have:j=t.items.length:=om;subst this;rw[Aa];simp[Y8]
theorem isGreat (t:Tr):Fn Ga 169 [t.cv] (.bool (decide (700<t.nodes.length\/20<t.items.length))):=by
 refine Jb c169_ok rfl rfl λN=>?_
 simp +contextual only[c169,go_sem,Tr.cv,Tr.row,Jf,Ja];refine⟨λh=>?_,λh=>?_⟩
 ·congr 1
  exact decide_eq_decide.2 om
 ·congr 1
  symm
  rw[decide_eq_true_eq];omega
def mx (a b:Int):Int:=if b > a then b else a
def ownD (deep:Lx)(ks:Lx):Int:=ks.foldl (λa k=>mx a (deep.getD k.toNat 0+1)) 1
def QS:LU->Lx->Lx
 |[],d=>d
 |ks::K,d=>QS K (d++[ownD d ks])
theorem Jfo:∀(x y:LU) (d:Lx),QS (x++y) d=QS y (QS x d)
 |[],_,_=>rfl
 |k::x,y,d=>by simp only[GV,QS];exact Jfo x y _
theorem JcR:∀(K:LU) (d:Lx),(QS K d).length=d.length+K.length
 |[],d=>by simp[QS]
 |k::K,d=>by simp only[QS];rw[JcR K];simp;omega
def DOk (d:Lx):Prop:=∀v∈d,1<=v/\v<=d.length
theorem mx_le{c:Int}(h1:a<=c)(h2:b<=c):mx a b<=c:=by unfold mx;split <;> omega
theorem mx_ge{c:Int}(h1:c<=a):c<=mx a b:=by unfold mx;split <;> omega
theorem JhJ(h:∀v∈d,1<=v/\v<=m)(hm:0<=m)(k:Nat):0<=d.getD k 0/\d.getD k 0<=m:=by
 rw[Gc]
 cases hk:d[k]? with
 |none=>simp;omega
 |some v=>have:=h v (Gx hk);simp;omega
theorem Jhv(h:∀v∈d,1<=v/\v<=m)(hm:0<=m):∀(ks:Lx) (a:Int),1<=a->a<=m+1->1<=ks.foldl (λa k=>mx a (d.getD k.toNat 0+1)) a/\ks.foldl (λa k=>mx a (d.getD k.toNat 0+1)) a<=m+1
 |[],a,h1,h2=>⟨h1,h2⟩
 |k::ks,a,h1,h2=>by have:=JhJ h hm k.toNat;exact Jhv h hm ks _ (mx_ge h1) (mx_le h2 om)
theorem Jh1:∀(K:LU) (d:Lx),DOk d->DOk (QS K d)
 |[],d,h=>h
 |k::K,d,h=>by
  refine Jh1 K _ λv hv=>?_
  rcases G5.1 hv with hv|hv
  ·have:=h v hv;simp;omega
  ·simp at hv;have:=Jhv (m:=d.length) (λv hv=>h v hv) om k 1 om om;rw[hv];simp only[List.length_append,Gr,Gs];unfold ownD;omega
theorem maxL (x:Int)(l:Lx)(hl:l.length<=100000):Fn Ga 200 [.rslc 1 (iz (x::l)) none] (.int .i64 (l.foldl mx x)):=by
 refine Jb c200_ok rfl rfl λN=>?_
 have d0:(((l.length+1:Nat):Int)<1)=False:=JS;simp +contextual only[c200,go_sem,Jf,d0];rw[JF sM];refine anO ?_;simp +contextual only[go_sem];refine JL (I:=λi:Nat=>i<=l.length) (inv:=λi=>gp [(0,.rslc 1 (iz (x::l)) none),(2,.int .i64 ((l.take i).foldl mx x)),(0,.int .i64 (i+1:Nat))] 20) (hp:=λ_=>[]) (μ:=λi=>l.length-i) 0 om ?_ rfl ?_
 ·simp[forget,gp]
 ·intro i hi;simp +contextual only[go_sem,Jf,Gr];refine⟨λh=>?_,λh=>?_⟩
  ·have Ab:i<l.length:=om;rw[JF (by simp;omega)];refine anO ?_;simp +contextual only[go_sem];refine⟨Jg,i+1,om,om,?_⟩;have hs:(l.take (i+1)).foldl mx x=mx ((l.take i).foldl mx x) (l.getD i 0):=by rw[Gu Ab,Hl,Gc,Gb Ab];rfl
   rw[hs];simp[forget,mx]
  ·have:i=l.length:=om;subst this;rw[Gn]
def Jbp (t:Tr):Bool:=(QS (JO t.nodes) []).any λv=>decide (30<v)
theorem mx_any (c:Int):∀(l:Lx) (x:Int),c<l.foldl mx x↔(c<x\/(l.any λv=>decide (c<v))=true)
 |[],x=>sM
 |y::l,x=>by
  rw[Hq,mx_any c l (mx x y),vZ,HY,decide_eq_true_eq,<-or_assoc];refine or_congr ?_ Iff.rfl;unfold mx
  split <;> omega
theorem JgB(h:K[i]? = some ks):QS (K.take (i+1)) []=QS (K.take i) []++[ownD (QS (K.take i) []) ks]:=by have Ab:=(Gl.1 h).1;rw[Gu Ab,(Gl.1 h).2,Jfo];rfl
theorem isDeep (t:Tr)(ht:t.Fit)(ho:JB (JO t.nodes) []=some o):Fn Ga 171 [t.cv] (.bool (Jbp t)):=by
 have Ag:=ht.many;refine Jb c171_ok rfl rfl λN=>?_
 simp +contextual only[c171,go_sem,Tr.cv,Tr.row];refine YJ ?_;simp only[go_sem,Ja];refine Js (I:=λi:Nat=>i<=t.nodes.length) (inv:=λi=>gp [(3,Qr 0 (iz (QS ((JO t.nodes).take i) []))),(6,.rslc 5 (ndz t.nodes) none),(0,.int .i64 t.nodes.length),(0,.int .i64 i)] 31)
  (hp:=λi=>[Xm 1 (iz (QS ((JO t.nodes).take i) []))]) (μ:=λi=>t.nodes.length-i) 0 [1] om rfl ?_ rfl ?_
 ·simp[forget,JG,ren,Jl,gp,QS,iz,Qr]
 ·intro i hi;have AU:(QS ((JO t.nodes).take i) []).length=i:=by rw[JcR,Gz];simp[JO];omega
  have Fs:=Jh1 ((JO t.nodes).take i) [] (by intro v hv;simp at hv);by_cases Ab:i<t.nodes.length
  ·have Av:=JgB (Kq Ab);have I4:=XQ ho (Kq Ab);have hx:=ht.nodes _ (Gg Ab);rw[<-rowg Ab]at hx;have CE:=AU;clear AU;generalize QS ((JO t.nodes).take i) []=d at Av CE Fs|-;have d1:=dtT i t.nodes.length;simp +contextual only[go_sem,Ja,d1];rw[QE Ab];generalize t.nodes.getD i default=x at Av I4 hx|-;refine⟨om,by simp[Nd.cv],?_⟩;simp +contextual only[go_sem,Nd.cv,Jf];have Bj:=hx.kidn;have Ie:∀v∈d,1<=v/\v<=i:=λv hv=>by have:=Fs v hv;omega
   refine JL (I:=λj:Nat=>j<=x.kids.length) (inv:=λj=>gp [(3,Qr 0 (iz d)),(2,.int .i64 (ownD d (x.kids.take j))),(3,.rslc 5 (ndz t.nodes) none),(0,.int .i64 t.nodes.length),(0,.int .i64 i),(4,.rslc 1 (iz x.kids) none),(0,.int .i64 x.kids.length),(0,.int .i64 j)] 24)
    (hp:=λ_=>[Xm 1 (iz d),.arr 5 [x.cv]]) (μ:=λj=>x.kids.length-j) 0 om ?_ rfl ?_
   ·simp[forget,gp,ownD]
   ·intro j hj;by_cases A8:j<x.kids.length
    ·have d2:=dtT j x.kids.length;have Ay:x.kids.getD j 0∈x.kids:=by rw[Gc,Gb A8];exact Gg A8
     have hb:=I4 _ Ay;have Ai:iz d≠[]:=by intro e;have:=congrArg GJ e;rw[Jf]at this;simp at this;rw[this]at CE;simp at CE;omega
     have Al:ownD d (x.kids.take (j+1))=mx (ownD d (x.kids.take j)) (d.getD (x.kids.getD j 0).toNat 0+1):=by
      have DK:x.kids.getD j 0=x.kids[j]:=by rw[Gc,Gb A8];rfl
      unfold ownD;rw[Gu A8,Hl,DK];rfl
     rw[Jae Ai,YM Ai];simp +contextual only[go_sem,Jf,d2];rw[JF A8];generalize x.kids.getD j 0=k at hb Al|-;refine anO ?_;simp +contextual only[go_sem,Jf];rw[JF om];have EA:=JhJ (m:=i) (λv hv=>by have:=Ie v hv;omega) om k.toNat;refine⟨om,⟨om,sM⟩,?_⟩;simp +contextual only[go_sem];refine⟨Jg,Jg,j+1,om,om,?_⟩;rw[Al];simp[forget,mx]
    ·have Cq:j=x.kids.length:=om;subst Cq;have d2:=dfF x.kids.length x.kids.length;rw[Gn];have RA:=Jhv (m:=i) Ie om x.kids 1 om om;simp +contextual only[go_sem,d2,JA,Jf];refine⟨⟨om,om⟩,Jg,i+1,[3],om,om,rfl,?_,?_⟩
     ·rw[Av,Qp,KN];simp only[KE,Gh,Gq,go_sem,Jo];rw[<-Qp,Jc (Jh _)]
     ·rw[Av,Qp,KM];simp[forget,JG,ren,Jl,Jf]
  ·have CO:i=t.nodes.length:=om;subst CO;have d1:=dfF t.nodes.length t.nodes.length;have hB:Jbp t=(QS ((JO t.nodes).take t.nodes.length) []).any λv=>decide (30<v):=by rw[Jbp,Gy (by simp[JO])]
   rw[hB];generalize QS ((JO t.nodes).take t.nodes.length) []=d at AU Fs|-;have aO:d.length<=100000:=om
   cases d with
   |nil=>simp +contextual only[go_sem,d1,iz,Gq,Ya,JaF];rfl
   |cons y d=>
    have d3:((0:Int)<((iz (y::d)).length:Nat))=True:=eq_true (by rw[Jf];simp only[Gr];omega);rw[Jae (by simp[iz]),YM (by simp[iz])];simp +contextual only[go_sem,d1,d3];refine Je (id:=0) (z:=1) (els:=iz (y::d)) rfl (Jh _) ?_;simp only[go_sem,JK,KC,frz,Kn,Gn];refine Ka (gok rfl) (maxL y d (by simp at aO;omega)) ?_;simp +contextual only[go_sem]
    congr 1
    rw[Gj,decide_eq_true_eq,mx_any];simp
theorem indexN{l1 l2:Lu}(l:LF)(q:Nd->Bool)(cap:Option Nat)(hF:Jd Ga f=some F)(CF:Jk l1=true)(CR:Jk l2=true)
  (hq:∀p∈l,Fn Ga f (l1++[.agg p.cv]++l2) (.bool (q p))) (Ad:l.length<=100000):Fn Ga 219 [.rslc 5 (ndz l) cap,.fn f l1 l2] (.int .i64 (XG q l 0)):=by
 refine Jb c219_ok (by simp[Jk,CV.closed,CF,CR]) rfl λN=>?_
 simp +contextual only[c219,go_sem,Ja];refine JL (I:=λi:Nat=>i<=l.length/\XG q l 0=XG q (l.drop i) i) (inv:=λi=>gp [(0,.rslc 5 (ndz l) cap),(0,.fn f l1 l2),(5,.int .i64 l.length),(0,.int .i64 i)] 10) (hp:=λ_=>[]) (μ:=λi=>l.length-i) 0 ?_ ?_ rfl ?_
 ·simp
 ·simp[forget,gp]
 ·rintro i ⟨hi,Aa⟩;simp +contextual only[go_sem,Ja];refine⟨λh=>?_,λh=>?_⟩
  ·have Ab:i<l.length:=om;obtain⟨p,hp⟩:∃p,l[i]? = some p:=⟨_,Gb Ab⟩;rw[Xd hp]at Aa;rw[QE Ab,show l.getD i default=p by rw[Gc,hp];rfl];refine⟨om,by simp[Nd.cv],?_⟩;refine vr_fv (.inl rfl) rfl hF nm (hq p (Gx hp)) ?_;simp only[go_sem];refine⟨λh2=>?_,λh2=>?_⟩
   ·rw[Aa,if_pos h2]
   ·rw[h2]at Aa;refine⟨Jg,i+1,⟨om,by simpa using Aa⟩,om,?_⟩;simp[forget]
  ·have:i=l.length:=om;subst this;rw[Aa];simp[XG]
theorem containsN{l1 l2:Lu}(l:LF)(q:Nd->Bool)(cap:Option Nat)(hF:Jd Ga f=some F)(CF:Jk l1=true)(CR:Jk l2=true)
  (hq:∀p∈l,Fn Ga f (l1++[.agg p.cv]++l2) (.bool (q p))) (Ad:l.length<=100000):Fn Ga 199 [.rslc 5 (ndz l) cap,.fn f l1 l2] (.bool (l.any q)):=by
 refine Jb c199_ok (by simp[Jk,CV.closed,CF,CR]) rfl λN=>?_
 simp +contextual only[c199,go_sem];refine JU (indexN l q cap hF CF CR hq Ad) ?_;simp +contextual only[go_sem,Jaa]
def ndI (l:LF)(x:Nd):Bool:=Kj (JdT x.text) x.k x.text x.n x.pl (lets l x)
theorem isFormN (t:Tr)(x:Nd)(hx:x.Fit)(hn:∀y∈t.nodes,y.k<256)(hk:∀k∈x.kids,0<=k/\k<t.nodes.length):Fn Ga 192 [.agg x.cv,.rptr t.row] (.bool (!ndI t.nodes x)):=by
 have hl:(lets t.nodes x).length<=1000:=by rw[KH];have:=hx.kidn;omega
 refine Jb c192_ok rfl rfl λN=>?_
 simp +contextual only[c192,go_sem,Tr.row,Nd.cv];refine JU (sortsL t x hx hn hk) ?_;simp +contextual only[go_sem];refine JU (fnSort x.k hx.k) ?_;simp +contextual only[go_sem];have EL:((letter x.k:Int) == 32)=(letter x.k == 32):=by rw[Gj];simp;omega
 rw[EL]
 cases b1:(letter x.k == 32) with
 |true=>simp +contextual only[go_sem];simp[ndI,Kj,b1]
 |false=>
  simp +contextual only[go_sem];refine Ka (gok rfl) (expectedL x _ hl) ?_;simp +contextual only[go_sem]
  cases b2:(lets t.nodes x == Qi x.k (lets t.nodes x)) with
  |false=>simp +contextual only[go_sem];simp[ndI,Kj,b2]
  |true=>
   simp +contextual only[go_sem];refine Ka (gok rfl) (within 0 2500 x.pl) ?_;simp +contextual only[go_sem]
   cases b3:inI 0 2500 x.pl with
   |false=>simp +contextual only[go_sem];simp[ndI,Kj,b3]
   |true=>
    simp +contextual only[go_sem];refine Ka (gok rfl) (fieldsL x _ (JdT x.text) (isNameW x.text (by have:=hx.text;omega))) ?_;simp +contextual only[go_sem]
    cases b4:fldI (JdT x.text) x.k x.text x.n (lets t.nodes x) with
    |false=>simp +contextual only[go_sem];unfold fldI at b4;simp[ndI,Kj,b4]
    |true=>simp +contextual only[go_sem];refine Ka (gok rfl) (sizedL x _) ?_;simp +contextual only[go_sem];unfold fldI at b4;simp[ndI,Kj,b1,b2,b3,b4]
theorem isFormS (t:Tr)(ht:t.Fit)(h:JB (JO t.nodes) []=some o):Fn Ga 170 [t.cv] (.bool (Y8 o (λi=>Jw t.nodes i == 65) t.nodes.length t.items 0 && t.nodes.all (ndI t.nodes))):=by
 have hl:=QQ _ _ _ h;simp[JO]at hl;refine Jb c170_ok rfl rfl λN=>?_
 simp +contextual only[c170,go_sem,Tr.cv,Tr.row];refine Je (id:=0) (z:=2) (els:=[t.row]) rfl rfl ?_;simp only[go_sem,JK,KC,frz,Kn];simp +contextual only[go_sem,Tr.row];refine JU (firstsS t ht h) ?_;simp +contextual only[go_sem];refine Ka (gok rfl) (areItems t ht o (QU _ _ _ Xj.nil h) hl) ?_;simp +contextual only[go_sem]
 cases b1:Y8 o (λi=>Jw t.nodes i == 65) t.nodes.length t.items 0 with
 |false=>simp +contextual only[go_sem]
 |true=>
  simp +contextual only[go_sem];refine JU (containsN t.nodes (λx=>!ndI t.nodes x) none c192_ok rfl rfl (λx hx=>?_) (by have:=ht.many;omega)) ?_
  ·obtain⟨j,hj⟩:=H9 hx;have A8:=(Gl.1 hj).1;have Er:(JO t.nodes)[j]? = some x.kids:=by simp[JO,hj]
   exact isFormN t x (ht.nodes x hx) (λy hy=>(ht.nodes y hy).k) (λk hk=>by have:=XQ h Er k hk;omega)
  ·simp +contextual only[go_sem]
   congr 1
   rw[Gj];simp
theorem isFormN0 (t:Tr)(ht:t.Fit)(h:JB (JO t.nodes) []=none):Fn Ga 170 [t.cv] (.bool false):=by
 refine Jb c170_ok rfl rfl λN=>?_
 simp +contextual only[c170,go_sem,Tr.cv,Tr.row];refine JU (firstsN t ht h) ?_;simp +contextual only[go_sem]
def frm (t:Tr):Bool:=match JB (JO t.nodes) []with
 |some o=>Y8 o (λi=>Jw t.nodes i == 65) t.nodes.length t.items 0 && t.nodes.all (ndI t.nodes)
 |none=>false
theorem isForm (t:Tr)(ht:t.Fit):Fn Ga 170 [t.cv] (.bool (frm t)):=by
 unfold frm
 cases h:JB (JO t.nodes) []with
 |none=>exact isFormN0 t ht h
 |some o=>exact isFormS t ht h
def chk (t:Tr):Int:=if 700<t.nodes.length\/20<t.items.length then 5 else if frm t=true then(if Jbp t=true then 5 else 0) else 4
theorem frm_some {t:Tr}(h:frm t=true):∃o,JB (JO t.nodes) []=some o:=by
 unfold frm at h
 cases ho:JB (JO t.nodes) []with
 |none=>rw[ho]at h;cases h
 |some o=>exact⟨o,rfl⟩
theorem Jf8 (t:Tr)(ht:t.Fit):Fn Ga 128 [t.cv] (.int .i64 (chk t)):=by
 refine Jb c128_ok rfl rfl λN=>?_
 simp +contextual only[c128,go_sem,Tr.cv,Tr.row];refine Je (id:=0) (z:=2) (els:=[t.row]) rfl rfl ?_;simp only[go_sem,JK,KC,frz,Kn];refine JU (isGreat t) ?_;by_cases h1:700<t.nodes.length\/20<t.items.length
 ·have hc:chk t=5:=by unfold chk;rw[if_pos h1]
  rw[decide_eq_true h1,hc];simp +contextual only[go_sem]
 ·rw[decide_eq_false h1];simp +contextual only[go_sem,Tr.row];refine JU (isForm t ht) ?_
  cases h2:frm t with
  |false=>
   have hc:chk t=4:=by unfold chk;rw[if_neg h1,if_neg (by rw[h2];simp)]
   rw[hc];simp +contextual only[go_sem]
  |true=>
   obtain⟨o,ho⟩:=frm_some h2;have hc:chk t=if Jbp t=true then 5 else 0:=by unfold chk;rw[if_neg h1,if_pos h2]
   rw[hc];simp +contextual only[go_sem];refine JU (isDeep t ht ho) ?_
   cases h3:Jbp t with
   |false=>simp +contextual only[go_sem]
   |true=>simp +contextual only[go_sem]
end Go.Cm
end
section
open Go.Proofs
namespace Go.Cm
section
variable {K:LU}{o:Lx}(t:Ordd K o){d m:Nat}(PK:d<=m)(hm:m<=K.length)(AQ:∀j:Nat,d<=j->j<m->(d:Int)<=fs o j)
include t AQ
include hm
end
theorem deepF_pre:∀(K:LU) (d:Lx),∃t,QS K d=d++t
 |[],d=>⟨[],by simp[QS]⟩
 |ks::K,d=>by obtain⟨t,ht⟩:=deepF_pre K (d++[ownD d ks]);exact⟨_,by rw[QS,ht,Lh]⟩
theorem deepF_take {K:LU}{m:Nat}(hm:m<=K.length):QS (K.take m) []=(QS K []).take m:=by
 have h:=Jfo (K.take m) (K.drop m) [];rw[GU]at h;obtain⟨t,ht⟩:=deepF_pre (K.drop m) (QS (K.take m) []);have hl:=JcR (K.take m) [];simp only[Gs,Gv,Gz]at hl;have Ez:(QS (K.take m) []).length=m:=by rw[hl];exact vz hm
 rw[h,ht,List.take_left' Ez]
def mvN (d:Int)(x:Nd):Nd:={ x with kids:=x.kids.map (· + d) }
structure GoodT (t:Tr)(o:Lx):Prop where
 many:t.nodes.length<=700
 items:t.items.length<=20
 ord:Ordd (JO t.nodes) o
 its:chain o t.nodes.length 0 t.items t.nodes.length
 defs:∀i∈t.items,Jw t.nodes i=65
 nds:∀x∈t.nodes,ndI t.nodes x=true
 deep:∀v∈QS (JO t.nodes) [],v<=30
theorem QF {l:LF}:(JO l).length=l.length:=by simp[JO]
theorem Jei (t:Tr):chk t=0↔∃o,GoodT t o:=by
 constructor
 ·intro h;unfold chk at h
  split at h
  ·simp at h
  ·rename_i h1
   split at h
   ·rename_i h2
    split at h
    ·simp at h
    ·rename_i h3;obtain⟨o,ho⟩:=frm_some h2;unfold frm at h2;rw[ho]at h2;simp only[Gi,GA]at h2;have Ao:=QU _ _ _ Xj.nil ho;have Bd:=QQ _ _ _ ho;simp only[Gs,Gv,QF]at Bd;obtain⟨c1,c2⟩:=(Yf Ao Bd t.items 0 om).1 h2.1;refine⟨o,⟨om,om,⟨ho⟩,c1,λi hi=>by simpa using c2 i hi,h2.2,λv hv=>?_⟩⟩;by_cases EI:v<=30
     ·exact EI
     ·refine absurd ?_ h3;unfold Jbp;rw[Hm];exact⟨v,hv,by simpa using Int.not_le.1 EI⟩
   ·simp at h
 ·rintro⟨o,g⟩;have h1:=g.many;have h2:=g.items;unfold chk;rw[iN7,if_pos,if_neg]
  ·unfold Jbp;rw[Hm];rintro⟨v,hv,hd⟩;have:=g.deep v hv;simp only[decide_eq_true_eq]at hd;omega
  ·unfold frm;rw[g.ord.h];have Bd:=g.ord.len;rw[QF]at Bd;simp only[Gi,GA];refine⟨(Yf g.ord.ok Bd t.items 0 om).2 ⟨g.its,λi hi=>by simpa using g.defs i hi⟩,g.nds⟩
namespace GoodT
variable {t:Tr}{o:Lx}(g:GoodT t o)
include g
theorem olen:o.length=t.nodes.length:=by rw[g.ord.len,QF]
theorem kid {j:Nat}(hj:j<t.nodes.length){k:Int}(hk:k∈(t.nodes.getD j default).kids):0<=k/\k<j:=by have:=g.ord.kid_rng (Kq hj) hk;omega
end GoodT
end Go.Cm
end
section
set_option maxRecDepth 100000
set_option maxHeartbeats 40000000
open Go.Proofs
namespace Go.Cm
variable {l:LA}{a i m n z:Nat}{q:UInt8->Bool}{P:Program}{x:Nd}{b:UInt8}
def JhK:Bool->LA->Nat
 |_,[]=>0
 |false,c::l=>if isBk c=true then JhK false l+1 else if c=126 then JhK true l+1 else 0
 |true,c::l=>if c=10 then JhK false l+1 else JhK true l+1
def Jaj (l:LA)(a:Nat):Nat:=a+JhK false (l.drop a)
theorem gapE_ge (l:LA)(a:Nat):a<=Jaj l a:=by unfold Jaj;omega
theorem JhL(h:l.length<=a):Jaj l a=a:=by unfold Jaj;rw[Gw h];simp[JhK]
def badB (c:UInt8):Bool:=!(c == 10) && (decide (c.toNat<32) || decide (126<c.toNat))
def badE (l:LA)(i:Nat):Nat×Int:=match l with
 |[]=>(0,0)
 |c::r=>if badB c=true then(i,4) else badE r (i+1)
def Yo (l:LA):Nat×Int:=if 2500<l.length then(0,5) else badE l 0
def rdF (l:LA):Nat->Nat->List (Nat×LA×Nat)->List (Nat×LA×Nat)×Nat×Int
 |0,_,acc=>(acc,0,0)
 |n+1,a,acc=>
  if Jaj l a<l.length then
   (if (tkL l (Jaj l a)).2.2=true then(if acc.length=900 then([],Jaj l a,5) else rdF l n (Jaj l a+(tkL l (Jaj l a)).2.1.length) (acc++[((tkL l (Jaj l a)).1,(tkL l (Jaj l a)).2.1,Jaj l a)])) else([],Jaj l a,4))
  else(acc,0,0)
def Jbb (l:LA):List (Nat×LA×Nat)×Nat×Int:=if (Yo l).2≠0 then([],(Yo l).1,(Yo l).2) else rdF l (l.length+1) 0 []
def kindR (l:LA):Nat:=match Jbb l with
 |([t],_,e)=>if e=0/\t.2.1=l then t.1 else 0
 |_=>0
theorem rdF_pre:∀(n a:Nat) (acc r:List (Nat×LA×Nat)) (p:Nat),rdF l n a acc=(r,p,0)->∃s,r=acc++s
 |0,a,acc,r,p,h=>by simp only[rdF,G8]at h;exact⟨[],by rw[<-h.1];simp⟩
 |n+1,a,acc,r,p,h=>by
  simp only[rdF]at h
  split at h
  ·split at h
   ·split at h
    ·simp at h
    ·obtain⟨s,hs⟩:=rdF_pre n _ _ r p h;exact⟨_,by rw[hs,Lh]⟩
   ·simp at h
  ·simp only[G8]at h;exact⟨[],by rw[<-h.1];simp⟩
theorem badB_alnum {c:UInt8}(h:Qj c=true):badB c=false:=by
 simp only[Qj,isLt,Xy,HY,Gi,decide_eq_true_eq]at h;have h1:¬c.toNat<32:=om;have h2:¬126<c.toNat:=om;simp[badB,h1,h2]
theorem badE_none:∀(l:LA) (i:Nat),(∀c∈l,badB c=false)->badE l i=(0,0)
 |[],i,_=>rfl
 |c::l,i,h=>by simp only[badE];rw[if_neg (by rw[h c sM];simp)];exact badE_none l (i+1) λx hx=>h x (by simp[hx])
theorem tk_name(h:(tkL l a).1=2):isLt (l.getD a 0)=true/\tkL l a=(2,cut l a (Xl Qj l a),decide ((cut l a (Xl Qj l a)).length<=12))/\kws.contains (cut l a (Xl Qj l a))=false:=by
 unfold tkL at h|-;by_cases h1:isLt (l.getD a 0)=true
 ·rw[if_pos h1]at h|-;by_cases h2:kws.contains (cut l a (Xl Qj l a))=true
  ·rw[if_pos h2]at h;simp at h
  ·rw[if_neg h2];exact⟨h1,rfl,by simpa using h2⟩
 ·rw[if_neg h1]at h
  split at h <;> simp at h
theorem kindR_name (l:LA):(kindR l == 2)=JdT l:=by
 rw[Gj,beq_iff_eq]
 constructor
 ·intro h;unfold kindR at h
  split at h
  ·rename_i t p e he
   split at h
   ·rename_i hc;obtain⟨iP,ht⟩:=hc;subst iP;unfold Jbb at he
    split at he
    ·simp only[G8]at he;simp at he
    ·simp only[rdF]at he
     split at he
     ·rename_i Ab
      split at he
      ·rename_i Ao
       split at he
       ·simp at he
       ·obtain⟨s,hs⟩:=rdF_pre _ _ _ _ _ he;simp only[Ho,GV,List.cons.injEq]at hs;obtain⟨rfl,-⟩:=hs
        dsimp only at ht h
        obtain⟨k1,k2,k3⟩:=tk_name h;rw[k2]at ht Ao
        dsimp only at ht Ao
        have hE:=Jad (q:=Qj) (Gm Ab);have BL:Jaj l 0<=Xl Qj l (Jaj l 0):=by unfold Xl;omega
        have Az:=Jbr BL hE;rw[ht]at Az k3 Ao;have h0:Jaj l 0=0:=om;rw[h0]at ht k1;have Am:=Jct.1 ht;have Ai:l≠[]:=by rintro rfl;simp at Ab
        unfold JdT;rw[k1,Am,k3,Ao];simp[Ai]
      ·simp at he
     ·simp at he
   ·simp at h
  ·simp at h
 ·intro h;unfold JdT at h;simp only[Gi,Ha,beq_eq_false_iff_ne,decide_eq_true_eq]at h;obtain⟨⟨⟨⟨h1,h2⟩,h3⟩,h4⟩,h5⟩:=h;have hb:Yo l=(0,0):=by unfold Yo;rw[iN7];exact badE_none l 0 λc hc=>badB_alnum (GA.1 h2 c hc)
  have Ey:0<l.length:=Hg.2 h5;have hg:Jaj l 0=0:=by
   unfold Jaj
   cases l with
   |nil=>rfl
   |cons c r=>have hg:=lt_gp (c:=c) (by simpa using h1);simp only[isGp,GD,beq_eq_false_iff_ne]at hg;simp only[GM,JhK,hg.1,Hz,if_false,if_neg hg.2]
  have Cw:cut l 0 (Xl Qj l 0)=l:=Jct.2 h2;have hT:tkL l 0=(2,l,true):=by unfold tkL;rw[if_pos h1,Cw,if_neg (by rw[h3];simp),decide_eq_true h4]
  have CP:Jaj l l.length=l.length:=JhL (Gf _);have hr:Jbb l=([(2,l,0)],0,0):=by
   unfold Jbb;rw[hb,if_neg sM];obtain⟨n,hn⟩:∃n,l.length=n+1:=⟨l.length-1,om⟩;have e1:rdF l (l.length+1) 0 []=rdF l l.length (0+l.length) ([]++[(2,l,0)]):=by rw[rdF,hg,if_pos Ey,hT,if_pos rfl,if_neg sM]
   have e2:rdF l (n+1) (0+l.length) ([]++[(2,l,0)])=([(2,l,0)],0,0):=by rw[rdF,Gv,CP,iN7];rfl
   rw[e1,<-e2,<-hn]
  unfold kindR;rw[hr];simp
theorem KF (c:UInt8):Fn Ga 158 [.int .u8 c.toNat] (.bool (isLt c)):=by
 refine Jb c158_ok rfl rfl λN=>?_
 have h1:=dle 97 c;have h2:=dge 122 c;simp only[Gd]at h1 h2;simp +contextual only[c158,go_sem,h1,h2,isLt]
theorem QC (c:UInt8):Fn Ga 157 [.int .u8 c.toNat] (.bool (Xy c)):=by
 refine Jb c157_ok rfl rfl λN=>?_
 have h1:=dle 48 c;have h2:=dge 57 c;simp only[Gd]at h1 h2;simp +contextual only[c157,go_sem,h1,h2,Xy]
theorem refHas (l:LV)(s:LA)(hl:l.length<=100000):Fn Ga 161 [.rslc 1 (sz l) none,S s] (.bool (l.contains s)):=by
 refine Jb c161_ok rfl rfl λN=>?_
 simp only[c161,go_sem];refine JL (I:=λi:Nat=>i<=l.length/\l.contains s=(l.drop i).contains s) (inv:=λi=>gp [(0,.rslc 1 (sz l) none),(0,S s),(3,.int .i64 (i:Int))] 12) (hp:=λ_=>[]) (μ:=λi=>l.length-i) 0 ⟨om,rfl⟩ ?_ rfl ?_
 ·simp[forget,gp]
 ·rintro i ⟨hi,Aa⟩;by_cases Ab:i<l.length
  ·have d1:=dtT i l.length;simp only[go_sem,JbX,d1];rw[sz_get Ab];refine anO ?_;rw[Gp Ab,Le]at Aa;rw[show l.getD i []=l[i] by rw[Gc,Gb Ab];rfl];generalize l[i]=x at Aa|-;have Iw:(x == s)=(s == x):=by rw[Gj,beq_iff_eq,beq_iff_eq];exact eq_comm
   cases hx:(x == s) with
   |true=>rw[<-Iw,hx,GR]at Aa;simp only[go_sem,hx,Aa]
   |false=>rw[<-Iw,hx,HZ]at Aa;simp only[go_sem,hx];refine⟨Jg,i+1,⟨om,Aa⟩,om,?_⟩;simp[forget]
  ·have d1:=dfF i l.length;rw[Gw om]at Aa;simp only[go_sem,JbX,d1,Aa]
   try rfl
theorem refLexCheck (l:LA)(hl:l.length<=1000000):Fn Ga 116 [S l] (.tup [.int .i64 ((Yo l).1:Nat),.int .i64 (Yo l).2]):=by
 refine Jb c116_ok rfl rfl λN=>?_
 by_cases Df:2500<l.length
 ·have d0:((2500:Int)<(l.length:Int))=True:=J4;have hc:Yo l=(0,5):=by unfold Yo;rw[if_pos Df]
  simp only[c116,go_sem,d0,hc]
  try rfl
 ·have d0:((2500:Int)<(l.length:Int))=False:=JS;have hc:Yo l=badE l 0:=by unfold Yo;rw[if_neg Df]
  simp only[c116,go_sem,d0,hc];refine JL (I:=λi:Nat=>i<=l.length/\badE l 0=badE (l.drop i) i) (inv:=λi=>gp [(0,S l),(3,.int .i64 (i:Int))] 26) (hp:=λ_=>[]) (μ:=λi=>l.length-i) 0 ⟨om,rfl⟩ ?_ rfl ?_
  ·simp[forget,gp]
  ·rintro i ⟨hi,Aa⟩;by_cases Ab:i<l.length
   ·have d1:=dtT i l.length;rw[Gp Ab,badE]at Aa;have hg:l.getD i 0=l[i]:=by rw[Gc,Gb Ab];rfl
    rw[<-hg]at Aa;simp only[go_sem,d1];generalize l.getD i 0=c at Aa|-;have Ai:=deq 10 vk c;simp only[Gd]at Ai;refine anO ?_;by_cases EP:c=10
    ·have e1:((c.toNat:Int) != 10)=false:=by rw[bne,Ai];simp[EP]
     rw[if_neg (by simp[badB,EP])]at Aa;simp only[go_sem,e1];refine⟨Jg,i+1,⟨om,Aa⟩,om,?_⟩;simp[forget]
    ·have e1:((c.toNat:Int) != 10)=true:=by rw[bne,Ai];simp[EP]
     by_cases Po:c.toNat<32
     ·have e2:((c.toNat:Int)<32)=True:=J4;rw[if_pos (by simp[badB,EP,Po])]at Aa;simp only[go_sem,e1,e2,Aa];omega
     ·have e2:((c.toNat:Int)<32)=False:=JS;by_cases EF:126<c.toNat
      ·have e3:((126:Int)<(c.toNat:Int))=True:=J4;rw[if_pos (by simp[badB,EP,EF])]at Aa;simp only[go_sem,e1,e2,e3,Aa];omega
      ·have e3:((126:Int)<(c.toNat:Int))=False:=JS;rw[if_neg (by simp[badB,Po,EF])]at Aa;simp only[go_sem,e1,e2,e3];refine⟨om,om,Jg,i+1,⟨om,Aa⟩,om,?_⟩;simp[forget]
   ·have d1:=dfF i l.length;rw[Gw om]at Aa;simp only[go_sem,d1,Aa,badE]
    try rfl
theorem refGap (l:LA)(a:Nat)(ha:a<=l.length)(hl:l.length<=1000000):Fn Ga 117 [S l,.int .i64 (a:Int)] (.int .i64 (Jaj l a:Nat)):=by
 refine Jb c117_ok rfl rfl λN=>?_
 simp only[c117,go_sem];refine JL (I:=λi:Nat=>i<=l.length/\Jaj l a=Jaj l i) (inv:=λi=>gp [(0,S l),(0,.int .i64 (i:Int))] 39) (hp:=λ_=>[]) (μ:=λi=>l.length-i) a ⟨ha,rfl⟩ ?_ rfl ?_
 ·simp[forget,gp]
 ·rintro i ⟨hi,Aa⟩;by_cases Ab:i<l.length
  ·have d1:=dtT i l.length;have hg:l.getD i 0=l[i]:=by rw[Gc,Gb Ab];rfl
   have Av:Jaj l i=i+JhK false (l.getD i 0::l.drop (i+1)):=by unfold Jaj;rw[Gp Ab,hg]
   simp only[go_sem,d1];obtain⟨c,hc⟩:∃c,c=l.getD i 0:=⟨_,rfl⟩;rw[<-hc]at Av|-;have q1:=deq 32 vk c;have q2:=deq 10 vk c;have q3:=deq 126 vk c;simp only[Gd]at q1 q2 q3;refine anO ?_;by_cases Po:c=32
   ·have e1:((c.toNat:Int) == 32)=true:=by rw[q1];simp[Po]
    have hs:Jaj l i=Jaj l (i+1):=by rw[Av,JhK,if_pos (by simp[isBk,Po])];unfold Jaj;omega
    simp only[go_sem,e1];refine⟨Jg,i+1,⟨om,by rw[Aa,hs]⟩,om,?_⟩;simp[forget]
   ·have e1:((c.toNat:Int) == 32)=false:=by rw[q1];simp[Po]
    by_cases EP:c=10
    ·have e2:((c.toNat:Int) == 10)=true:=by rw[q2];simp[EP]
     have hs:Jaj l i=Jaj l (i+1):=by rw[Av,JhK,if_pos (by simp[isBk,EP])];unfold Jaj;omega
     simp only[go_sem,e1,e2,<-hc];refine⟨om,Jg,i+1,⟨om,by rw[Aa,hs]⟩,om,?_⟩;simp[forget]
    ·have e2:((c.toNat:Int) == 10)=false:=by rw[q2];simp[EP]
     by_cases EF:c=126
     ·have e3:((c.toNat:Int) == 126)=true:=by rw[q3];simp[EF]
      have hs:Jaj l i=i+JhK true (l.drop i):=by rw[Av,Gp Ab,<-hg,<-hc,JhK,if_neg (by simp[isBk,EF]),if_pos EF,JhK,if_neg EP]
      simp only[go_sem,e1,e2,e3,<-hc];refine⟨om,om,?_⟩;refine JL (I:=λj:Nat=>i<=j/\j<=l.length/\Jaj l i=j+JhK true (l.drop j)) (inv:=λj=>gp [(0,S l),(0,.int .i64 (j:Int))] 39) (hp:=λ_=>[]) (μ:=λj=>l.length-j) i ⟨om,om,hs⟩ ?_ rfl ?_
      ·simp[forget,gp]
      ·rintro j ⟨Cv,hj,E8⟩;by_cases A8:j<l.length
       ·have d2:=dtT j l.length;have Bp:l.getD j 0=l[j]:=by rw[Gc,Gb A8];rfl
        rw[Gp A8,<-Bp]at E8;simp only[go_sem,d2];have FH:j=i->l.getD j 0≠10:=by rintro rfl;rw[<-hc];exact EP
        obtain⟨x,Ms⟩:∃x,x=l.getD j 0:=⟨_,rfl⟩;rw[<-Ms]at E8 FH|-;have q4:=deq 10 vk x;simp only[Gd]at q4;refine anO ?_;by_cases hx:x=10
        ·have e4:((x.toNat:Int) != 10)=false:=by rw[bne,q4];simp[hx]
         rw[JhK,if_pos hx]at E8;have Ai:j≠i:=λh=>FH h hx
         have IC:Jaj l i=Jaj l j:=by rw[E8];unfold Jaj;rw[Gp A8,<-Bp,<-Ms,JhK,if_pos (by simp[isBk,hx])]
         simp only[go_sem,e4];refine⟨j,⟨om,by rw[Aa,IC]⟩,om,?_⟩;simp[forget]
        ·have e4:((x.toNat:Int) != 10)=true:=by rw[bne,q4];simp[hx]
         rw[JhK,if_neg hx]at E8;simp only[go_sem,e4];refine⟨Jg,j+1,⟨om,om,om⟩,om,?_⟩;simp[forget]
       ·have d2:=dfF j l.length;have Cq:j=l.length:=om;simp only[go_sem,d2];refine⟨j,⟨om,?_⟩,om,?_⟩
        ·rw[Aa,E8,JhL om,Gw om];simp[JhK]
        ·simp[forget]
     ·have e3:((c.toNat:Int) == 126)=false:=by rw[q3];simp[EF]
      have hs:Jaj l i=i:=by rw[Av,JhK,if_neg (by simp[isBk,Po,EP]),if_neg EF];rfl
      simp only[go_sem,e1,e2,e3,<-hc];refine⟨om,om,?_⟩;rw[Aa,hs]
  ·have d1:=dfF i l.length;simp only[go_sem,d1];rw[Aa,JhL om]
theorem decA_take(h:i<l.length):Jcf 0 (l.take (i+1))=Jcf 0 (l.take i)*10+((l.getD i 0).toNat-48):=by rw[Gu h,Jh3,Jbq];rw[show l.getD i 0=l[i] by rw[Gc,Gb h];rfl];rfl
theorem decA_pre(i:Nat):Jcf 0 (l.take i)<=JcT l:=by
 have:JcT l=Jcf (Jcf 0 (l.take i)) (l.drop i):=by rw[<-Jh3,GU];rfl
 rw[this];exact Jh2 _ _
def numV (l:LA):Int:=if Jb8 l=true then(JcT l:Int) else -1
theorem numV_ok (l:LA):decide (0<=numV l)=Jb8 l:=by
 unfold numV
 split
 ·rename_i h;rw[h];simp
 ·rename_i h;simp at h;rw[h];rfl
theorem refNumber (l:LA)(hd:l.all Xy=true)(hl:l.length<=1000000):Fn Ga 160 [S l] (.int .i64 (numV l)):=by
 refine Jb c160_ok rfl rfl λN=>?_
 simp only[c160,go_sem];refine JL (I:=λi:Nat=>i<=l.length/\Jcf 0 (l.take i)<=1000000000) (inv:=λi=>gp [(0,S l),(2,.int .i64 (Jcf 0 (l.take i):Nat)),(0,.int .i64 (i:Int))] 25) (hp:=λ_=>[]) (μ:=λi=>l.length-i) 0 ⟨om,by simp[Jcf]⟩ ?_ rfl ?_
 ·simp[forget,gp,Jcf]
 ·rintro i ⟨hi,Aa⟩;by_cases Ab:i<l.length
  ·have d1:=dtT i l.length;have dJ:Xy (l.getD i 0)=true:=by rw[Gc,Gb Ab];exact GA.1 hd _ (Gg Ab)
   have Al:=decA_take Ab;have Bi:=decA_pre (l:=l) (i+1);simp only[Xy,Gi,decide_eq_true_eq]at dJ;simp only[go_sem,d1];generalize l.getD i 0=c at dJ Al|-;generalize Jcf 0 (l.take i)=v at Aa Al|-;rw[Al]at Bi;refine⟨Jg,om,⟨by show (0:Int)<=_;omega,by show _<=(255:Int);omega⟩,Jg,Jg,?_⟩;by_cases Df:1000000000<v*10+(c.toNat-48)
   ·have d2:((1000000000:Int)<10*(v:Int)+((c.toNat:Int)-48))=True:=J4;have hn:numV l = -1:=by unfold numV;rw[if_neg];unfold Jb8;rw[decide_eq_false om];simp
    simp only[go_sem,d2,hn]
   ·have d2:((1000000000:Int)<10*(v:Int)+((c.toNat:Int)-48))=False:=JS;simp only[go_sem,d2];refine⟨Jg,i+1,⟨om,om⟩,om,?_⟩;have e:((v*10+(c.toNat-48):Nat):Int)=10*(v:Int)+((c.toNat:Int)-48):=om;rw[Al,e];simp[forget]
  ·have d1:=dfF i l.length;have CO:i=l.length:=om;subst CO;rw[Gn]at Aa;have hv:Jcf 0 l=JcT l:=rfl;by_cases h1:1<l.length
   ·have d2:((1:Int)<(l.length:Int))=True:=J4;simp only[go_sem,d1,d2,Gn];have hq:=deq 48 vk (l.getD 0 0);simp only[Gd]at hq;have hh:l.head? = some (l.getD 0 0):=by cases l with
     |nil=>simp at h1
     |cons a r=>rfl
    by_cases PT:l.getD 0 0=48
    ·have e1:(((l.getD 0 0).toNat:Int) == 48)=true:=by rw[hq,PT];rfl
     have hn:numV l = -1:=by
      unfold numV;rw[if_neg];unfold Jb8;rw[hh,PT];have:¬(l.length=1\/some (48:UInt8)≠some 48):=by simp;omega
      rw[decide_eq_false this];simp
     refine anO ?_;simp only[go_sem,e1,hn]
    ·have e1:(((l.getD 0 0).toNat:Int) == 48)=false:=by rw[hq];exact beq_eq_false_iff_ne.2 PT
     have hn:numV l=JcT l:=by unfold numV;rw[if_pos];unfold Jb8;rw[hh];have:(l.length=1\/some (l.getD 0 0)≠some (48:UInt8)):=.inr (by simpa using PT);rw[decide_eq_true this,decide_eq_true om];rfl
     refine anO ?_;simp only[go_sem,e1,hn,hv]
   ·have d2:((1:Int)<(l.length:Int))=False:=JS;have hn:numV l=JcT l:=by
     unfold numV;rw[if_pos];unfold Jb8;have:(l.length=1\/l.head?≠some (48:UInt8)):=by
      cases l with
      |nil=>right;simp
      |cons a r=>left;simp at h1;simp[h1]
     rw[decide_eq_true this,decide_eq_true om];rfl
    simp only[go_sem,d1,d2,Gn,hn,hv]
theorem cut_take (l:LA)(a n:Nat):cut l a (a+n)=(l.drop a).take n:=by unfold cut;rw[Lt,vU]
theorem refSign (l:LA)(a:Nat)(ha:a<l.length)(hl:l.length<=1000000):Fn Ga 159 [S l,.int .i64 (a:Int)] (.tup [.agg (lxz 4 (sgnL (l.drop a)) a),.int .i64 ((a+(sgnL (l.drop a)).length:Nat):Int),.bool (!(sgnL (l.drop a) == []))]):=by
 refine Jb c159_ok rfl rfl λN=>?_
 simp only[c159,go_sem];refine JU apiSigns ?_;simp only[go_sem];have Ck:sgs.length=26:=rfl;have Bo:=sgnF_len (r:=l.drop a) sgs [] sM sgs_len;have CP:(sgnL (l.drop a)).length<=2:=Bo;refine JL (σ:=Nat×LA) (I:=λs=>s.1<=sgs.length/\sgnL (l.drop a)=sgnF (l.drop a) (sgs.drop s.1) s.2) (inv:=λs=>gp [(0,S l),(0,.int .i64 (a:Int)),(2,.ptr 0 0 0),(2,S s.2),(0,.rslc 1 (sz sgs) none),(0,.int .i64 (s.1:Int))] 51) (hp:=λs=>[.arr 3 [[.int .u8 0,S [],.int .i64 0]]]) (μ:=λs=>sgs.length-s.1) (0,[]) ⟨om,rfl⟩ ?_ rfl ?_
 ·simp[forget,gp]
 ·rintro⟨i,b⟩ ⟨hi,Aa⟩;simp only at hi Aa;by_cases Ab:i<sgs.length
  ·have d1:=dtT i sgs.length;simp only[go_sem,JbX,d1];have Dm:=sz_get Ab;have Rk:=sgs_len _ (Gg Ab);rw[Gp Ab,sgnF]at Aa;rw[show sgs.getD i []=sgs[i] by rw[Gc,Gb Ab];rfl]at Dm;generalize sgs[i]=s at Aa Dm Rk|-;rw[Dm];refine anO ?_;simp only[go_sem];refine JQ Jm vk ?_;by_cases hb:b.length<s.length
   ·have d2:=dtT b.length s.length;by_cases AQ:a+s.length<=l.length
    ·have d3:((a:Int)+(s.length:Int)<=(l.length:Int))=True:=J4;have bZ:((a:Int)+(s.length:Int)).toNat=a+s.length:=om;have Cw:List.drop a (List.take (a+s.length) l)=(l.drop a).take s.length:=cut_take l a s.length;by_cases hp:(l.drop a).take s.length=s
     ·have e1:((l.drop a).take s.length == s)=true:=beq_iff_eq.2 hp;rw[if_pos ⟨hp,hb⟩]at Aa;simp only[go_sem,JbX,d2,d3,Dm,bZ,Cw,e1];refine⟨Jg,Jg,om,om,om,Jg,(i+1,s),⟨by simp only;omega,Aa⟩,by simp only;omega,?_⟩;simp[forget]
     ·have e1:((l.drop a).take s.length == s)=false:=beq_eq_false_iff_ne.2 hp;rw[if_neg (λh=>hp h.1)]at Aa;simp only[go_sem,JbX,d2,d3,Dm,bZ,Cw,e1];refine⟨Jg,Jg,om,om,Jg,(i+1,b),⟨by simp only;omega,Aa⟩,by simp only;omega,?_⟩;simp[forget]
    ·have d3:((a:Int)+(s.length:Int)<=(l.length:Int))=False:=JS;have hp:(l.drop a).take s.length≠s:=by intro e;have:=congrArg GJ e;rw[Gz,Ll]at this;omega
     rw[if_neg (λh=>hp h.1)]at Aa;simp only[go_sem,d2,d3];refine⟨Jg,Jg,(i+1,b),⟨by simp only;omega,Aa⟩,by simp only;omega,?_⟩;simp[forget]
   ·have d2:=dfF b.length s.length;rw[if_neg (λh=>hb h.2)]at Aa;simp only[go_sem,d2];refine⟨Jg,(i+1,b),⟨by simp only;omega,Aa⟩,by simp only;omega,?_⟩;simp[forget]
  ·have d1:=dfF i sgs.length;have:i=sgs.length:=om;subst this;rw[Lm,sgnF]at Aa;rw[Aa]at CP|-;simp only[go_sem,JbX,d1];refine⟨Jg,?_⟩;simp only[lxz];rfl
def qAt (c:UInt8):UInt8->Bool:=if isLt c=true then Qj else Xy
theorem Jhe:∀(n a i:Nat),n=i-a->a<=i->i<Xl q l a->i<l.length->q (l.getD i 0)=true
 |0,a,i,hn,h1,h2,h3=>by
  have:a=i:=om;subst this
  cases hq:q (l.getD a 0) with
  |true=>rfl
  |false=>rw[JeD h3 hq]at h2;omega
 |n+1,a,i,hn,h1,h2,h3=>by
  cases hq:q (l.getD a 0) with
  |true=>rw[Jd0 om hq]at h2;exact Jhe n (a+1) i om om h2 h3
  |false=>rw[JeD om hq]at h2;omega
theorem Jd1:∀(n a:Nat),n=l.length-a->Xl q l a<l.length->q (l.getD (Xl q l a) 0)=false
 |0,a,hn,h=>by
  have:a<=Xl q l a:=by unfold Xl;omega
  omega
 |n+1,a,hn,h=>by
  have:a<=Xl q l a:=by unfold Xl;omega
  cases hq:q (l.getD a 0) with
  |true=>rw[Jd0 om hq]at h|-;exact Jd1 n (a+1) om h
  |false=>rw[JeD om hq];exact hq
theorem lt_dg {c:UInt8}(h:isLt c=true):Xy c=false:=by
 simp only[isLt,Gi,decide_eq_true_eq]at h;have:¬c.toNat<=57:=om;simp[Xy,this]
section
variable{E:Env}{H:Lv}{T:Lu}
theorem hs_st {d:Option Nat}{a v:IArg}{id off:Nat}{els:LQ}{cs:Lu}(ha:Kg T a=.ptr id i off)(hv:(Kg T v).cells=some cs)(hH:H[id]? = some (.arr z els))(hn:cs.length=n/\Xk cs=true)(hc:i+1<=els.length/\off+n<=(els.getD i []).length) :
  HS P E ⟨d,.store n a v,none⟩ T H .un (H.set id (.arr z (els.set i (splice (els.getD i []) off cs)))) (.on [id+1],.on [id+1]):=by
 refine⟨λx hx=>?_,λT2 H2 Cs hx=>?_⟩
 ·cases x with
  |zero=>simp[hat]
  |succ x=>
   have Ai:¬id=x:=λe=>hx (by simp[Foot.has,e])
   simp[hat,Ai]
 ·have eH:H2[id]? = some (.arr z els):=by have:=hx (id+1) (by simp[Foot.has]);simpa [hat,hH]using this
  refine⟨H2.set id (.arr z (els.set i (splice (els.getD i []) off cs))),λx hx=>?_,λx hx=>?_,λ_ _ _ _ _ Ao=>JeY (.inl rfl) (c:=.and (.le (i+1) els.length) (.le (off+n) (els.getD i []).length)) (v:=.un) ?_ hc Ao⟩
  ·simp only[Foot.has,GI,List.not_mem_nil,or_false]at hx;subst hx;have h1:=(Gl.1 hH).1;have h2:=(Gl.1 eH).1;simp[hat,h1,h2]
  ·cases x with
   |zero=>simp[hat]
   |succ x=>
    have Ai:¬id=x:=λe=>hx (by simp[Foot.has,e])
    simp[hat,Ai]
  ·rw[<-QG (Jj Cs).2];simp only[exec,ha,hv,eH];rw[if_pos hn]
end
theorem refAtS (l:LA)(a:Nat)(ha:a<l.length)(hl:l.length<=1000000)(h1:isLt (l.getD a 0)=false)(h2:Xy (l.getD a 0)=false):Fn Ga 118 [S l,.int .i64 (a:Int)] (.tup [.agg (lxz (tkL l a).1 (tkL l a).2.1 a),.int .i64 ((a+(tkL l a).2.1.length:Nat):Int),.bool (tkL l a).2.2]):=by
 refine Jb c118_ok rfl rfl λN=>?_
 simp only[c118,go_sem];obtain⟨c0,DF⟩:∃c,c=l.getD a 0:=⟨_,rfl⟩;obtain⟨q,hq⟩:∃q,q=qAt c0:=⟨_,rfl⟩;have D6:q=Xy:=by rw[hq,qAt,DF];first|rw[if_pos h1]|rw[if_neg (by rw[h1];simp)]
 obtain⟨E,hE⟩:∃E,E=Xl q l a:=⟨_,rfl⟩;have UJ:E<=l.length:=by rw[hE];exact Jad (Gm ha)
 have UK:a<=E:=by rw[hE];unfold Xl;omega
 have AQ:∀i,a<=i->i<E->q (l.getD i 0)=true:=λi h1 h2=>Jhe _ a i rfl h1 (by rw[<-hE];exact h2) om
 have A7:E<l.length->q (l.getD E 0)=false:=λh=>by rw[hE]at h|-;exact Jd1 _ a rfl h
 have bK:E=a:=by rw[hE,D6];exact JeD ha h2
 have hT:tkL l a=(4,sgnL (l.drop a),!(sgnL (l.drop a) == [])):=by unfold tkL;rw[if_neg (by rw[h1];simp),if_neg (by rw[h2];simp)]
 rw[hT];have Es:((E:Int) == (a:Int))=true:=by rw[bK];simp
 refine JL (I:=λi:Nat=>a<=i/\i<=E) (inv:=λi=>gp [(0,S l),(0,.int .i64 (a:Int)),(2,.ptr 0 0 0),(2,.int .i64 (i:Int))] 69) (hp:=λ_=>[.arr 3 [[.int .u8 0,S [],.int .i64 0]]]) (μ:=λi=>l.length-i) a ⟨om,om⟩ ?_ rfl ?_
 ·simp[forget,gp]
 ·rintro i ⟨Mk,hi⟩;by_cases BO:i<E
  ·have Ab:i<l.length:=om;have d1:=dtT i l.length;have Da:=AQ i Mk BO;simp only[go_sem,d1];refine anO ?_;refine Ka (gok rfl) (QC _) ?_
   cases Eb:Xy (l.getD i 0) with
   |true=>simp only[go_sem];refine⟨Jg,i+1,⟨om,om⟩,om,?_⟩;simp[forget]
   |false=>
    rw[hq,qAt]at Da;by_cases A9:isLt c0=true
    ·rw[if_pos A9]at Da;simp only[Qj,Eb,Hd]at Da;simp only[go_sem];refine anO ?_;refine Ka (gok rfl) (KF _) ?_;simp only[go_sem,Da];refine anO ?_;rw[<-DF];refine Ka (gok rfl) (KF _) ?_;simp only[go_sem,A9];refine⟨Jg,i+1,⟨om,om⟩,om,?_⟩;simp[forget]
    ·rw[if_neg A9,Eb]at Da;cases Da
  ·have CO:i=E:=om;subst CO;rcases (show l.length<=i\/(i<l.length/\Xy (l.getD i 0)=false/\isLt (l.getD i 0)=false)\/(i<l.length/\Xy (l.getD i 0)=false/\isLt (l.getD i 0)=true/\isLt c0=false) from by
    by_cases h1:i<l.length
    ·have h2:=A7 h1;rw[hq,qAt]at h2;by_cases A9:isLt c0=true
     ·rw[if_pos A9]at h2;simp only[Qj,GD]at h2;exact .inr (.inl ⟨h1,h2.2,h2.1⟩)
     ·rw[if_neg A9]at h2
      cases h3:isLt (l.getD i 0) with
      |true=>exact .inr (.inr ⟨h1,h2,rfl,by simpa using A9⟩)
      |false=>exact .inr (.inl ⟨h1,h2,rfl⟩)
    ·exact .inl om) with hw|⟨P7,EH,Ir⟩|⟨P7,EH,Ir,P6⟩
   case' inl=>have d1:=dfF i l.length;simp only[go_sem,d1,Es]
   case' inr.inl=>have d1:=dtT i l.length;simp only[go_sem,d1];refine anO ?_;refine Ka (gok rfl) (QC _) ?_;simp only[go_sem,EH];refine anO ?_;refine Ka (gok rfl) (KF _) ?_;simp only[go_sem,Ir,Es]
   case' inr.inr=>have d1:=dtT i l.length;simp only[go_sem,d1];refine anO ?_;refine Ka (gok rfl) (QC _) ?_;simp only[go_sem,EH];refine anO ?_;refine Ka (gok rfl) (KF _) ?_;simp only[go_sem,Ir];refine anO ?_;rw[<-DF];refine Ka (gok rfl) (KF _) ?_;simp only[go_sem,P6,Es]
   all_goals (
    refine anO ?_;refine JU (refSign l a ha hl) ?_;simp only[go_sem,lxz,splice]
   )
theorem refAtL (l:LA)(a:Nat)(ha:a<l.length)(hl:l.length<=1000000)(h1:isLt (l.getD a 0)=true):Fn Ga 118 [S l,.int .i64 (a:Int)] (.tup [.agg (lxz (tkL l a).1 (tkL l a).2.1 a),.int .i64 ((a+(tkL l a).2.1.length:Nat):Int),.bool (tkL l a).2.2]):=by
 refine Jb c118_ok rfl rfl λN=>?_
 simp only[c118,go_sem];obtain⟨c0,DF⟩:∃c,c=l.getD a 0:=⟨_,rfl⟩;obtain⟨q,hq⟩:∃q,q=qAt c0:=⟨_,rfl⟩;have D6:q=Qj:=by rw[hq,qAt,DF];first|rw[if_pos h1]|rw[if_neg (by rw[h1];simp)]
 obtain⟨E,hE⟩:∃E,E=Xl q l a:=⟨_,rfl⟩;have UJ:E<=l.length:=by rw[hE];exact Jad (Gm ha)
 have UK:a<=E:=by rw[hE];unfold Xl;omega
 have AQ:∀i,a<=i->i<E->q (l.getD i 0)=true:=λi h1 h2=>Jhe _ a i rfl h1 (by rw[<-hE];exact h2) om
 have A7:E<l.length->q (l.getD E 0)=false:=λh=>by rw[hE]at h|-;exact Jd1 _ a rfl h
 have h2:=lt_dg h1;have bK:a<E:=by rw[hE,D6];exact Jb5 ha (by simp only[Qj,h1,GR])
 have hT:tkL l a=if kws.contains (cut l a E)=true then(1,cut l a E,true) else(2,cut l a E,decide ((cut l a E).length<=12)):=by unfold tkL;rw[if_pos h1,hE,D6]
 have Az:=Jbr UK UJ;have Cw:(l.take E).drop a=cut l a E:=rfl;rw[hT];have Es:((E:Int) == (a:Int))=false:=by rw[beq_eq_false_iff_ne];omega
 refine JL (I:=λi:Nat=>a<=i/\i<=E) (inv:=λi=>gp [(0,S l),(0,.int .i64 (a:Int)),(2,.ptr 0 0 0),(2,.int .i64 (i:Int))] 69) (hp:=λ_=>[.arr 3 [[.int .u8 0,S [],.int .i64 0]]]) (μ:=λi=>l.length-i) a ⟨om,om⟩ ?_ rfl ?_
 ·simp[forget,gp]
 ·rintro i ⟨Mk,hi⟩;by_cases BO:i<E
  ·have Ab:i<l.length:=om;have d1:=dtT i l.length;have Da:=AQ i Mk BO;simp only[go_sem,d1];refine anO ?_;refine Ka (gok rfl) (QC _) ?_
   cases Eb:Xy (l.getD i 0) with
   |true=>simp only[go_sem];refine⟨Jg,i+1,⟨om,om⟩,om,?_⟩;simp[forget]
   |false=>
    rw[hq,qAt]at Da;by_cases A9:isLt c0=true
    ·rw[if_pos A9]at Da;simp only[Qj,Eb,Hd]at Da;simp only[go_sem];refine anO ?_;refine Ka (gok rfl) (KF _) ?_;simp only[go_sem,Da];refine anO ?_;rw[<-DF];refine Ka (gok rfl) (KF _) ?_;simp only[go_sem,A9];refine⟨Jg,i+1,⟨om,om⟩,om,?_⟩;simp[forget]
    ·rw[if_neg A9,Eb]at Da;cases Da
  ·have CO:i=E:=om;subst CO;rcases (show l.length<=i\/(i<l.length/\Xy (l.getD i 0)=false/\isLt (l.getD i 0)=false)\/(i<l.length/\Xy (l.getD i 0)=false/\isLt (l.getD i 0)=true/\isLt c0=false) from by
    by_cases h1:i<l.length
    ·have h2:=A7 h1;rw[hq,qAt]at h2;by_cases A9:isLt c0=true
     ·rw[if_pos A9]at h2;simp only[Qj,GD]at h2;exact .inr (.inl ⟨h1,h2.2,h2.1⟩)
     ·rw[if_neg A9]at h2
      cases h3:isLt (l.getD i 0) with
      |true=>exact .inr (.inr ⟨h1,h2,rfl,by simpa using A9⟩)
      |false=>exact .inr (.inl ⟨h1,h2,rfl⟩)
    ·exact .inl om) with hw|⟨P7,EH,Ir⟩|⟨P7,EH,Ir,P6⟩
   case' inl=>have d1:=dfF i l.length;simp only[go_sem,d1,Es,Cw]
   case' inr.inl=>have d1:=dtT i l.length;simp only[go_sem,d1];refine anO ?_;refine Ka (gok rfl) (QC _) ?_;simp only[go_sem,EH];refine anO ?_;refine Ka (gok rfl) (KF _) ?_;simp only[go_sem,Ir,Es,Cw]
   case' inr.inr=>have d1:=dtT i l.length;simp only[go_sem,d1];refine anO ?_;refine Ka (gok rfl) (QC _) ?_;simp only[go_sem,EH];refine anO ?_;refine Ka (gok rfl) (KF _) ?_;simp only[go_sem,Ir];refine anO ?_;rw[<-DF];refine Ka (gok rfl) (KF _) ?_;simp only[go_sem,P6,Es,Cw]
   all_goals (
    refine⟨om,om,?_⟩;refine JU (QC _) ?_;simp only[go_sem,h2];generalize hx:cut l a i=x at Az|-;have iA:=refHas kws x vk;refine Jbw [Foot.no,Foot.no,(.on [2],.on []),Foot.no,Foot.no] Jm vM ?_;refine⟨_,_,hs_f (.inl rfl) JfC,_,_,Jah rfl rfl trivial,_,_,hs_ld (id:=1) (i:=0) (off:=1) rfl rfl ⟨Gf 1,(by decide:2<=3)⟩,_,_,hs_f (.inl rfl) iA,_,_,Jah rfl rfl trivial,?_⟩;simp only[vdf,go_sem,splice]
    cases hk:kws.contains x with
    |true=>simp only[go_sem];rw[show a+x.length=i by omega];rfl
    |false=>have e12:decide ((x.length:Int)<=12)=decide (x.length<=12):=decide_eq_decide.2 om;simp only[go_sem];refine Jbw [(.on [2],.on []),Foot.no,Foot.no,(.on [2],.on []),Foot.no,Foot.no,(.on [1],.on [1]),Foot.no,Foot.no] Jm vM ?_;refine⟨_,_,hs_ld (id:=1) (i:=0) (off:=0) rfl rfl ⟨Gf 1,Gf 3⟩,_,_,Jah rfl rfl trivial,_,_,Jah rfl rfl trivial,_,_,hs_ld (id:=1) (i:=0) (off:=1) rfl rfl ⟨Gf 1,(by decide:2<=3)⟩,_,_,Jah rfl rfl trivial,_,_,Jah rfl rfl trivial,_,_,hs_st (id:=0) (i:=0) (off:=0) rfl rfl rfl ⟨rfl,rfl⟩ ⟨Gf 1,Gf 3⟩,_,_,Jah rfl rfl trivial,_,_,Jah rfl rfl trivial,?_⟩;simp only[vdf,go_sem,splice,e12];rw[show a+x.length=i by omega];rfl
   )
theorem refAtD (l:LA)(a:Nat)(ha:a<l.length)(hl:l.length<=1000000)(h1:isLt (l.getD a 0)=false)(h2:Xy (l.getD a 0)=true):Fn Ga 118 [S l,.int .i64 (a:Int)] (.tup [.agg (lxz (tkL l a).1 (tkL l a).2.1 a),.int .i64 ((a+(tkL l a).2.1.length:Nat):Int),.bool (tkL l a).2.2]):=by
 refine Jb c118_ok rfl rfl λN=>?_
 simp only[c118,go_sem];obtain⟨c0,DF⟩:∃c,c=l.getD a 0:=⟨_,rfl⟩;obtain⟨q,hq⟩:∃q,q=qAt c0:=⟨_,rfl⟩;have D6:q=Xy:=by rw[hq,qAt,DF];first|rw[if_pos h1]|rw[if_neg (by rw[h1];simp)]
 obtain⟨E,hE⟩:∃E,E=Xl q l a:=⟨_,rfl⟩;have UJ:E<=l.length:=by rw[hE];exact Jad (Gm ha)
 have UK:a<=E:=by rw[hE];unfold Xl;omega
 have AQ:∀i,a<=i->i<E->q (l.getD i 0)=true:=λi h1 h2=>Jhe _ a i rfl h1 (by rw[<-hE];exact h2) om
 have A7:E<l.length->q (l.getD E 0)=false:=λh=>by rw[hE]at h|-;exact Jd1 _ a rfl h
 have bK:a<E:=by rw[hE,D6];exact Jb5 ha h2
 have hT:tkL l a=(3,cut l a E,Jb8 (cut l a E)):=by unfold tkL;rw[if_neg (by rw[h1];simp),if_pos h2,hE,D6]
 have Az:=Jbr UK UJ;have Cw:(l.take E).drop a=cut l a E:=rfl;have Aj:=run_all (q:=Xy) (Gm ha);rw[show Xl Xy l a=E by rw[hE,D6]]at Aj;rw[hT];have Es:((E:Int) == (a:Int))=false:=by rw[beq_eq_false_iff_ne];omega
 refine JL (I:=λi:Nat=>a<=i/\i<=E) (inv:=λi=>gp [(0,S l),(0,.int .i64 (a:Int)),(2,.ptr 0 0 0),(2,.int .i64 (i:Int))] 69) (hp:=λ_=>[.arr 3 [[.int .u8 0,S [],.int .i64 0]]]) (μ:=λi=>l.length-i) a ⟨om,om⟩ ?_ rfl ?_
 ·simp[forget,gp]
 ·rintro i ⟨Mk,hi⟩;by_cases BO:i<E
  ·have Ab:i<l.length:=om;have d1:=dtT i l.length;have Da:=AQ i Mk BO;simp only[go_sem,d1];refine anO ?_;refine Ka (gok rfl) (QC _) ?_
   cases Eb:Xy (l.getD i 0) with
   |true=>simp only[go_sem];refine⟨Jg,i+1,⟨om,om⟩,om,?_⟩;simp[forget]
   |false=>
    rw[hq,qAt]at Da;by_cases A9:isLt c0=true
    ·rw[if_pos A9]at Da;simp only[Qj,Eb,Hd]at Da;simp only[go_sem];refine anO ?_;refine Ka (gok rfl) (KF _) ?_;simp only[go_sem,Da];refine anO ?_;rw[<-DF];refine Ka (gok rfl) (KF _) ?_;simp only[go_sem,A9];refine⟨Jg,i+1,⟨om,om⟩,om,?_⟩;simp[forget]
    ·rw[if_neg A9,Eb]at Da;cases Da
  ·have CO:i=E:=om;subst CO;rcases (show l.length<=i\/(i<l.length/\Xy (l.getD i 0)=false/\isLt (l.getD i 0)=false)\/(i<l.length/\Xy (l.getD i 0)=false/\isLt (l.getD i 0)=true/\isLt c0=false) from by
    by_cases h1:i<l.length
    ·have h2:=A7 h1;rw[hq,qAt]at h2;by_cases A9:isLt c0=true
     ·rw[if_pos A9]at h2;simp only[Qj,GD]at h2;exact .inr (.inl ⟨h1,h2.2,h2.1⟩)
     ·rw[if_neg A9]at h2
      cases h3:isLt (l.getD i 0) with
      |true=>exact .inr (.inr ⟨h1,h2,rfl,by simpa using A9⟩)
      |false=>exact .inr (.inl ⟨h1,h2,rfl⟩)
    ·exact .inl om) with hw|⟨P7,EH,Ir⟩|⟨P7,EH,Ir,P6⟩
   case' inl=>have d1:=dfF i l.length;simp only[go_sem,d1,Es,Cw]
   case' inr.inl=>have d1:=dtT i l.length;simp only[go_sem,d1];refine anO ?_;refine Ka (gok rfl) (QC _) ?_;simp only[go_sem,EH];refine anO ?_;refine Ka (gok rfl) (KF _) ?_;simp only[go_sem,Ir,Es,Cw]
   case' inr.inr=>have d1:=dtT i l.length;simp only[go_sem,d1];refine anO ?_;refine Ka (gok rfl) (QC _) ?_;simp only[go_sem,EH];refine anO ?_;refine Ka (gok rfl) (KF _) ?_;simp only[go_sem,Ir];refine anO ?_;rw[<-DF];refine Ka (gok rfl) (KF _) ?_;simp only[go_sem,P6,Es,Cw]
   all_goals (
    refine⟨om,om,?_⟩;refine JU (QC _) ?_;simp only[go_sem,h2];generalize hx:cut l a i=x at Az Aj|-;have OQ:=refNumber x Aj om;have gZ:=numV_ok x;refine Jbw [(.on [2],.on []),Foot.no,Foot.no,(.on [2],.on []),Foot.no,Foot.no,(.on [1],.on [1]),Foot.no,Foot.no] Jm vM ?_;refine⟨_,_,hs_ld (id:=1) (i:=0) (off:=0) rfl rfl ⟨Gf 1,Gf 3⟩,_,_,Jah rfl rfl trivial,_,_,Jah rfl rfl trivial,_,_,hs_ld (id:=1) (i:=0) (off:=1) rfl rfl ⟨Gf 1,(by decide:2<=3)⟩,_,_,hs_f (.inl rfl) OQ,_,_,Jah rfl rfl trivial,_,_,hs_st (id:=0) (i:=0) (off:=0) rfl rfl rfl ⟨rfl,rfl⟩ ⟨Gf 1,Gf 3⟩,_,_,Jah rfl rfl trivial,_,_,Jah rfl rfl trivial,?_⟩;simp only[vdf,go_sem,splice,gZ];rw[show a+x.length=i by omega];rfl
   )
theorem refAt (l:LA)(a:Nat)(ha:a<l.length)(hl:l.length<=1000000):Fn Ga 118 [S l,.int .i64 (a:Int)] (.tup [.agg (lxz (tkL l a).1 (tkL l a).2.1 a),.int .i64 ((a+(tkL l a).2.1.length:Nat):Int),.bool (tkL l a).2.2]):=by
 cases h1:isLt (l.getD a 0) with
 |true=>exact refAtL l a ha hl h1
 |false=>cases h2:Xy (l.getD a 0) with
  |true=>exact refAtD l a ha hl h1 h2
  |false=>exact refAtS l a ha hl h1 h2
def lxr (l:List (Nat×LA×Nat)):LQ:=l.map λt=>lxz t.1 t.2.1 t.2.2
theorem Xc {l:List (Nat×LA×Nat)}:(lxr l).length=l.length:=by simp[lxr]
theorem Jdn:∀(l:List (Nat×LA×Nat)),Jq (lxr l)=true
 |[]=>rfl
 |x::l=>by simp[lxr,lxz,Jq,Jk,CV.closed];exact Jdn l
theorem lxr_app {l:List (Nat×LA×Nat)}{t:Nat×LA×Nat}:lxr (l++[t])=lxr l++[lxz t.1 t.2.1 t.2.2]:=by simp[lxr]
theorem tk_len(ha:a<l.length)(h:(tkL l a).2.2=true):0<(tkL l a).2.1.length:=by
 unfold tkL at h|-;by_cases h1:isLt (l.getD a 0)=true
 ·have h2:=Jb5 (q:=Qj) ha (by simp only[Qj,h1,GR]);have h3:=Jbr (Gm h2) (Jad (q:=Qj) (Gm ha));rw[if_pos h1]at h|-
  split <;> (simp only;omega)
 ·rw[if_neg h1]at h|-;by_cases h2:Xy (l.getD a 0)=true
  ·have h4:=Jb5 (q:=Xy) ha h2;have h3:=Jbr (Gm h4) (Jad (q:=Xy) (Gm ha));rw[if_pos h2]at h|-;simp only;omega
  ·rw[if_neg h2]at h|-;simp only[Ha,beq_eq_false_iff_ne]at h|-;exact Hg.2 h
theorem sgn_in {r:LA}:∀(L:LV) (b:LA),b.length<=r.length->(sgnF r L b).length<=r.length
 |[],b,h=>h
 |s::L,b,h=>by
  simp only[sgnF];refine sgn_in L _ ?_
  split
  ·rename_i hc;have:=congrArg GJ hc.1;rw[Gz]at this;omega
  ·exact h
theorem tk_end(ha:a<l.length):a+(tkL l a).2.1.length<=l.length:=by
 unfold tkL;by_cases h1:isLt (l.getD a 0)=true
 ·have h2:=Jb5 (q:=Qj) ha (by simp only[Qj,h1,GR]);have h4:=Jad (q:=Qj) (Gm ha);have h3:=Jbr (Gm h2) h4;rw[if_pos h1]
  split <;> (simp only;omega)
 ·rw[if_neg h1];by_cases h2:Xy (l.getD a 0)=true
  ·have h5:=Jb5 (q:=Xy) ha h2;have h4:=Jad (q:=Xy) (Gm ha);have h3:=Jbr (Gm h5) h4;rw[if_pos h2];simp only;omega
  ·rw[if_neg h2];have:=sgn_in (r:=l.drop a) sgs [] sM;rw[Ll]at this;show a+(sgnF (l.drop a) sgs []).length<=l.length;omega
theorem Jal {l l':Lu}(h:wks l l'):wk (.tup l) (.tup l'):=by rintro own imm v ⟨vs,rfl,hr⟩;exact⟨vs,rfl,JaA h hr⟩
theorem Jdw {l l':Lu}(h:wks l l'):wk (.agg l) (.agg l'):=by rintro own imm v ⟨vs,rfl,hr⟩;exact⟨vs,rfl,JaA h hr⟩
theorem Jbk {f:Nat}{args:Lu}{v0:CV}(h:CallsC P Env.none f args [] λv H'=>wk v v0\/∃id z els,H'[id]? = some (.arr z els)/\Jq els=true/\wk (frz id z els v) v0)(ha:Jk args=true)(hv:v0.closed=true):Fn P f args v0:=by
 refine JhQ ?_ ha hv;intro m w vs hs BI;refine(h m w vs hs BI).mono ?_;rintro e w' ⟨r,m',v,H',h1,h2,h3,h4,g⟩;rcases g with g|⟨id,z,els,g1,hc,g⟩
 ·exact⟨r,m',v0,H',h1,h2,h3,g _ _ _ h4,rfl⟩
 ·obtain⟨imm',AB,he,hf⟩:=Sim.freeze (n0:=([]:Lv).length) h3 g1 hc;exact⟨r,_,_,_,h1,h2.trans he,AB,g _ _ _ (hf _ _ h4),rfl⟩
theorem Jd2{els:LQ}{id:Nat}{cap:Option Nat}{x y:CV}(hx:x.closed=true)(hy:y.closed=true)(hn:n=els.length):wk (frz id z els (.tup [.slc id 0 n cap,x,y])) (.tup [.rslc z els none,x,y]):=by subst hn;simp only[frz,JK,if_true,Gv,Gf,GM,Gn,X6 x hx,X6 y hy];exact Jal ⟨wk.rslc,wk.refl _,wk.refl _,trivial⟩
theorem refRead (l:LA)(hl:l.length<=1000000):Fn Ga 75 [S l] (.tup [.rslc 3 (lxr (Jbb l).1) none,.int .i64 ((Jbb l).2.1:Nat),.int .i64 (Jbb l).2.2]):=by
 refine Jbk ?_ rfl rfl;refine Ki c75_ok λN=>?_
 simp only[c75,go_sem];refine JU (refLexCheck l hl) ?_;simp only[go_sem]
 cases he:((Yo l).2 != 0) with
 |true=>
  have Et:(Yo l).2≠0:=by simpa using he
  have hr:Jbb l=([],(Yo l).1,(Yo l).2):=by unfold Jbb;rw[if_pos Et]
  rw[hr];simp only[go_sem];exact .inr ⟨0,3,[],rfl,rfl,Jd2 rfl rfl rfl⟩
 |false=>
  have Et:(Yo l).2=0:=by simpa using he
  have hr:Jbb l=rdF l (l.length+1) 0 []:=by unfold Jbb;rw[if_neg (by simp[Et])]
  rw[hr];obtain⟨R,hR⟩:∃R,R=rdF l (l.length+1) 0 []:=⟨_,rfl⟩;rw[<-hR];simp only[go_sem];refine JU (refGap l 0 (Nat.zero_le _) hl) ?_;simp only[go_sem];refine Js (σ:=Nat×Nat×List (Nat×LA×Nat)) (I:=λs=>s.2.1<=l.length/\l.length+1<=s.1+s.2.1/\s.2.2.length<=900/\R=rdF l s.1 s.2.1 s.2.2)
   (inv:=λs=>gp [(0,S l),(6,.slc 0 0 (lxr s.2.2).length (Jej (lxr s.2.2))),(0,.int .i64 (Jaj l s.2.1:Nat))] 45) (hp:=λs=>[.arr 3 (lxr s.2.2)]) (μ:=λs=>s.1) (l.length+1,0,[]) [0] ⟨sM,sM,sM,hR⟩ rfl ?_ rfl ?_
  ·simp[forget,JG,ren,Jl,gp,lxr,Jej]
  ·rintro⟨n,b,acc⟩ ⟨h1,h2,h3,Aa⟩
   dsimp only at h1 h2 h3 Aa|-
   have BL:=gapE_ge l b;by_cases Ab:Jaj l b<l.length
   ·have d1:(((Jaj l b:Nat):Int)<(l.length:Int))=True:=J4;obtain⟨n,rfl⟩:∃n',n=n' + 1:=⟨n-1,om⟩;rw[rdF,if_pos Ab]at Aa;have hT:=refAt l (Jaj l b) Ab hl;have CG:=tk_len Ab;have Uo:=tk_end Ab;generalize Jaj l b=at_ at *
    simp only[go_sem,d1];refine JU hT ?_;clear hT;generalize tkL l at_=T at Aa CG Uo|-
    obtain⟨k,x,ok⟩:=T
    dsimp only at Aa CG Uo|-
    cases ok with
    |false=>rw[if_neg sM]at Aa;rw[Aa];simp only[go_sem,lxz,splice];exact .inr ⟨2,3,[],rfl,rfl,Jd2 rfl rfl rfl⟩
    |true=>
     rw[if_pos rfl]at Aa;by_cases h9:acc.length=900
     ·have d2:(((lxr acc).length:Int) == 900)=true:=by rw[beq_iff_eq,Xc];omega
      rw[if_pos h9]at Aa;rw[Aa];simp only[go_sem,lxz,splice,d2];exact .inr ⟨2,3,[],rfl,rfl,Jd2 rfl rfl rfl⟩
     ·have d2:(((lxr acc).length:Int) == 900)=false:=by rw[beq_eq_false_iff_ne,Xc];omega
      rw[if_neg h9]at Aa;simp only[go_sem,lxz,splice,d2,JA];refine⟨⟨by rw[Xc];omega,by rw[Xc];omega⟩,?_⟩;have hG:=refGap l (at_+x.length) Uo hl;refine JU hG ?_;simp only[go_sem];have Ey:=CG rfl;have iZ:Jej (lxr (acc++[(k,x,at_)]))=none:=by rw[lxr_app,Yz]
      have Am:(lxr acc).length+1=(lxr (acc++[(k,x,at_)])).length:=by simp[Xc]
      refine⟨(n,at_+x.length,acc++[(k,x,at_)]),[3],⟨Uo,by simp only;omega,by simp;omega,Aa⟩,by simp only;omega,rfl,?_,?_⟩
      ·simp only[KE,Gh,Gq,go_sem,Jo];have hc:=Jc (ρ:=[3]) (Jdn (acc++[(k,x,at_)]));rw[lxr_app]at hc|-;simp only[lxz]at hc|-;rw[hc]
      ·simp only[iZ,Am];simp[forget,JG,ren,Jl]
   ·have d1:(((Jaj l b:Nat):Int)<(l.length:Int))=False:=JS;have Ph:R=(acc,0,0):=by
     rw[Aa]
     cases n with
     |zero=>rfl
     |succ n=>rw[rdF,if_neg Ab]
    rw[Ph];simp only[go_sem,d1];exact .inr ⟨0,3,lxr acc,rfl,Jdn _,Jd2 rfl rfl rfl⟩
theorem refKind (l:LA)(hl:l.length<=1000000):Fn Ga 150 [S l] (.int .u8 (kindR l)):=by
 refine Jb c150_ok rfl rfl λN=>?_
 simp only[c150,go_sem];refine JU (refRead l hl) ?_;simp only[go_sem];unfold kindR;obtain⟨ts,p,e⟩:=Jbb l;simp only
 cases he:(e != 0) with
 |true=>
  have Et:e≠0:=by simpa using he
  simp only[go_sem]
  split
  ·rename_i h;cases h;rw[if_neg (λh=>Et h.1)];rfl
  ·rfl
 |false=>
  have Et:e=0:=by simpa using he
  subst Et
  match ts with
  |[]=>simp only[go_sem,Xc,Gs]
  |t::u::r=>
   have hn:(((r.length+1+1:Nat):Int) != 1)=true:=by rw[bne_iff_ne];omega
   simp only[go_sem,Xc,hn]
  |[t]=>
   obtain⟨k,x,a⟩:=t;by_cases hx:x=l
   ·have e1:(x == l)=true:=by simp[hx]
    simp only[go_sem,lxr,lxz,Gh,Gq,e1,show (((1:Nat):Int) != 1)=false from rfl];simp[hx]
   ·have e1:(x == l)=false:=by simp[hx]
    simp only[go_sem,lxr,lxz,Gh,Gq,e1,show (((1:Nat):Int) != 1)=false from rfl];simp[hx]
theorem JbR (n a b:Int):Fn Ga 93 [.int .i64 n,.int .i64 a,.int .i64 b] (.bool (inI a b n)):=by
 refine Jb c93_ok rfl rfl λN=>?_
 simp +contextual only[c93,go_sem,inI]
def inN (a b k:Nat):Bool:=decide (a<=k) && decide (k<=b)
theorem natle (a k:Nat):decide ((a:Int)<=(k:Int))=decide (a<=k):=decide_eq_decide.2 om
theorem JdQ (a k:Nat):((k:Int) == (a:Int))=(k == a):=by rw[Gj];simp;omega
theorem JeQ (k:Nat):Fn Ga 62 [.int .u8 k] (.bool (inN 1 29 k)):=by
 refine Jb c62_ok rfl rfl λN=>?_
 have h1:=natle 1 k;have h2:=natle k 29;simp only[Gd]at h1 h2;simp +contextual only[c62,go_sem,inN];refine⟨λh=>?_,λh=>?_⟩
 ·congr 1;rw[Gj];simp;omega
 ·congr 1;rw[Gj];simp;omega
theorem refIsType (k:Nat):Fn Ga 208 [.int .u8 k] (.bool (inN 60 63 k)):=by
 refine Jb c208_ok rfl rfl λN=>?_
 simp +contextual only[c208,go_sem,inN];refine⟨λh=>?_,λh=>?_⟩
 ·congr 1;rw[Gj];simp;omega
 ·congr 1;rw[Gj];simp;omega
theorem refIsPart (k:Nat):Fn Ga 209 [.int .u8 k] (.bool (k == 46 || k == 47)):=by
 refine Jb c209_ok rfl rfl λN=>?_
 simp +contextual only[c209,go_sem];refine⟨λh=>?_,λh=>?_⟩
 ·congr 1;rw[Gj];simp at h|-;omega
 ·congr 1;rw[Gj];simp at h|-;omega
def isR (k c:Nat):Bool:=if c=200 then inN 1 29 k else if c=201 then inN 60 63 k else if c=202 then(k == 46 || k == 47) else k == c
theorem refIs (t:Tr)(n:Int)(c:Nat)(h0:0<=n)(h1:n<t.nodes.length):Fn Ga 185 [t.cv,.int .i64 n,.int .u8 c] (.bool (isR (Jw t.nodes n) c)):=by
 have Ab:n.toNat<t.nodes.length:=om;have hk:Jw t.nodes n=(t.nodes.getD n.toNat default).k:=rfl;refine Jb c185_ok rfl rfl λN=>?_
 simp +contextual only[c185,go_sem,Tr.cv,Tr.row,Ja];rw[QE Ab];refine anO ?_;simp +contextual only[go_sem,Nd.cv];rw[<-hk];generalize Jw t.nodes n=k;have q0:=JdQ 200 c;have q1:=JdQ 201 c;have q2:=JdQ 202 c;simp only[Gd]at q0 q1 q2;unfold isR;by_cases e0:c=200
 ·subst e0;simp +contextual only[go_sem,Gd];refine JU (JeQ k) ?_;simp +contextual only[go_sem]
 ·have q0':((c:Int) == 200)=false:=by rw[q0];simpa using e0
  rw[if_neg e0];by_cases e1:c=201
  ·subst e1;simp +contextual only[go_sem,Gd];refine JU (refIsType k) ?_;simp +contextual only[go_sem]
  ·have q1':((c:Int) == 201)=false:=by rw[q1];simpa using e1
   rw[if_neg e1];by_cases e2:c=202
   ·subst e2;simp +contextual only[go_sem,Gd];refine JU (refIsPart k) ?_;simp +contextual only[go_sem]
   ·have q2':((c:Int) == 202)=false:=by rw[q2];simpa using e2
    rw[if_neg e2];have q3:=JdQ c k;simp +contextual only[go_sem,q0',q1',q2',q3]
def kinds (l:LF)(x:Nd):LB:=x.kids.map (Jw l)
theorem kinds_get {l:LF}{j:Nat}(h:j<x.kids.length):(kinds l x)[j]? = some (Jw l (x.kids.getD j 0)):=by simp[kinds,Gc,Gb h]
def kidsR (ks:LB)(a b:Int)(c:Nat):Bool:=decide (0<=a) && decide (a<=b) && decide (b<=ks.length) && ((ks.take b.toNat).drop a.toNat).all λk=>isR k c
theorem refKids (t:Tr)(x:Nd)(hx:x.Fit)(hm:t.nodes.length<=1400)(hk:∀k∈x.kids,0<=k/\k<t.nodes.length)(a b:Int)(c:Nat) :
  Fn Ga 149 [t.cv,.agg x.cv,.int .i64 a,.int .i64 b,.int .u8 c] (.bool (kidsR (kinds t.nodes x) a b c)):=by
 have Ap:(kinds t.nodes x).length=x.kids.length:=by simp[kinds]
 have Bj:=hx.kidn;refine Jb c149_ok rfl rfl λN=>?_
 by_cases hA:a<0\/b<a\/(x.kids.length:Int)<b
 ·have hr:kidsR (kinds t.nodes x) a b c=false:=by unfold kidsR;rw[Ap];rw[Bool.eq_false_iff];intro h;simp only[Gi,decide_eq_true_eq]at h;omega
  rw[hr];by_cases h1:a<0
  ·have d1:(a<0)=True:=eq_true h1;simp +contextual only[c149,go_sem,Tr.cv,Tr.row,Nd.cv,d1]
  ·have d1:(a<0)=False:=eq_false h1;by_cases h2:b<a
   ·have d2:(b<a)=True:=eq_true h2;simp +contextual only[c149,go_sem,Tr.cv,Tr.row,Nd.cv,d1,d2]
   ·have d2:(b<a)=False:=eq_false h2;have d3:((x.kids.length:Int)<b)=True:=J4;simp +contextual only[c149,go_sem,Tr.cv,Tr.row,Nd.cv,d1,d2,Jf,d3]
 ·have d1:(a<0)=False:=JS;have d2:(b<a)=False:=JS;have d3:((x.kids.length:Int)<b)=False:=JS;have hr:kidsR (kinds t.nodes x) a b c=((kinds t.nodes x).take b.toNat |>.drop a.toNat).all λk=>isR k c:=by unfold kidsR;rw[Ap,decide_eq_true (show 0<=a by omega),decide_eq_true (show a<=b by omega),decide_eq_true (show b<=(x.kids.length:Int) by omega)];rfl
  rw[hr];simp +contextual only[c149,go_sem,Tr.cv,Tr.row,Nd.cv,Jf,d1,d2,d3];refine Je (id:=0) (z:=2) (els:=[t.row]) rfl rfl ?_;simp only[go_sem,JK,KC,frz,Kn];refine Je (id:=1) (z:=5) (els:=[x.cv]) rfl rfl ?_;simp only[go_sem,JK,KC,frz,Kn];generalize hL:(kinds t.nodes x).take b.toNat=L;have bG:L.length=b.toNat:=by rw[<-hL];simp[Ap];omega
  refine JL (I:=λi:Nat=>a.toNat<=i/\i<=b.toNat/\(L.drop a.toNat).all (λk=>isR k c)=(L.drop i).all λk=>isR k c) (inv:=λi=>gp [(3,.int .i64 b),(0,.int .u8 c),(0,.rptr t.row),(0,.rptr x.cv),(4,.int .i64 i)] 29) (hp:=λ_=>[.dead,.dead]) (μ:=λi=>b.toNat-i) a.toNat ⟨om,om,rfl⟩ ?_ rfl ?_
  ·have:((a.toNat:Nat):Int)=a:=om;simp[forget,gp,this]
  ·rintro i ⟨h1,h2,Aa⟩;by_cases Ab:i<b.toNat
   ·have d4:((i:Int)<b)=True:=J4;have UA:i<x.kids.length:=om;have Ay:x.kids.getD i 0∈x.kids:=by rw[Gc,Gb UA];exact Gg UA
    have hb:=hk _ Ay;have Ub:L[i]? = some (Jw t.nodes (x.kids.getD i 0)):=by rw[<-hL,Lc,if_pos Ab,kinds_get UA]
    have Ua:=(Gl.1 Ub).1;rw[Gp Ua,(Gl.1 Ub).2,Hr]at Aa;simp +contextual only[go_sem,d4];refine JQ Jm vk ?_;simp only[go_sem,Tr.row,Nd.cv,Jf];rw[JF UA];refine anO ?_;simp only[go_sem];refine Kc (.inl rfl) (refIs t _ c hb.1 hb.2) ?_;simp only[go_sem]
    cases hq:isR (Jw t.nodes (x.kids.getD i 0)) c with
    |false=>rw[hq]at Aa;simp +contextual only[go_sem];rw[Aa];rfl
    |true=>rw[hq]at Aa;simp +contextual only[go_sem];refine⟨Jg,i+1,⟨om,om,by simpa using Aa⟩,om,?_⟩;simp[forget]
   ·have d4:((i:Int)<b)=False:=JS;simp +contextual only[go_sem,d4];rw[Aa,Gw om];rfl
theorem refLimits (t:Tr):Fn Ga 77 [t.cv] (.bool (decide (¬(700<t.nodes.length\/20<t.items.length)))):=by
 refine Jb c77_ok rfl rfl λN=>?_
 simp +contextual only[c77,go_sem,Tr.cv,Tr.row,Jf,Ja];refine⟨λh=>?_,λh=>?_⟩
 ·congr 1
  exact decide_eq_decide.2 om
 ·congr 1
  symm
  rw[decide_eq_false_iff_not];omega
theorem refMany (t:Tr)(x:Nd)(hx:x.Fit)(hk:∀k∈x.kids,0<=k/\k<t.nodes.length)(c:Nat) :
  Fn Ga 126 [t.cv,.agg x.cv,.int .u8 c] (.int .i64 ((kinds t.nodes x).count c:Nat)):=by
 have Ap:(kinds t.nodes x).length=x.kids.length:=by simp[kinds]
 have Bj:=hx.kidn;refine Jb c126_ok rfl rfl λN=>?_
 simp +contextual only[c126,go_sem,Tr.cv,Tr.row,Nd.cv];refine Je (id:=0) (z:=2) (els:=[t.row]) rfl rfl ?_;simp only[go_sem,JK,KC,frz,Kn];refine Je (id:=1) (z:=5) (els:=[x.cv]) rfl rfl ?_;simp only[go_sem,JK,KC,frz,Kn];generalize hL:kinds t.nodes x=L at Ap;refine JL (I:=λi:Nat=>i<=L.length) (inv:=λi=>gp [(2,.int .u8 c),(0,.rptr t.row),(0,.rptr x.cv),(2,.int .i64 ((L.take i).count c:Nat)),(0,.int .i64 i)] 22) (hp:=λ_=>[.dead,.dead]) (μ:=λi=>L.length-i) 0 om ?_ rfl ?_
 ·simp[forget,gp]
 ·intro i hi;have hc:=La (a:=c) (l:=L.take i);rw[Gz]at hc;by_cases Ab:i<x.kids.length
  ·have d4:=dtT i x.kids.length;have Ay:x.kids.getD i 0∈x.kids:=by rw[Gc,Gb Ab];exact Gg Ab
   have hb:=hk _ Ay;have Ub:L[i]? = some (Jw t.nodes (x.kids.getD i 0)):=by rw[<-hL,kinds_get Ab]
   have Ua:=(Gl.1 Ub).1;have Eo:(L.take (i+1)).count c=(L.take i).count c+if Jw t.nodes (x.kids.getD i 0) == c then 1 else 0:=by rw[Lg,Ub,List.count_append];simp[List.count_singleton]
   simp +contextual only[go_sem,Nd.cv,Jf,d4];refine JQ Jm vk ?_;simp only[go_sem,Tr.row,Jf];rw[JF Ab];refine anO ?_;simp only[go_sem,Ja];rw[QE om];refine anO ?_;simp only[go_sem,Nd.cv];rw[show ((t.nodes.getD (x.kids.getD i 0).toNat default).k:Int)=(Jw t.nodes (x.kids.getD i 0):Int) from rfl,JdQ]
   cases hq:(Jw t.nodes (x.kids.getD i 0) == c) with
   |false=>rw[hq]at Eo;simp +contextual only[go_sem];refine⟨Jg,i+1,om,om,?_⟩;rw[Eo];simp[forget]
   |true=>rw[hq]at Eo;simp +contextual only[go_sem];refine⟨Jg,Jg,i+1,om,om,?_⟩;rw[Eo];simp[forget]
  ·have d4:=dfF i x.kids.length;have:i=L.length:=om;subst this;simp +contextual only[go_sem,Nd.cv,Jf,d4,Gn]
theorem Jhq (t:Tr){o:Lx}(ho:JB ((JO t.nodes).take m) []=some o)(hm:m<=t.nodes.length)(n:Nat)(hn:n<m) :
  Fn Ga 38 [t.cv,.int .i64 (n:Int)] (.int .i64 (fs o n)):=by
 refine Jb c38_ok rfl rfl λN=>?_
 simp +contextual only[c38,go_sem,Tr.cv,Tr.row];refine Je (id:=0) (z:=2) (els:=[t.row]) rfl rfl ?_;simp only[go_sem,JK,KC,frz,Kn];refine JL (I:=λi:Nat=>i<m/\fs o n=fs o i) (inv:=λi=>gp [(1,.int .i64 (i:Int)),(0,.rptr t.row)] 19) (hp:=λ_=>[.dead]) (μ:=λi=>i) n ⟨hn,rfl⟩ ?_ rfl ?_
 ·simp[forget,gp]
 ·rintro i ⟨hi,Aa⟩;have Ab:i<t.nodes.length:=om;have hK:((JO t.nodes).take m)[i]? = some (t.nodes.getD i default).kids:=by rw[Lc,if_pos hi,Kq Ab]
  have hg:=QE Ab;generalize t.nodes.getD i default=x at hK hg;simp +contextual only[go_sem,Tr.row,Ja,hg,Nd.cv,Jf];refine anO ?_
  cases hk:x.kids with
  |nil=>rw[hk]at hK;have:=firstsF_leaf ho hK;simp +contextual only[go_sem];rw[Aa];unfold fs;rw[GK,this]
  |cons k ks=>
   rw[hk]at hK;obtain⟨h1,h2⟩:=firstsF_kid ho hK;have h3:=XQ ho hK k sM;have d4:((0:Int)<((ks.length+1:Nat):Int))=True:=J4;simp +contextual only[go_sem,d4,iz,Gh];have Bj:((k.toNat:Nat):Int)=k:=om;refine⟨om,k.toNat,⟨om,?_⟩,om,?_⟩
   ·rw[Aa];unfold fs;rw[GK,GK,h1]
   ·rw[Bj];simp[forget]
theorem Jf5 (t:Tr){o:Lx}(ho:JB ((JO t.nodes).take m) []=some o)(hm:m<=t.nodes.length)(Co:t.nodes.length<=1400)(l:Lx)(hl:l.length<=1000)(e:Nat)(he:e<=m) :
  Fn Ga 94 [t.cv,.rslc 1 (iz l) none,.int .i64 (e:Int)] (.tup [.int .i64 (JfL (fs o) l.reverse e).1,.bool (JfL (fs o) l.reverse e).2]):=by
 have Ao:=QU _ _ _ Xj.nil ho;have Bd:=QQ _ _ _ ho;simp only[Gs,Gv,Gz,JO,Lp]at Bd;refine Jb c94_ok rfl rfl λN=>?_
 simp +contextual only[c94,go_sem,Tr.cv,Tr.row,Jf];refine⟨Jg,?_⟩;refine Je (id:=0) (z:=2) (els:=[t.row]) rfl rfl ?_;simp only[go_sem,JK,KC,frz,Kn];refine JL (σ:=Nat×Nat) (I:=λs=>s.1<=l.length/\s.2<=m/\JfL (fs o) l.reverse e=JfL (fs o) (l.take s.1).reverse s.2) (inv:=λs=>gp [(1,.rslc 1 (iz l) none),(0,.int .i64 (s.2:Int)),(0,.rptr t.row),(4,.int .i64 ((s.1:Int)-1))] 29) (hp:=λ_=>[.dead]) (μ:=λs=>s.1) (l.length,e) ⟨sM,he,sM⟩ ?_ rfl ?_
 ·simp[forget,gp]
 ·rintro⟨j,q⟩ ⟨hj,hq,Aa⟩
  dsimp only at hj hq Aa
  cases j with
  |zero=>simp only[List.take_zero,List.reverse_nil,JfL]at Aa;have d1:((0:Int)<=((0:Nat):Int)-1)=False:=JS;simp +contextual only[go_sem,Aa]
  |succ j=>
   have A8:j<l.length:=om;have Dx:(l.take (j+1)).reverse=l.getD j 0::(l.take j).reverse:=by rw[Gu A8,List.reverse_append,Gc,Gb A8];rfl
   rw[Dx,JfL]at Aa;have Un:(((j+1:Nat):Int)-1).toNat=j:=om;have d1:((0:Int)<=((j+1:Nat):Int)-1)=True:=J4;have Ar:=JF A8;generalize l.getD j 0=k at Aa Ar;by_cases hc:k≠(q:Int)-1\/k<0
   ·rw[if_pos hc]at Aa;by_cases CF:k=(q:Int)-1
    ·have e1:(k != (q:Int)-1)=false:=by simp[CF]
     have e2:(k<0)=True:=J4;simp +contextual only[go_sem,d1,Jf,Un,Ar,e1,e2,Aa];exact⟨om,Jg,om⟩
    ·have e1:(k != (q:Int)-1)=true:=by simp[CF]
     simp +contextual only[go_sem,d1,Jf,Un,Ar,e1,Aa];exact⟨om,Jg⟩
   ·rw[if_neg hc]at Aa;have CF:k=(q:Int)-1:=om;have e1:(k != (q:Int)-1)=false:=by simp[CF]
    have e2:(k<0)=False:=JS;have Ap:k.toNat<m:=om;have D7:((k.toNat:Nat):Int)=k:=om;have hf:=JhM Ao (i:=k) om (by rw[Bd];omega);have Bq:((fs o k).toNat:Int)=fs o k:=om;simp +contextual only[go_sem,d1,Jf,Un,Ar,e1,e2];refine⟨om,Jg,om,?_⟩;refine JQ Jm vk ?_;simp only[go_sem,Tr.row,Jf,Un,Ar];refine anO ?_;have hF:=Jhq t ho hm k.toNat Ap;rw[D7]at hF;refine Kc (.inl rfl) hF ?_;simp +contextual only[go_sem];refine⟨Jg,(j,(fs o k).toNat),⟨by simp only;omega,by simp only;omega,?_⟩,by simp only;omega,?_⟩
    ·rw[Aa];simp only[Bq]
    ·simp only[Bq];simp[forget]
theorem let_all:∀k:Fin 256,(JdR k.val=83↔k.val=41)/\(JdR k.val=78↔k.val=44):=vM
theorem Jfr {l:LF}(hn:∀y∈l,y.k<256)(hk:∀k∈x.kids,0<=k/\k<l.length){c:Nat}(h:∀k:Nat,k<256->(JdR k=b↔k=c)):(kinds l x).count c=Qz b (lets l x):=by
 unfold kinds lets Qz;have:∀ks:Lx,(∀k∈ks,0<=k/\k<l.length)->(ks.map (Jw l)).count c=(ks.map λk=>JdR (Jw l k)).count b:=by
  intro ks
  induction ks with
  |nil=>intro _;rfl
  |cons k ks ih=>
   intro Bw;have hr:=Bw k sM;have Ab:k.toNat<l.length:=om;have BC:Jw l k<256:=by unfold Jw;rw[Gc,Gb Ab];exact hn _ (Gg Ab)
   have he:=h _ BC;rw[Gh,Gh,Lr,Lr,ih (λq hq=>Bw q (by simp[hq]))]
   congr 1
   by_cases e:Jw l k=c
   ·rw[if_pos (by simp[e]),if_pos (by simp[he.2 e])]
   ·rw[if_neg (by simp[e]),if_neg (by simp;exact λh2=>e (he.1 h2))]
 exact this x.kids hk
theorem refSized (t:Tr)(i:Nat)(hi:i<t.nodes.length)(hm:t.nodes.length<=1400)(hx:(t.nodes.getD i default).Fit)(hn:∀y∈t.nodes,y.k<256)(hk:∀k∈(t.nodes.getD i default).kids,0<=k/\k<t.nodes.length) :
  Fn Ga 79 [t.cv,.int .i64 (i:Int)] (.bool (Qq (t.nodes.getD i default).k (t.nodes.getD i default).n (lets t.nodes (t.nodes.getD i default)))):=by
 have hg:=QE hi;generalize Ms:t.nodes.getD i default=x at hx hk hg|-;have Bj:=hx.kidn;have Cu:=KH (l:=t.nodes) (x:=x);have CF:=Jfr hn hk (c:=41) (b:=83) (λk h=>(let_all ⟨k,h⟩).1);have CR:=Jfr hn hk (c:=44) (b:=78) (λk h=>(let_all ⟨k,h⟩).2);have S9:=refMany t x hx hk 41;have SY:=refMany t x hx hk 44;rw[CF]at S9;rw[CR]at SY;simp only[Gd]at S9 SY;have ae:=hx.n;obtain⟨k,text,n,kids,pl⟩:=x;generalize lets t.nodes ⟨k,text,n,kids,pl⟩=hv at Cu S9 SY|-;simp only[Nd.cv]at hg S9 SY Bj Cu ae|-;rcases (show (k=65\/k=26\/k=40\/k=45\/k=41\/k=28\/k=29\/k=48\/k=47)\/(k≠65/\k≠26/\k≠40/\k≠45/\k≠41/\k≠28/\k≠29/\k≠48/\k≠47) by omega) with (rfl|rfl|rfl|rfl|rfl|rfl|rfl|rfl|rfl)|rest
 ·refine Jb c79_ok rfl rfl λN=>?_
  simp (config:={maxSteps:=2000000}) only[c79,go_sem,Tr.cv,Tr.row,Ja,Jf,hg,Gd];refine⟨⟨om,om⟩,?_⟩;refine JU (JbR n 0 5) ?_
  cases hb:inI 0 5 n with
  |false=>simp (config:={maxSteps:=2000000}) only[go_sem];simp[Qq,hb]
  |true=>have Ca:=hb;simp only[inI,Gi,decide_eq_true_eq]at Ca;simp (config:={maxSteps:=2000000}) only[go_sem];refine⟨Jg,Jg,?_⟩;refine Ka (gok rfl) (JbR _ 1 4) ?_;simp (config:={maxSteps:=2000000}) only[go_sem];simp[Qq,hb,Cu]
 ·refine Jb c79_ok rfl rfl λN=>?_
  simp (config:={maxSteps:=2000000}) only[c79,go_sem,Tr.cv,Tr.row,Ja,Jf,hg,Gd];refine⟨⟨om,om⟩,?_⟩
  congr 1
  simp only[Qq];rw[Gj];simp;omega
 ·refine Jb c79_ok rfl rfl λN=>?_
  simp (config:={maxSteps:=2000000}) only[c79,go_sem,Tr.cv,Tr.row,Ja,Jf,hg,Gd];refine⟨⟨om,om⟩,?_⟩;refine JU (JbR n 0 12) ?_
  cases hb:inI 0 12 n with
  |false=>simp (config:={maxSteps:=2000000}) only[go_sem];simp[Qq,hb]
  |true=>have Ca:=hb;simp only[inI,Gi,decide_eq_true_eq]at Ca;simp (config:={maxSteps:=2000000}) only[go_sem];refine⟨Jg,?_⟩;refine Ka (gok rfl) (JbR _ 1 4) ?_;simp (config:={maxSteps:=2000000}) only[go_sem];simp[Qq,hb,Cu]
 ·refine Jb c79_ok rfl rfl λN=>?_
  simp (config:={maxSteps:=2000000}) only[c79,go_sem,Tr.cv,Tr.row,Ja,Jf,hg,Gd];refine⟨⟨om,om⟩,?_⟩;refine JU (JbR _ 1 4) ?_;simp (config:={maxSteps:=2000000}) only[go_sem];simp[Qq,Cu]
 ·refine Jb c79_ok rfl rfl λN=>?_
  simp (config:={maxSteps:=2000000}) only[c79,go_sem,Tr.cv,Tr.row,Ja,Jf,hg,Gd];refine⟨⟨om,om⟩,?_⟩;refine JU (JbR n 1 4) ?_;simp (config:={maxSteps:=2000000}) only[go_sem];simp[Qq]
 ·refine Jb c79_ok rfl rfl λN=>?_
  simp (config:={maxSteps:=2000000}) only[c79,go_sem,Tr.cv,Tr.row,Ja,Jf,hg,Gd];refine⟨⟨om,om⟩,?_⟩;refine JU (JbR n 1 5) ?_
  cases hb:inI 1 5 n with
  |false=>simp (config:={maxSteps:=2000000}) only[go_sem];simp[Qq,hb]
  |true=>
   simp (config:={maxSteps:=2000000}) only[go_sem];refine Ka (gok rfl) S9 ?_;by_cases UM:(Qz 83 hv:Int)<=12
   ·have d1:((Qz 83 hv:Int)<=12)=True:=eq_true UM;simp (config:={maxSteps:=2000000}) only[go_sem,d1];refine Ka (gok rfl) SY ?_;simp (config:={maxSteps:=2000000}) only[go_sem];simp[Qq,hb,d1]
   ·have d1:((Qz 83 hv:Int)<=12)=False:=eq_false UM;simp (config:={maxSteps:=2000000}) only[go_sem,d1];simp[Qq,hb,d1]
 ·refine Jb c79_ok rfl rfl λN=>?_
  simp (config:={maxSteps:=2000000}) only[c79,go_sem,Tr.cv,Tr.row,Ja,Jf,hg,Gd];refine⟨⟨om,om⟩,?_⟩;refine JU (JbR n 0 100) ?_
  cases hb:inI 0 100 n with
  |false=>simp (config:={maxSteps:=2000000}) only[go_sem];simp[Qq,hb]
  |true=>simp (config:={maxSteps:=2000000}) only[go_sem];refine⟨Jg,?_⟩;refine Ka (gok rfl) (JbR _ 1 8) ?_;simp (config:={maxSteps:=2000000}) only[go_sem];simp[Qq,hb,Cu]
 ·refine Jb c79_ok rfl rfl λN=>?_
  simp (config:={maxSteps:=2000000}) only[c79,go_sem,Tr.cv,Tr.row,Ja,Jf,hg,Gd];refine⟨⟨om,om⟩,?_⟩;refine JU (JbR n 0 100) ?_;simp (config:={maxSteps:=2000000}) only[go_sem];simp[Qq]
 ·refine Jb c79_ok rfl rfl λN=>?_
  simp (config:={maxSteps:=2000000}) only[c79,go_sem,Tr.cv,Tr.row,Ja,Jf,hg,Gd];refine⟨⟨om,om⟩,?_⟩;refine JU (JbR n 1 9) ?_;simp (config:={maxSteps:=2000000}) only[go_sem];simp[Qq]
 ·obtain⟨r1,r2,r3,r4,r5,r6,r7,r8,r9⟩:=rest;have hE:Qq k n hv=true:=by simp only[Qq];rw[iN7,iN7,iN7,iN7,iN7,iN7,iN7,iN7,iN7]
  rw[hE];have e65:=kb (m:=65) (k:=k) om;simp only[Gd]at e65;have e26:=kb (m:=26) (k:=k) om;simp only[Gd]at e26;have e40:=kb (m:=40) (k:=k) om;simp only[Gd]at e40;have e45:=kb (m:=45) (k:=k) om;simp only[Gd]at e45;have e41:=kb (m:=41) (k:=k) om;simp only[Gd]at e41;have e28:=kb (m:=28) (k:=k) om;simp only[Gd]at e28;have e29:=kb (m:=29) (k:=k) om;simp only[Gd]at e29;have e48:=kb (m:=48) (k:=k) om;simp only[Gd]at e48;have e47:=kb (m:=47) (k:=k) om;simp only[Gd]at e47;refine Jb c79_ok rfl rfl λN=>?_
  simp (config:={maxSteps:=2000000}) only[c79,go_sem,Tr.cv,Tr.row,Ja,Jf,hg,e65,e26,e40,e45,e41,e28,e29,e48,e47];exact⟨om,om⟩
theorem all_same {α:Type}{l:List α}{p q:α->Bool}(h:∀x∈l,p x=q x):l.all p=l.all q:=by
 induction l with
 |nil=>rfl
 |cons a l ih=>simp only[Hr];rw[h a sM,ih (λx hx=>h x (by simp[hx]))]
theorem kids_conv {l:LF}(hn:∀y∈l,y.k<256)(hk:∀k∈x.kids,0<=k/\k<l.length){c:Nat}(h:∀k:Nat,k<256->isR k c=(JdR k == b))(p q:Int):kidsR (kinds l x) p q c=Kh (lets l x) p q b:=by
 unfold kidsR Kh kinds lets;have e:(((x.kids.map (Jw l)).take q.toNat).drop p.toNat).all (λk=>isR k c)=(((x.kids.map λk=>JdR (Jw l k)).take q.toNat).drop p.toNat).all (· == b):=by
  rw[<-vX,<-vY,<-vX,<-vY,vW,vW];refine all_same λk Aq=>?_
  have hr:=hk k (H8 (List.mem_of_mem_drop Aq));have Ab:k.toNat<l.length:=om;refine h _ ?_;unfold Jw;rw[Gc,Gb Ab];exact hn _ (Gg Ab)
 rw[e];simp
theorem cls_all:∀k:Fin 256,∀p∈([(200,101),(201,116),(202,99),(40,66),(41,83),(42,98),(43,73),(44,78),(45,71),(48,79),(64,80)]:List (Nat×UInt8)),isR k.val p.1=(JdR k.val == p.2):=vM
theorem refKin1 (t:Tr)(x:Nd)(hx:x.Fit)(hm:t.nodes.length<=1400)(hn:∀y∈t.nodes,y.k<256)(hk:∀k∈x.kids,0<=k/\k<t.nodes.length)(MI:x.k=41->x.n<9223372036854775807)(DT:x.k≠28) :
  Fn Ga 95 [t.cv,.agg x.cv] (.bool (Qk x.k x.n (lets t.nodes x))):=by
 have Bj:=hx.kidn;have Cu:=KH (l:=t.nodes) (x:=x);have hK:∀(c:Nat) (b:UInt8),(c,b)∈([(200,101),(201,116),(202,99),(40,66),(41,83),(42,98),(43,73),(44,78),(45,71),(48,79),(64,80)]:List (Nat×UInt8))->∀p q:Int,Fn Ga 149 [t.cv,.agg x.cv,.int .i64 p,.int .i64 q,.int .u8 c] (.bool (Kh (lets t.nodes x) p q b)):=by intro c b FP p q;have:=refKids t x hx hm hk p q c;rw[kids_conv hn hk (λk h=>cls_all ⟨k,h⟩ (c,b) FP)]at this;exact this
 have ae : -9223372036854775808<=x.n:=hx.n.1;have K200:=hK 200 101 vk;have K201:=hK 201 116 vk;have K202:=hK 202 99 vk;have K40:=hK 40 66 vk;have K41:=hK 41 83 vk;have K42:=hK 42 98 vk;have K43:=hK 43 73 vk;have K44:=hK 44 78 vk;have K45:=hK 45 71 vk;have K48:=hK 48 79 vk;have K64:=hK 64 80 vk;simp only[Gd]at K200 K201 K202 K40 K41 K42 K43 K44 K45 K48 K64;obtain⟨k,text,n,kids,pl⟩:=x;generalize lets t.nodes ⟨k,text,n,kids,pl⟩=hv at Cu K200 K201 K202 K40 K41 K42 K43 K44 K45 K48 K64|-;simp only[Nd.cv,Tr.cv,Tr.row]at Bj Cu ae MI DT K200 K201 K202 K40 K41 K42 K43 K44 K45 K48 K64|-;clear hK;obtain⟨m,Du⟩:∃m:Int,m=(kids.length:Int):=⟨_,rfl⟩;by_cases hC:k=1\/k=2\/k=3\/k=19\/k=20\/k=21\/k=22\/k=23\/k=24\/k=25\/k=26\/k=27\/k=29\/k=40\/k=41\/k=42\/k=43\/k=44\/k=45\/k=46\/k=47\/k=48\/k=60\/k=61\/k=62\/k=63\/k=64\/k=65
 rotate_left
 ·simp only[not_or]at hC;have hE:Qk k n hv=(decide (4<=k) && decide (k<=18) && (m == 2) && Kh hv 0 2 101):=by
   simp only[Qk]
   repeat rw[iN7]
   rw[Cu,<-Du]
  rw[hE];have f4:((4:Int)<=(k:Int))=(4<=k):=propext om;have f18:((k:Int)<=18)=(k<=18):=propext om;refine Jb c95_ok rfl rfl λN=>?_
  by_cases h4:4<=k <;> by_cases Uk:k<=18 <;> cases h0:m == 2 <;> (repeat first
   |refine Ka (gok rfl) (K200 0 2) ?_
   |simp (maxSteps:=2000000) -implicitDefEqProofs only[c95,go_sem,Jf,<-Du,f4,f18,h4,Uk,h0,kbo,hC,DT,not_false_eq_true]) <;> simp
 rcases hC with rfl|rfl|rfl|rfl|rfl|rfl|rfl|rfl|rfl|rfl|rfl|rfl|rfl|rfl|rfl|rfl|rfl|rfl|rfl|rfl|rfl|rfl|rfl|rfl|rfl|rfl|rfl|rfl <;> (
  try have MI:=MI rfl
  simp only[Qk,Cu,<-Du];refine Jb c95_ok rfl rfl λN=>?_
  repeat first
   |refine⟨Jg,?_⟩
   |refine vr_fgB (by first|exact .inl rfl|exact gok rfl) (by first|exact K200 _ _|exact K201 _ _|exact K202 _ _|exact K40 _ _|exact K41 _ _|exact K42 _ _|exact K48 _ _|exact K64 _ _) (λB hb=>?_);try simp only[hb];clear hb;cases B
   |simp (maxSteps:=2000000) -implicitDefEqProofs only[c95,go_sem,Jf,Gd,<-Du]
   |rcases Gt (m == 0) with h0|h0 <;> rw[h0]
   |rcases Gt (m == 1) with h0|h0 <;> rw[h0]
   |rcases Gt (m == 2) with h0|h0 <;> rw[h0]
   |rcases Gt (m == 3) with h0|h0 <;> rw[h0]
   |rcases Gt (m == n+1) with h0|h0 <;> rw[h0]
   |by_cases h0:0<m <;> simp only[h0]
   |by_cases h0:m<=1 <;> simp only[h0]
  all_goals first|simp|simp_all)
theorem refKin28 (t:Tr)(x:Nd)(hx:x.Fit)(hm:t.nodes.length<=1400)(hn:∀y∈t.nodes,y.k<256)(hk:∀k∈x.kids,0<=k/\k<t.nodes.length)(Ef:x.k=28) :
  Fn Ga 95 [t.cv,.agg x.cv] (.bool (Qk x.k x.n (lets t.nodes x))):=by
 have Bj:=hx.kidn;have Cu:=KH (l:=t.nodes) (x:=x);have hK:∀(c:Nat) (b:UInt8),(c,b)∈([(200,101),(201,116),(202,99),(40,66),(41,83),(42,98),(43,73),(44,78),(45,71),(48,79),(64,80)]:List (Nat×UInt8))->∀p q:Int,Fn Ga 149 [t.cv,.agg x.cv,.int .i64 p,.int .i64 q,.int .u8 c] (.bool (Kh (lets t.nodes x) p q b)):=by intro c b FP p q;have:=refKids t x hx hm hk p q c;rw[kids_conv hn hk (λk h=>cls_all ⟨k,h⟩ (c,b) FP)]at this;exact this
 have hM:=refMany t x hx hk 41;rw[Jfr (b:=83) hn hk (λk h=>(let_all ⟨k,h⟩).1)]at hM;have aY:Qz 83 (lets t.nodes x)<=30:=Hw (cntB_le _ _) om;have K200:=hK 200 101 vk;have K41:=hK 41 83 vk;have K43:=hK 43 73 vk;have K44:=hK 44 78 vk;have K45:=hK 45 71 vk;simp only[Gd]at K200 K41 K43 K44 K45 hM;obtain⟨k,text,n,kids,pl⟩:=x;simp only at Ef;subst Ef;generalize lets t.nodes ⟨28,text,n,kids,pl⟩=hv at Cu K200 K41 K43 K44 K45 hM aY|-;obtain⟨cs,Eo⟩:∃cs:Int,cs=(Qz 83 hv:Int):=⟨_,rfl⟩;rw[<-Eo]at hM;simp only[Nd.cv,Tr.cv,Tr.row]at Bj Cu K200 K41 K43 K44 K45 hM|-;clear hK;obtain⟨m,Du⟩:∃m:Int,m=(kids.length:Int):=⟨_,rfl⟩;refine Jb c95_ok rfl rfl λN=>?_
 simp (maxSteps:=2000000) -implicitDefEqProofs only[c95,go_sem,Jf,Gd,<-Du];refine JU hM ?_;by_cases h0:0<=n
 ·have f0:((0:Int)<=n)=True:=eq_true h0;by_cases h1:n<m
  ·have f1:(n<m)=True:=eq_true h1;simp (maxSteps:=2000000) -implicitDefEqProofs only[go_sem,f0,f1];have BC:Qk 28 n hv=(Kh hv 0 n 73 && Kh hv n (n+1) 101 && Kh hv (n+1) (n+1+cs) 83 && Kh hv (n+1+cs) (m-1) 78 && Kh hv (m-1) m 71):=by simp[Qk,Cu,<-Du,<-Eo,h0,h1]
   rw[BC];refine Ka (gok rfl) (K43 (0) n) ?_
   cases g0:Kh hv (0) n 73 with
   |false=>simp (maxSteps:=2000000) -implicitDefEqProofs only[go_sem];try simp
   |true=>
    simp (maxSteps:=2000000) -implicitDefEqProofs only[go_sem];refine⟨Jg,?_⟩;refine Ka (gok rfl) (K200 (n) (n+1)) ?_
    cases g1:Kh hv (n) (n+1) 101 with
    |false=>simp (maxSteps:=2000000) -implicitDefEqProofs only[go_sem];try simp
    |true=>
     simp (maxSteps:=2000000) -implicitDefEqProofs only[go_sem];refine⟨Jg,?_⟩;refine⟨Jg,?_⟩;refine⟨Jg,?_⟩;refine Ka (gok rfl) (K41 (n+1) (n+1+cs)) ?_
     cases g2:Kh hv (n+1) (n+1+cs) 83 with
     |false=>simp (maxSteps:=2000000) -implicitDefEqProofs only[go_sem];try simp
     |true=>
      simp (maxSteps:=2000000) -implicitDefEqProofs only[go_sem];refine⟨Jg,?_⟩;refine⟨Jg,?_⟩;refine⟨Jg,?_⟩;refine Ka (gok rfl) (K44 (n+1+cs) (m-1)) ?_
      cases g3:Kh hv (n+1+cs) (m-1) 78 with
      |false=>simp (maxSteps:=2000000) -implicitDefEqProofs only[go_sem];try simp
      |true=>
       simp (maxSteps:=2000000) -implicitDefEqProofs only[go_sem];refine⟨Jg,?_⟩;refine Ka (gok rfl) (K45 (m-1) m) ?_
       cases g4:Kh hv (m-1) m 71 with
       |false=>simp (maxSteps:=2000000) -implicitDefEqProofs only[go_sem];try simp
       |true=>
        simp (maxSteps:=2000000) -implicitDefEqProofs only[go_sem]
        try simp
  ·have f1:(n<m)=False:=eq_false h1;simp (maxSteps:=2000000) -implicitDefEqProofs only[go_sem,f0,f1];simp[Qk,Cu,<-Du,h1]
 ·have f0:((0:Int)<=n)=False:=eq_false h0;simp (maxSteps:=2000000) -implicitDefEqProofs only[go_sem,f0];simp[Qk,h0]
end Go.Cm
end
section
open Go.Shelf Go.RowKit Go.Proofs
namespace Go.Proofs
open Go.Cm in
set_option maxHeartbeats 4000000 in
set_option maxRecDepth 100000 in
theorem Tryz.kinMax_walk (ta tb:Value)(s:ByteArray)(b:Option Addr)(len cap:Nat)(pl:Int)(hl:len<=1000)(w:World) :
  Calls Ga 95 #[.agg #[ta,tb],.agg #[.int .u8 41,.string s,.int .i64 9223372036854775807,.slice b len cap,.int .i64 pl]] w λe w'=>e=.returned (.bool false)/\Below w.heap.size w w':=by
 have hw:wrap64 9223372036854775808 = -9223372036854775808:=by decide +kernel
 have Ai:¬((len:Int)=wrap64 9223372036854775808):=by omega
 go_enter Tryz.func95,Tryz.ntmps95
 go_wp2
 all_goals first
  |(exfalso;omega)
  |skip
 go_ret
 exact⟨rfl,((Below.refl _ _).alloc (Gf _) _).alloc (show _<=(w.heap.push _).size by rw[Array.size_push];omega) _⟩
end Go.Proofs
namespace Go.Cm
theorem refKinMax (t:Tr)(x:Nd)(hx:x.Fit)(Ba:x.k=41)(hm:x.n=9223372036854775807):Fn Ga 95 [t.cv,.agg x.cv] (.bool (Qk x.k x.n (lets t.nodes x))):=by
 have Bj:=hx.kidn;have Cu:=KH (l:=t.nodes) (x:=x);have hf:Qk x.k x.n (lets t.nodes x)=false:=by
  rw[Ba,hm];have:((lets t.nodes x).length:Int)≠9223372036854775808:=om;simp[Qk,this]
 rw[hf];intro E H;refine K6 λm w vs hs hv=>?_
 obtain⟨k,text,n,kids,pl⟩:=x;simp only at Ba hm;subst Ba hm;simp only[J7,rel,Tr.cv,Tr.row,Nd.cv]at hv;obtain⟨r,rs,e,⟨v1,rfl,ra,ras,e1,-,rb,rbs,e2,-,e3⟩,x,xs,e4,⟨v2,rfl,y1,ys1,f1,g1,y2,ys2,f2,g2,y3,ys3,f3,g3,y4,ys4,f4,g4,y5,ys5,f5,g5,f6⟩,e5⟩:=hv;have BI:vs=#[.agg v1,.agg v2]:=by cases vs;simp_all
 have h1:v1=#[ra,rb]:=by cases v1;simp_all
 have h2:v2=#[y1,y2,y3,y4,y5]:=by cases v2;simp_all
 subst BI h1 h2 g1 g2 g3 g5;have h4:∃b c,y4=.slice b kids.length c:=by
  rcases g4 with ⟨-,h,b,rfl⟩|⟨B,o,c,rfl,-⟩
  ·have:kids.length=0:=by rw[<-Jf (l:=kids),h];rfl
   exact⟨b,0,by rw[this]⟩
  ·exact⟨_,c,by rw[Jf]⟩
 obtain⟨b,c,rfl⟩:=h4;exact⟨_,Tryz.kinMax_walk ra rb ⟨⟨text⟩⟩ b kids.length c pl (by simp only at Bj;omega) w,rfl⟩
theorem refKin (t:Tr)(x:Nd)(hx:x.Fit)(hm:t.nodes.length<=1400)(hn:∀y∈t.nodes,y.k<256)(hk:∀k∈x.kids,0<=k/\k<t.nodes.length):Fn Ga 95 [t.cv,.agg x.cv] (.bool (Qk x.k x.n (lets t.nodes x))):=by
 by_cases Ef:x.k=28
 ·exact refKin28 t x hx hm hn hk Ef
 ·by_cases Ba:x.k=41/\x.n=9223372036854775807
  ·exact refKinMax t x hx Ba.1 Ba.2
  ·exact refKin1 t x hx hm hn hk (λh=>by
   have h5:x.n<=9223372036854775807:=hx.n.2;have h6:x.n≠9223372036854775807:=λe=>Ba ⟨h,e⟩
   omega) Ef
end Go.Cm
end
section
set_option maxRecDepth 100000
set_option maxHeartbeats 40000000
open Go.Proofs
namespace Go.Cm
variable {t:Tr}{i n:Nat}{cap:Option Nat}
theorem refFields (x:Nd)(kk:Nat)(nmd:Bool)(hq:(kk == 2)=nmd)(hn:Fn Ga 150 [S x.text] (.int .u8 kk)):Fn Ga 96 [.agg x.cv] (.bool (Q4 nmd x.k x.text x.n x.pl)):=by
 have D6:((kk:Int) != 2) = !nmd:=by
  rw[<-hq,bne]
  congr 1
  rw[Gj];simp;omega
 obtain⟨k,text,n,kids,pl⟩:=x;simp only[Nd.cv]at hn|-;by_cases hC:k=1\/k=2\/k=3\/k=26\/k=42\/k=43\/k=44\/k=64\/k=65\/k=47\/k=48\/k=40\/k=41\/k=28\/k=29
 rotate_left
 ·have hE:Q4 nmd k text n pl=(text == [] && (n == 0 && inI 0 2500 pl)):=by simp only[Q4];have d1:decide (k=3\/k=26\/k=42\/k=43\/k=44\/k=64\/k=65\/k=47)=false:=decide_eq_false om;have d2:decide (k=65\/k=47\/k=40\/k=41\/k=28\/k=29)=false:=decide_eq_false om;rw[iN7,iN7,iN7,d1,d2];simp
  rw[hE];simp only[not_or]at hC;refine Jb c96_ok rfl rfl λN=>?_
  cases t1:text == [] <;> cases h0:n == 0 <;> repeat first
   |refine Ka (gok rfl) (JbR pl 0 2500) ?_
   |simp (maxSteps:=2000000) -implicitDefEqProofs only[c96,go_sem,t1,h0,kbo,hC,not_false_eq_true]
 rcases hC with rfl|rfl|rfl|rfl|rfl|rfl|rfl|rfl|rfl|rfl|rfl|rfl|rfl|rfl|rfl <;> (
  simp only[Q4];refine Jb c96_ok rfl rfl λN=>?_
  repeat first
   |refine JU (JbR n 0 1000000000) ?_
   |refine JU (JbR n 0 1) ?_
   |refine Ka (gok rfl) (JbR pl 0 2500) ?_
   |refine Ka (gok rfl) hn ?_;clear hq hn;revert D6;cases nmd <;> intro D6 <;> simp only[GY,GN]at D6
   |simp (maxSteps:=2000000) -implicitDefEqProofs only[c96,go_sem,Gd,D6]
   |rcases Gt (text == []) with t1|t1 <;> rw[t1]
   |rcases Gt (text == [35]) with t2|t2 <;> rw[t2]
   |rcases Gt (n == 0) with h0|h0 <;> rw[h0]
   |rcases Gt (inI 0 1000000000 n) with hc|hc <;> rw[hc]
   |rcases Gt (inI 0 1 n) with hc|hc <;> rw[hc]
  all_goals first|simp|simp_all)
def mD (d:Lx)(ks:Lx):Int:=ks.foldl (λa k=>mx a (d.getD k.toNat 0)) 0
theorem mx_succ (a b:Int):mx (a+1) (b+1)=mx a b+1:=by unfold mx;split <;> split <;> omega
theorem ownD_mD (d ks:Lx):ownD d ks=mD d ks+1:=by
 have key:∀(l:Lx) (a:Int),l.foldl (λa k=>mx a (d.getD k.toNat 0+1)) (a+1)=l.foldl (λa k=>mx a (d.getD k.toNat 0)) a+1:=by
  intro l
  induction l with
  |nil=>intro a;rfl
  |cons k l ih=>intro a;rw[Hq,Hq,mx_succ];exact ih _
 exact key ks 0
theorem mD_rng {d:Lx}{m:Int}(h:∀v∈d,1<=v/\v<=m)(hm:0<=m)(ks:Lx):0<=mD d ks/\mD d ks<=m:=by have:=Jhv (m:=m) h hm ks 1 om om;have e:=ownD_mD d ks;unfold ownD at e;omega
theorem Jf4 (t:Tr)(ht:t.Fit){o:Lx}(ho:JB (JO t.nodes) []=some o):Fn Ga 78 [t.cv] (.bool (Jbp t)):=by
 have Ag:=ht.many;refine Jb c78_ok rfl rfl λN=>?_
 simp only[c78,go_sem,Tr.cv,Tr.row];refine Je (id:=0) (z:=2) (els:=[t.row]) rfl rfl ?_;simp only[go_sem,JK,KC,frz,Kn];refine Js (I:=λi:Nat=>i<=t.nodes.length/\∀v∈QS ((JO t.nodes).take i) [],v<=30) (inv:=λi=>gp [(1,.rptr t.row),(1,.slc 1 0 (iz (QS ((JO t.nodes).take i) [])).length (Jej (iz (QS ((JO t.nodes).take i) [])))),(0,.int .i64 (i:Int))] 43)
  (hp:=λi=>[.dead,.arr 1 (iz (QS ((JO t.nodes).take i) []))]) (μ:=λi=>t.nodes.length-i) 0 [0,1] ⟨om,by simp[QS]⟩ rfl ?_ rfl ?_
 ·simp[forget,JG,ren,Jl,gp,QS,iz,Jej]
 ·rintro i ⟨hi,Aj⟩;have AU:(QS ((JO t.nodes).take i) []).length=i:=by rw[JcR,Gz];simp[JO];omega
  have Fs:=Jh1 ((JO t.nodes).take i) [] (by intro v hv;simp at hv);by_cases Ab:i<t.nodes.length
  ·have Av:=JgB (Kq Ab);have I4:=XQ ho (Kq Ab);have hx:=ht.nodes _ (Gg Ab);rw[<-rowg Ab]at hx;have CE:=AU;clear AU;have Df:∀v∈QS ((JO t.nodes).take (i+1)) [],v∈QS (JO t.nodes) []:=by intro v hv;rw[deepF_take (by rw[QF];omega)]at hv;exact H8 hv
   generalize hD:QS ((JO t.nodes).take i) []=d at Av CE Fs Aj|-;have d1:=dtT i t.nodes.length;simp only[go_sem,Tr.row,Ja,d1];have hg:=QE Ab;generalize t.nodes.getD i default=x at Av I4 hx hg|-;have Bj:=hx.kidn;have Ie:∀v∈d,1<=v/\v<=i:=λv hv=>by have:=Fs v hv;omega
   refine JL (I:=λj:Nat=>j<=x.kids.length) (inv:=λj=>gp [(1,.rptr t.row),(1,.slc 1 0 (iz d).length (Jej (iz d))),(0,.int .i64 (i:Int)),(0,.int .i64 (mD d (x.kids.take j))),(0,.int .i64 (j:Int))] 41)
    (hp:=λ_=>[.dead,.arr 1 (iz d)]) (μ:=λj=>x.kids.length-j) 0 om ?_ rfl ?_
   ·simp[forget,gp,mD,Tr.row]
   ·intro j hj;have Br:(iz x.kids).length=x.kids.length:=Jf;by_cases A8:j<x.kids.length
    ·have d2:=dtT j x.kids.length;have Ay:x.kids.getD j 0∈x.kids:=by rw[Gc,Gb A8];exact Gg A8
     have hb:=I4 _ Ay;have Al:mD d (x.kids.take (j+1))=mx (mD d (x.kids.take j)) (d.getD (x.kids.getD j 0).toNat 0):=by
      have DK:x.kids.getD j 0=x.kids[j]:=by rw[Gc,Gb A8];rfl
      unfold mD;rw[Gu A8,Hl,DK];rfl
     have Ar:=JF A8;generalize x.kids.getD j 0=k at hb Al Ar;have DK:=JF (l:=d) (i:=k.toNat) om;have EA:=JhJ (m:=i) (λv hv=>by have:=Ie v hv;omega) om k.toNat;have Sq:(iz d).length=d.length:=Jf;simp only[go_sem,Tr.row,Ja,hg,Nd.cv,Br,d2,Ar,DK];refine⟨om,om,om,om,om,Jg,j+1,om,om,?_⟩;rw[Al];simp[forget,mx]
    ·have Cq:j=x.kids.length:=om;subst Cq;have d2:=dfF x.kids.length x.kids.length;rw[Gn];have iq:=mD_rng Ie om x.kids;have Sq:(iz d).length=d.length:=Jf;rw[ownD_mD]at Av;have hz:iz (d++[mD d x.kids+1])=iz d++[[.int .i64 (mD d x.kids+1)]]:=Qp;have Az:=Jh (d++[mD d x.kids+1]);generalize mD d x.kids=v at Av iq hz Az|-;by_cases hv:30<v+1
     ·have d3:((30:Int)<v+1)=True:=eq_true hv;have hB:Jbp t=true:=by rw[Jbp,Hm];exact⟨v+1,Df _ (by rw[Av];simp),by simpa using hv⟩
      simp only[go_sem,Tr.row,Ja,hg,Nd.cv,Br,d2,d3,JA,hB]
      repeat' apply And.intro
      all_goals first|omega|exact Jg
     ·have d3:((30:Int)<v+1)=False:=eq_false hv;simp only[go_sem,Tr.row,Ja,hg,Nd.cv,Br,d2,d3,JA];refine⟨om,Jg,om,Jg,Jg,i+1,[0,3],⟨om,?_⟩,om,rfl,?_,?_⟩
      ·rw[Av];intro u hu;rcases G5.1 hu with hu|hu
       ·exact Aj u hu
       ·rw[GL.1 hu];omega
      ·rw[Av];have hc:=Jc (ρ:=[0,3]) Az;simp only[KE,Gh,Gq,go_sem,Jo];rw[hz]at hc|-;rw[hc];rfl
      ·rw[Av,hz,Yz];simp[forget,JG,ren,Jl,Jf]
  ·have CO:i=t.nodes.length:=om;subst CO;have d1:=dfF t.nodes.length t.nodes.length;have hB:Jbp t=false:=by rw[Jbp,<-Gy (l:=JO t.nodes) (i:=t.nodes.length) (by simp[JO]),Li];intro v hv;have:=Aj v hv;simp;omega
   rw[hB];simp only[go_sem,Tr.row,Ja,d1]
theorem Jbt(h1:¬(700<t.nodes.length\/20<t.items.length))(h2:frm t=false):chk t=4:=by unfold chk;rw[if_neg h1,if_neg (by rw[h2];simp)]
theorem frm_none(h:JB (JO t.nodes) []=none):frm t=false:=by unfold frm;rw[h]
theorem frm_kid(hi:i<t.nodes.length){k:Int}(hk:k∈(t.nodes.getD i default).kids)(hb:¬(0<=k/\k<i)):frm t=false:=by
 cases h:JB (JO t.nodes) []with
 |none=>exact frm_none h
 |some o=>exact absurd (XQ h (Kq hi) k hk) hb
theorem frm_nd(hi:i<t.nodes.length)(hb:ndI t.nodes (t.nodes.getD i default)=false):frm t=false:=by
 unfold frm
 cases h:JB (JO t.nodes) []with
 |none=>rfl
 |some o=>
  simp only[G9]
  right
  rw[Lj];refine⟨t.nodes.getD i default,?_,by rw[hb];simp⟩;rw[Gc,Gb hi];exact Gg hi
theorem step_ord {K:LU}{o ks:Lx}(ho:JB (K.take i) []=some o)(hk:K[i]? = some ks) :
  (JB (K.take (i+1)) []=none/\(JfL (fs o) ks.reverse i).2=false)\/(∃f,JB (K.take (i+1)) []=some (o++[f])/\(JfL (fs o) ks.reverse i).2=true):=by
 obtain⟨h1,h2⟩:=JdL ho hk;have Ao:=QU _ _ _ Xj.nil ho;have h3:=Jf9 (fst:=fs o) Ao (λk _ _=>rfl) ks.reverse ((o.length:Int)-1) om;rw[h1];unfold Jev;have e:((o.length:Int)-1+1)=(i:Int):=om;rw[e]at h3
 cases h4:XA o ks.reverse ((o.length:Int)-1) with
 |none=>rw[h4]at h3;exact .inl ⟨rfl,h3⟩
 |some b=>rw[h4]at h3;simp only at h3;exact .inr ⟨b+1,rfl,by rw[h3]⟩
theorem ndI_R (l:LF)(x:Nd):ndI l x=(Qk x.k x.n (lets l x) && Q4 (JdT x.text) x.k x.text x.n x.pl && Qq x.k x.n (lets l x)):=by unfold ndI;rw[node_eq];rfl
theorem refCheck (t:Tr)(ht:t.Fit):Fn Ga 56 [t.cv] (.int .i64 (chk t)):=by
 have Ag:=ht.many;have O1:=ht.items;refine Jb c56_ok rfl rfl λN=>?_
 simp only[c56,go_sem,Tr.cv,Tr.row];refine Je (id:=0) (z:=2) (els:=[t.row]) rfl rfl ?_;simp only[go_sem,JK,KC,frz,Kn,Tr.row];refine JU (refLimits t) ?_;by_cases h1:700<t.nodes.length\/20<t.items.length
 ·have hc:chk t=5:=by unfold chk;rw[if_pos h1]
  rw[decide_eq_false (not_not_intro h1),hc];simp only[go_sem]
 ·rw[decide_eq_true h1];simp only[go_sem];refine JL (I:=λi:Nat=>i<=t.nodes.length/\∀j,j<i->∀k∈(t.nodes.getD j default).kids,0<=k/\k<j) (inv:=λi=>gp [(1,.rptr t.row),(1,.int .i64 (i:Int))] 123) (hp:=λ_=>[.dead]) (μ:=λi=>t.nodes.length-i) 0 ⟨om,om⟩ ?_ rfl ?_
  ·simp[forget,gp,Tr.row]
  ·rintro i ⟨hi,FE⟩;by_cases Ab:i<t.nodes.length
   ·have d1:=dtT i t.nodes.length;have hx:=ht.nodes _ (Gg Ab);rw[<-rowg Ab]at hx;have hg:=QE Ab;have aJ:=λ{k:Int} (hk:k∈(t.nodes.getD i default).kids) (hb:¬(0<=k/\k<i))=>frm_kid Ab hk hb
    have M4:(∀k∈(t.nodes.getD i default).kids,0<=k/\k<i)->∀j,j<i+1->∀k∈(t.nodes.getD j default).kids,0<=k/\k<j:=by
     intro h j hj;by_cases e:j=i
     ·subst e;exact h
     ·exact FE j om
    generalize t.nodes.getD i default=x at hx hg aJ M4;have Bj:=hx.kidn;have Br:(iz x.kids).length=x.kids.length:=Jf;simp only[go_sem,Tr.row,Ja,d1];refine JL (I:=λj:Nat=>j<=x.kids.length/\∀k∈x.kids.take j,0<=k/\k<i) (inv:=λj=>gp [(1,.rptr t.row),(1,.int .i64 (i:Int)),(0,.int .i64 (j:Int))] 122) (hp:=λ_=>[.dead]) (μ:=λj=>x.kids.length-j) 0 ⟨om,sM⟩ ?_ rfl ?_
    ·simp[forget,gp,Tr.row]
    ·rintro j ⟨hj,Er⟩;by_cases A8:j<x.kids.length
     ·have d2:=dtT j x.kids.length;have Ar:=JF A8;have Ay:x.kids.getD j 0∈x.kids:=by rw[Gc,Gb A8];exact Gg A8
      have AJ:x.kids.take (j+1)=x.kids.take j++[x.kids.getD j 0]:=by rw[Gu A8,Gc,Gb A8];rfl
      generalize x.kids.getD j 0=k at Ar Ay AJ;simp only[go_sem,Tr.row,Ja,hg,Nd.cv,Br,d2,Ar];refine⟨om,om,om,Jg,?_⟩;refine JU (JbR k 0 ((i:Int)-1)) ?_
      cases AQ:inI 0 ((i:Int)-1) k with
      |true=>
       simp only[inI,Gi,decide_eq_true_eq]at AQ;simp only[go_sem];refine⟨Jg,j+1,⟨om,?_⟩,om,?_⟩
       ·rw[AJ];intro u hu;rcases G5.1 hu with hu|hu
        ·exact Er u hu
        ·rw[GL.1 hu];omega
       ·simp[forget]
      |false=>
       have hb:¬(0<=k/\k<i):=by simp only[inI,G9,decide_eq_false_iff_not]at AQ;omega
       rw[Jbt h1 (aJ Ay hb)];simp only[go_sem]
     ·have Cq:j=x.kids.length:=om;subst Cq;rw[Gn]at Er;have d2:=dfF x.kids.length x.kids.length;simp only[go_sem,Tr.row,Ja,hg,Nd.cv,Br,d2];refine⟨om,Jg,i+1,⟨om,M4 Er⟩,om,?_⟩;simp[forget]
   ·have CO:i=t.nodes.length:=om;subst CO;have d1:=dfF t.nodes.length t.nodes.length;simp only[go_sem,Tr.row,Ja,d1];refine JL (I:=λi:Nat=>i<=t.nodes.length/\(∃o,JB ((JO t.nodes).take i) []=some o)/\∀j,j<i->ndI t.nodes (t.nodes.getD j default)=true) (inv:=λi=>gp [(1,.rptr t.row),(3,.int .i64 (i:Int))] 121) (hp:=λ_=>[.dead]) (μ:=λi=>t.nodes.length-i) 0 ⟨om,⟨[],by simp[JB]⟩,om⟩ ?_ rfl ?_
    ·simp[forget,gp,Tr.row]
    ·rintro i ⟨hi,⟨o,ho⟩,F6⟩;by_cases Ab:i<t.nodes.length
     ·have d1:=dtT i t.nodes.length;have hx:=ht.nodes _ (Gg Ab);rw[<-rowg Ab]at hx;have hg:=QE Ab;have E5:=Kq Ab;have BC:=FE i Ab;have Uu:=λhb=>frm_nd Ab hb
      have MF:=ndI_R t.nodes (t.nodes.getD i default);have hS:=refSized t i Ab Ag hx (λy hy=>(ht.nodes y hy).k) (λk hk=>by have:=BC k hk;omega);have Av:=step_ord ho E5;have BH:ndI t.nodes (t.nodes.getD i default)=true->∀j,j<i+1->ndI t.nodes (t.nodes.getD j default)=true:=by
       intro h j hj;by_cases e:j=i
       ·subst e;exact h
       ·exact F6 j om
      generalize t.nodes.getD i default=x at hx hg E5 BC Uu MF hS Av BH;have hO:=Jf5 t ho hi Ag x.kids (by have:=hx.kidn;omega) i (Gf _);have jB:=refKin t x hx Ag (λy hy=>(ht.nodes y hy).k) (λk hk=>by have:=BC k hk;omega);have hF:=refFields x (kindR x.text) (JdT x.text) (kindR_name x.text) (refKind x.text (by have:=hx.text;omega));simp only[go_sem,Tr.row,Ja,d1];refine JQ Jm vk ?_;simp only[go_sem,Ja,hg];refine anO ?_;simp only[go_sem,Nd.cv];refine Kc (.inl rfl) hO ?_;simp only[go_sem];refine JQ Jm vk ?_;rcases Av with ⟨s1,s2⟩|⟨f,s1,s2⟩
      ·simp only[go_sem,s2];rw[Jbt h1 (frm_none (JdM s1))]
      ·simp only[go_sem,Ja,s2,hg];refine anO ?_;refine⟨by simp[Nd.cv],?_⟩;refine Kc (gok rfl) jB ?_
       cases b1:Qk x.k x.n (lets t.nodes x) with
       |false=>rw[b1,GQ,GQ]at MF;simp only[go_sem];rw[Jbt h1 (Uu MF)]
       |true=>
        simp only[go_sem,Ja,hg];refine⟨om,by simp[Nd.cv],?_⟩;refine Kc (gok rfl) hF ?_
        cases b2:Q4 (JdT x.text) x.k x.text x.n x.pl with
        |false=>rw[b1,b2,GG,GQ]at MF;simp only[go_sem];rw[Jbt h1 (Uu MF)]
        |true=>
         simp only[go_sem];refine Kc (gok rfl) hS ?_
         cases b3:Qq x.k x.n (lets t.nodes x) with
         |false=>rw[b1,b2,b3,GG,GG]at MF;simp only[go_sem];rw[Jbt h1 (Uu MF)]
         |true=>rw[b1,b2,b3,GG,GG]at MF;simp only[go_sem];refine⟨Jg,i+1,⟨om,⟨_,s1⟩,BH MF⟩,om,?_⟩;simp[forget]
     ·have CO:i=t.nodes.length:=om;subst CO;have d1:=dfF t.nodes.length t.nodes.length;have Px:JB (JO t.nodes) []=some o:=by rw[<-Gy (l:=JO t.nodes) (i:=t.nodes.length) (by simp[JO])];exact ho
      have Ao:=QU _ _ _ Xj.nil Px;have Bd:=QQ _ _ _ Px;simp only[Gs,Gv,QF]at Bd;have hO:=Jf5 t ho (Gf _) Ag t.items om t.nodes.length (Gf _);have IR:=items_eq (fst:=fs o) (isD:=λi=>Jw t.nodes i == 65) Ao Bd (λk _ _=>rfl) t.items;have Aj:t.nodes.all (ndI t.nodes)=true:=by rw[GA];intro y hy;obtain⟨j,hj⟩:=H9 hy;have A8:=(Gl.1 hj).1;have:=F6 j A8;rw[Gc,hj]at this;exact this
      have MQ:frm t=Y8 o (λi=>Jw t.nodes i == 65) t.nodes.length t.items 0:=by unfold frm;rw[Px];simp only[Aj,Bool.and_true]
      simp only[go_sem,Tr.row,Ja,d1];refine JU hO ?_;simp only[go_sem]
      cases b1:(JfL (fs o) t.items.reverse t.nodes.length).2 with
      |false=>
       rw[Jbt h1 (by rw[MQ,IR,decide_eq_false (λh=>by rw[h]at b1;cases b1)];rfl)];simp only[go_sem]
      |true=>
       by_cases b2:(JfL (fs o) t.items.reverse t.nodes.length).1=0
       ·have e2:((JfL (fs o) t.items.reverse t.nodes.length).1 != 0)=false:=by simp[b2]
        have RA:JfL (fs o) t.items.reverse t.nodes.length=(0,true):=Prod.ext b2 b1;rw[RA,decide_eq_true rfl,GG]at IR;simp only[go_sem,e2];have dM:=(Jdj Ao Bd (fst:=fs o) (λk _ _=>rfl) t.items.reverse t.nodes.length om om).1 RA;rw[List.reverse_reverse]at dM;have Ay:=λi hi=>QT Ao rfl t.items 0 t.nodes.length (by rw[Bd];exact dM) i hi
        refine JL (I:=λi:Nat=>i<=t.items.length/\∀k∈t.items.take i,(Jw t.nodes k == 65)=true) (inv:=λi=>gp [(1,.rptr t.row),(8,.int .i64 (i:Int))] 116) (hp:=λ_=>[.dead]) (μ:=λi=>t.items.length-i) 0 ⟨om,sM⟩ ?_ rfl ?_
        ·simp[forget,gp,Tr.row]
        ·rintro i ⟨hi,Fs⟩;have Ae:(iz t.items).length=t.items.length:=Jf;by_cases Ab:i<t.items.length
         ·have d2:=dtT i t.items.length;have Ar:=JF Ab;have Co:t.items.getD i 0∈t.items:=by rw[Gc,Gb Ab];exact Gg Ab
          have AJ:t.items.take (i+1)=t.items.take i++[t.items.getD i 0]:=by rw[Gu Ab,Gc,Gb Ab];rfl
          generalize t.items.getD i 0=k at Ar Co AJ;have Ep:=Ay k Co;have DK:=QE (l:=t.nodes) (i:=k.toNat) om;have BC:Jw t.nodes k=(t.nodes.getD k.toNat default).k:=rfl;generalize t.nodes.getD k.toNat default=x at DK BC;simp only[go_sem,Tr.row,Ae,d2];refine JQ Jm vk ?_;simp only[go_sem,Ja,Ae,Ar];refine anO ?_;simp only[go_sem,DK,Nd.cv];refine anO ?_;have q65:=JdQ 65 x.k;simp only[Gd]at q65
          cases b3:(x.k == 65) with
          |true=>
           have e3:((x.k:Int) != 65)=false:=by rw[bne,q65,b3];rfl
           simp only[go_sem,e3];refine⟨Jg,i+1,⟨om,?_⟩,om,?_⟩
           ·rw[AJ];intro u hu;rcases G5.1 hu with hu|hu
            ·exact Fs u hu
            ·rw[GL.1 hu,BC];exact b3
           ·simp[forget]
          |false=>
           have e3:((x.k:Int) != 65)=true:=by rw[bne,q65,b3];rfl
           have hf:frm t=false:=by rw[MQ,IR,Lj];exact⟨k,Co,by rw[BC,b3];simp⟩
           rw[Jbt h1 hf];simp only[go_sem,e3]
         ·have CO:i=t.items.length:=om;subst CO;rw[Gn]at Fs;have d2:=dfF t.items.length t.items.length;have hf:frm t=true:=by rw[MQ,IR,GA];exact Fs
          have hc:chk t=if Jbp t=true then 5 else 0:=by unfold chk;rw[if_neg h1,if_pos hf]
          rw[hc];simp only[go_sem,Tr.row,Ae,d2];refine JU (Jf4 t ht Px) ?_
          cases b4:Jbp t with
          |true=>simp only[go_sem]
          |false=>simp only[go_sem]
       ·have e2:((JfL (fs o) t.items.reverse t.nodes.length).1 != 0)=true:=by simp[b2]
        rw[Jbt h1 (by rw[MQ,IR,decide_eq_false (λh=>by rw[h]at b2;exact b2 rfl)];rfl)];simp only[go_sem,e2]
theorem Jbx {α:Type}{l:List α}{d:α}(h:i<l.length):l.take (i+1)=l.take i++[l.getD i d]:=by rw[Gu h,Gc,Gb h];rfl
theorem JeO (a b:Lx)(ha:a.length<=100000):Fn Ga 65 [.rslc 1 (iz a) none,.rslc 1 (iz b) none] (.bool (a == b)):=by
 have Am:(iz a).length=a.length:=Jf;have Bo:(iz b).length=b.length:=Jf;refine Jb c65_ok rfl rfl λN=>?_
 by_cases hl:a.length=b.length
 ·have e1:((a.length:Int) != (b.length:Int))=false:=by simp[hl]
  simp only[c65,go_sem,Am,Bo,e1];refine JL (I:=λi:Nat=>i<=a.length/\a.take i=b.take i) (inv:=λi=>gp [(0,.rslc 1 (iz a) none),(0,.rslc 1 (iz b) none),(3,.int .i64 (i:Int))] 20) (hp:=λ_=>[]) (μ:=λi=>a.length-i) 0 ⟨om,sM⟩ ?_ rfl ?_
  ·simp[forget,gp]
  ·rintro i ⟨hi,Aa⟩;by_cases Ab:i<a.length
   ·have d1:=dtT i a.length;have De:=JF Ab;have Md:=JF (l:=b) (i:=i) om;have U4:=Jbx (d:=0) Ab;have U3:=Jbx (l:=b) (i:=i) (d:=0) om;simp only[go_sem,Am,Bo,d1];refine JQ Jm vk ?_;simp only[go_sem,Am,Bo,De,Md];refine⟨om,om,?_⟩;by_cases he:a.getD i 0=b.getD i 0
    ·have e2:(a.getD i 0 != b.getD i 0)=false:=by rw[he];simp
     simp only[go_sem,e2];refine⟨Jg,i+1,⟨om,by rw[U4,U3,Aa,he]⟩,om,?_⟩;simp[forget]
    ·have e2:(a.getD i 0 != b.getD i 0)=true:=by simpa using he
     have Ai:(a == b)=false:=by rw[beq_eq_false_iff_ne];rintro rfl;exact he rfl
     simp only[go_sem,e2,Ai]
   ·have d1:=dfF i a.length;have he:(a == b)=true:=by
     rw[beq_iff_eq];have h1:i=a.length:=om;rw[h1,Gn,Gy om]at Aa;exact Aa
    simp only[go_sem,Am,Bo,d1,he]
 ·have e1:((a.length:Int) != (b.length:Int))=true:=by simp;omega
  have Ai:(a == b)=false:=by rw[beq_eq_false_iff_ne];rintro rfl;exact hl rfl
  simp only[c65,go_sem,Am,Bo,e1,Ai]
def Jhc (x y:Nd):Bool:=x.k == y.k && x.text == y.text && x.n == y.n && x.kids == y.kids
theorem sameN_self (x:Nd):Jhc x x=true:=by simp[Jhc]
def YZ:LF->LF->Bool
 |[],[]=>true
 |x::l,y::m=>Jhc x y && YZ l m
 |_,_=>false
theorem Jf0:∀l:LF,YZ l l=true
 |[]=>rfl
 |x::l=>by simp[YZ,sameN_self,Jf0 l]
theorem sameL_len:∀{l m:LF},YZ l m=true->l.length=m.length
 |[],[],_=>rfl
 |x::l,y::m,h=>by simp[YZ]at h;simp[sameL_len h.2]
 |[],_::_,h=>by simp[YZ]at h
 |_::_,[],h=>by simp[YZ]at h
theorem sameL_drop {l m:LF}(hi:i<l.length)(hm:i<m.length):YZ (l.drop i) (m.drop i)=(Jhc (l.getD i default) (m.getD i default) && YZ (l.drop (i+1)) (m.drop (i+1))):=by rw[Gp hi,Gp hm,YZ];simp[Gc,hi,hm]
def Jhb (a b:Tr):Bool:=a.items == b.items && YZ a.nodes b.nodes
theorem refSame (a b:Tr)(ha:a.Fit)(hb:b.Fit):Fn Ga 35 [a.cv,b.cv] (.bool (Jhb a b)):=by
 have Am:=ha.many;have iX:=ha.items;refine Jb c35_ok rfl rfl λN=>?_
 by_cases hl:a.nodes.length=b.nodes.length
 ·have e1:((a.nodes.length:Int) != (b.nodes.length:Int))=false:=by simp[hl]
  simp only[c35,go_sem,Tr.cv,Tr.row,Ja,e1];refine Je (id:=0) (z:=2) (els:=[a.row]) rfl rfl ?_;simp only[go_sem,JK,KC,frz,Kn];refine Je (id:=1) (z:=2) (els:=[b.row]) rfl rfl ?_;simp only[go_sem,JK,KC,frz,Kn,Tr.row,Ja];refine Ka (gok rfl) (JeO a.items b.items om) ?_
  cases h2:(a.items == b.items) with
  |false=>
   have hs:Jhb a b=false:=by unfold Jhb;rw[h2];rfl
   simp only[go_sem,hs]
  |true=>
   have hs:Jhb a b=YZ a.nodes b.nodes:=by unfold Jhb;rw[h2];rfl
   rw[hs];simp only[go_sem];refine Js (I:=λi:Nat=>i<=a.nodes.length/\YZ a.nodes b.nodes=YZ (a.nodes.drop i) (b.nodes.drop i)) (inv:=λi=>gp [(2,.rptr a.row),(0,.rptr b.row),(1,.int .i64 (i:Int))] 61) (hp:=λ_=>[.dead,.dead]) (μ:=λi=>a.nodes.length-i) 0 [0,1] ⟨om,rfl⟩ rfl ?_ rfl ?_
   ·simp[forget,gp,JG,ren,Jl,Tr.row]
   ·rintro i ⟨hi,Aa⟩;by_cases Ab:i<a.nodes.length
    ·have d1:=dtT i a.nodes.length;have De:=QE Ab;have Md:=QE (l:=b.nodes) (i:=i) om;have hx:=ha.nodes _ (Gg Ab);rw[<-rowg Ab]at hx;rw[sameL_drop Ab om]at Aa;generalize a.nodes.getD i default=x at De hx Aa;generalize b.nodes.getD i default=y at Md Aa;simp only[go_sem,Tr.row,Ja,d1];refine vr_dregP 10 11 [false,false,false,false,false,false,false,false,false,false,true,true,true,true] [false,false,false,false,false,false,false,false,false,false,true,true,true,true] (gp [(2,.rptr a.row),(0,.rptr b.row),(1,.int .i64 (i:Int)),(0,.ptr 2 0 0),(0,.ptr 3 0 0)] 59) [.dead,.dead,.arr 5 [x.cv],.arr 5 [y.cv]] Jm vM ?_ ?_ ?_
     ·simp only[go_sem,Tr.row,Ja,De,Md,Nd.cv,splice];exact⟨om,om,JhB [0,1,2,3] rfl (by simp[forget,JG,ren,Jl]) (by simp only[KE,Gh,Gq,go_sem,Jo,Jn];rfl)⟩
     ·simp only[swl,swi,Q6,Ht,List.range.loop,Gr,Gs,Gh,Gq,List.getD_cons_zero,List.getD_cons_succ,go_sem,Tr.row,Ja,De,Md,Nd.cv,splice];exact⟨om,om,JhB [0,1,3,2] rfl (by simp[forget,JG,ren,Jl]) (by simp only[KE,Gh,Gq,go_sem,Jo,Jn];rfl)⟩
     ·have ky:=hx.kidn;have hK:=JeO x.kids y.kids om;obtain⟨k1,t1,n1,ks1,p1⟩:=x;obtain⟨k2,t2,n2,ks2,p2⟩:=y;simp only[gp,G6]
      dsimp only at hK Aa
      have c1:((k1:Int) != (k2:Int)) = !(k1 == k2):=by rw[bne];congr 1;rw[Gj,beq_iff_eq,beq_iff_eq];omega
      cases b1:(k1 == k2) with
      |false=>
       rw[b1]at c1;have hR:YZ a.nodes b.nodes=false:=by rw[Aa];simp[Jhc,b1]
       simp only[go_sem,Nd.cv,c1,hR,GN]
      |true=>
       rw[b1]at c1
       cases b2:(t1 == t2) with
       |false=>
        have hR:YZ a.nodes b.nodes=false:=by rw[Aa];simp[Jhc,b2]
        simp only[go_sem,Nd.cv,c1,b2,hR,GY,GN]
       |true=>
        cases b3:(n1 == n2) with
        |false=>
         have e3:(n1 != n2)=true:=by rw[bne,b3];rfl
         have hR:YZ a.nodes b.nodes=false:=by rw[Aa];simp[Jhc,b3]
         simp only[go_sem,Nd.cv,c1,b2,e3,hR,GY,GN]
        |true=>
         have e3:(n1 != n2)=false:=by rw[bne,b3];rfl
         simp only[go_sem,Nd.cv,c1,b2,e3,GY,GN];refine Ka (gok rfl) hK ?_
         cases b4:(ks1 == ks2) with
         |false=>
          have hR:YZ a.nodes b.nodes=false:=by rw[Aa];simp[Jhc,b4]
          simp only[go_sem,hR]
         |true=>
          have hR:YZ a.nodes b.nodes=YZ (a.nodes.drop (i+1)) (b.nodes.drop (i+1)):=by rw[Aa];simp only[Jhc,b1,b2,b3,b4,GG]
          simp only[go_sem];refine⟨Jg,i+1,[0,1],⟨om,hR⟩,om,rfl,?_,?_⟩
          ·simp only[KE,Gh,Gq,go_sem,Jn]
          ·simp[forget,JG,ren,Jl,Tr.row]
    ·have CO:i=a.nodes.length:=om;have d1:=dfF i a.nodes.length;have hR:YZ a.nodes b.nodes=true:=by rw[Aa,Gw om,Gw om];rfl
     simp only[go_sem,Tr.row,Ja,d1,hR]
 ·have e1:((a.nodes.length:Int) != (b.nodes.length:Int))=true:=by simp;omega
  have hs:Jhb a b=false:=by
   unfold Jhb
   cases h:YZ a.nodes b.nodes with
   |false=>simp
   |true=>exact absurd (sameL_len h) hl
  simp only[c35,go_sem,Tr.cv,Tr.row,Ja,e1,hs]
theorem refAlike (a:Tr)(ha:a.Fit):Fn Ga 11 [a.cv,a.cv] (.bool true):=by
 have Am:=ha.many;have hS:=refSame a a ha ha;rw[show Jhb a a=true by simp[Jhb,Jf0]]at hS;refine Jb c11_ok rfl rfl λN=>?_
 simp only[c11,go_sem,Tr.cv,Tr.row];refine Je (id:=0) (z:=2) (els:=[a.row]) rfl rfl ?_;simp only[go_sem,JK,KC,frz,Kn];refine Je (id:=1) (z:=2) (els:=[a.row]) rfl rfl ?_;simp only[go_sem,JK,KC,frz,Kn,Tr.row];refine JU hS ?_;simp only[go_sem];refine JL (I:=λi:Nat=>i<=a.nodes.length) (inv:=λi=>gp [(2,.rptr a.row),(0,.rptr a.row),(1,.int .i64 (i:Int))] 24) (hp:=λ_=>[.dead,.dead]) (μ:=λi=>a.nodes.length-i) 0 om ?_ rfl ?_
 ·simp[forget,gp,Tr.row]
 ·intro i hi;by_cases Ab:i<a.nodes.length
  ·have d1:=dtT i a.nodes.length;have De:=QE Ab;generalize a.nodes.getD i default=x at De;have e:(x.pl != x.pl)=false:=sM;simp only[go_sem,Tr.row,Ja,d1];refine JQ Jm vk ?_;simp only[go_sem,Tr.row,Ja,De,Nd.cv,e];refine⟨om,om,Jg,i+1,om,om,?_⟩;simp[forget,Tr.row]
  ·have d1:=dfF i a.nodes.length;simp only[go_sem,Tr.row,Ja,d1]
def Jc5 (x:Nd):Bool:=decide (30<x.kids.length) || decide (60<x.text.length)
def vastH (t:Tr):Bool:=(decide (250<t.nodes.length) && decide (t.nodes.length<=700)) || decide (1400<t.nodes.length) || decide (40<t.items.length)
def vastT (t:Tr):Bool:=vastH t || t.nodes.any Jc5
theorem row_agg5 {x:Nd}{id:Nat}(hn:n=x.kids.length):wk (frz id 1 (iz x.kids) (.agg [.int .u8 x.k,S x.text,.int .i64 x.n,.slc id 0 n cap,.int .i64 x.pl])) (.agg x.cv):=by subst hn;have hl:(iz x.kids).length=x.kids.length:=Jf;simp only[frz,JK,if_true,Gv,hl,Gf,GM];rw[<-hl,Gn];exact Jdw ⟨wk.refl _,wk.refl _,wk.refl _,wk.rslc,wk.refl _,trivial⟩
theorem refMoved (x:Nd)(hx:x.kids.length<=1000)(d:Int)(hk:∀k∈x.kids,InR .i64 (k+d)):Fn Ga 28 [.agg x.cv,.int .i64 d] (.agg (mvN d x).cv):=by
 have Br:(iz x.kids).length=x.kids.length:=Jf;refine Jbk ?_ rfl rfl;refine Ki c28_ok λN=>?_
 simp only[c28,go_sem,Nd.cv];refine Js (I:=λi:Nat=>i<=x.kids.length) (inv:=λi=>gp [(1,.int .i64 d),(0,.ptr 0 0 0),(1,.ptr 1 0 0),(0,.slc 2 0 (iz ((x.kids.take i).map (· + d))).length (Jej (iz ((x.kids.take i).map (· + d))))),(0,.int .i64 (i:Int))] 21)
  (hp:=λi=>[.arr 5 [x.cv],.arr 5 [[.int .u8 0,S [],.int .i64 0,.nils,.int .i64 0]],.arr 1 (iz ((x.kids.take i).map (· + d)))]) (μ:=λi=>x.kids.length-i) 0 [0,1,2] om rfl ?_ rfl ?_
 ·simp[forget,JG,ren,Jl,gp,iz,Jej]
 ·intro i hi;by_cases Ab:i<x.kids.length
  ·have d1:=dtT i x.kids.length;have Ar:=JF Ab;have AJ:(x.kids.take (i+1)).map (· + d)=(x.kids.take i).map (· + d)++[x.kids.getD i 0+d]:=by rw[Jbx (d:=0) Ab,List.map_append];rfl
   have Bd:((x.kids.take i).map (· + d)).length=i:=by simp;omega
   have Ay:x.kids.getD i 0∈x.kids:=by rw[Gc,Gb Ab];exact Gg Ab
   have AQ:=hk _ Ay;generalize x.kids.getD i 0=k at Ar AJ AQ;generalize (x.kids.take i).map (· + d)=L at AJ Bd|-;have bG:(iz L).length=L.length:=Jf;have hz:iz (L++[k+d])=iz L++[[.int .i64 (k+d)]]:=Qp;simp only[go_sem,Nd.cv,Br,d1,Ar,JA];refine⟨om,AQ,om,Jg,i+1,[0,1,4],om,om,rfl,?_,?_⟩
   ·have hc:=Jc (ρ:=[0,1,4]) (Jh (L++[k+d]));rw[hz]at hc;rw[AJ,hz];simp only[KE,Gh,Gq,go_sem,Jo,hc];rfl
   ·rw[AJ,hz,Yz];simp[forget,JG,ren,Jl]
  ·have CO:i=x.kids.length:=om;subst CO;have d1:=dfF x.kids.length x.kids.length;rw[Gn];simp only[go_sem,Nd.cv,Br,d1,splice];exact .inr ⟨2,1,iz (x.kids.map (· + d)),rfl,Jh _,row_agg5 (x:=mvN d x) (by simp[Jf,mvN])⟩
theorem row_aggT {z:Nat}{els:LQ}{id:Nat}{y:CV}(hy:y.closed=true)(hn:n=els.length):wk (frz id z els (.agg [.slc id 0 n cap,y])) (.agg [.rslc z els none,y]):=by subst hn;simp only[frz,JK,if_true,Gv,Gf,GM,Gn,X6 y hy];exact Jdw ⟨wk.rslc,wk.refl _,trivial⟩
theorem refCopy (t:Tr)(ht:t.Fit):Fn Ga 8 [t.cv] t.cv:=by
 have Ag:=ht.many;have O1:=ht.items;have Ae:(iz t.items).length=t.items.length:=Jf;have I7:=Jh t.items;refine Jbk ?_ rfl rfl;refine Ki c8_ok λN=>?_
 obtain⟨R,hR⟩:∃R,R=iz t.items:=⟨_,rfl⟩;simp only[Tr.cv,Tr.row];rw[<-hR]at I7 Ae|-
 cases R with
 |nil=>
  simp only[c8,go_sem];refine Je (id:=0) (z:=2) (els:=[[.rslc 5 (ndz t.nodes) none,.rslc 1 [] none]]) rfl rfl ?_;simp only[go_sem,JK,KC,frz,Kn];refine Je (id:=2) (z:=1) (els:=[]) rfl rfl ?_;simp only[go_sem,JK,KC,frz,Kn];refine YJ ?_;simp only[go_sem,GV,Ho];refine Js (I:=λi:Nat=>i<=t.nodes.length) (inv:=λi=>gp [(1,.rptr [.rslc 5 (ndz t.nodes) none,.rslc 1 [] none]),(0,.ptr 1 0 0),(0,.ptr 2 0 0),(0,.int .i64 (i:Int))] 24) (hp:=λi=>[.dead,.arr 2 [[.nils,.nils]],.arr 2 [[Qr 3 (ndz (t.nodes.take i)),.rslc 1 [] none]],Xm 5 (ndz (t.nodes.take i))]) (μ:=λi=>t.nodes.length-i) 0 [0,1,3,4] om rfl ?_ ?_ ?_
  ·simp[forget,JG,ren,Jl,gp]
  ·rfl
  ·intro i hi;by_cases Ab:i<t.nodes.length
   ·have d1:=dtT i t.nodes.length;have hg:=QE Ab;have hx:=ht.nodes _ (Gg Ab);rw[<-rowg Ab]at hx;have AJ:ndz (t.nodes.take (i+1))=ndz (t.nodes.take i)++[(t.nodes.getD i default).cv]:=by rw[Jbx (d:=default) Ab];simp[ndz]
    have Az:=Xh (t.nodes.take (i+1));have MB:(ndz (t.nodes.take i)).length=i:=by rw[Ja,Gz];omega
    generalize t.nodes.getD i default=x at hg hx AJ;generalize ndz (t.nodes.take i)=Z at AJ MB|-;have hM:=refMoved x (by have:=hx.kidn;omega) 0 (λk hk=>by rw[H5];exact hx.kids k hk);have au:mvN 0 x=x:=by obtain⟨k,te,n,ks,p⟩:=x;simp[mvN]
    rw[au]at hM;simp only[go_sem,Ja,d1];refine JaD [false,true,false,false,false,false,false,false,false,true,false,true] Jm vM ?_;simp only[go_sem,Ja,hg];refine⟨om,by simp[Nd.cv],?_⟩;refine vh_f hM ?_;simp only[go_sem];refine vh_row [x.cv] rfl rfl rfl rfl ?_;simp only[go_sem,JA,splice,Gr,Gs];refine⟨om,Jg,i+1,[0,1,2,4],om,om,rfl,?_,?_⟩
    ·rw[AJ]at Az;have hc:=Jc (ρ:=[0,1,2,4]) Az;rw[AJ,KM,KN];simp only[KE,Gh,Gq,go_sem,Jo,hc];rfl
    ·simp[forget,JG,ren,Jl]
   ·have CO:i=t.nodes.length:=om;subst CO;have d1:=dfF t.nodes.length t.nodes.length;rw[Gn];have RL:=Xh t.nodes
    cases hN:ndz t.nodes with
    |nil=>
     have DT:(([]:LQ).length:Int)=t.nodes.length:=by rw[<-hN,Ja]
     simp only[Gs]at DT;simp only[go_sem,Ya,JaF,Gs,DT,d1,splice];exact .inl (Jdw ⟨wk.nils,wk.refl _,trivial⟩)
    |cons f fs=>
     have DT:((fs.length+1:Nat):Int)=t.nodes.length:=by rw[<-Gr,<-hN,Ja]
     rw[Jae sM,YM sM];simp only[go_sem,Gr,DT,d1,splice];rw[hN]at RL;exact .inr ⟨3,5,f::fs,rfl,RL,row_aggT rfl rfl⟩
 |cons e es=>
  have Fq:es.length+1<=40:=by have:=Ae;simp only[Gr]at this;omega
  simp only[c8,go_sem,JA,Gr];refine anO ?_;refine Je (id:=3) (z:=1) (els:=e::es) rfl I7 ?_;simp only[go_sem,JK,KC,frz,Kn,Gr,GM,Gy (l:=e::es) (i:=es.length+1) (Gf _)];refine Je (id:=0) (z:=2) (els:=[[.rslc 5 (ndz t.nodes) none,.rslc 1 (e::es) none]]) rfl rfl ?_;simp only[go_sem,JK,KC,frz,Kn];refine YJ ?_;simp only[go_sem,GV,Ho];refine Js (I:=λi:Nat=>i<=t.nodes.length) (inv:=λi=>gp [(1,.rptr [.rslc 5 (ndz t.nodes) none,.rslc 1 (e::es) none]),(0,.ptr 1 0 0),(0,.ptr 2 0 0),(0,.int .i64 (i:Int))] 24) (hp:=λi=>[.dead,.arr 2 [[.nils,.nils]],.arr 2 [[Qr 3 (ndz (t.nodes.take i)),.rslc 1 (e::es) none]],Xm 5 (ndz (t.nodes.take i))]) (μ:=λi=>t.nodes.length-i) 0 [0,1,4,5] om rfl ?_ ?_ ?_
  ·simp[forget,JG,ren,Jl,gp]
  ·rfl
  ·intro i hi;by_cases Ab:i<t.nodes.length
   ·have d1:=dtT i t.nodes.length;have hg:=QE Ab;have hx:=ht.nodes _ (Gg Ab);rw[<-rowg Ab]at hx;have AJ:ndz (t.nodes.take (i+1))=ndz (t.nodes.take i)++[(t.nodes.getD i default).cv]:=by rw[Jbx (d:=default) Ab];simp[ndz]
    have Az:=Xh (t.nodes.take (i+1));have MB:(ndz (t.nodes.take i)).length=i:=by rw[Ja,Gz];omega
    generalize t.nodes.getD i default=x at hg hx AJ;generalize ndz (t.nodes.take i)=Z at AJ MB|-;have hM:=refMoved x (by have:=hx.kidn;omega) 0 (λk hk=>by rw[H5];exact hx.kids k hk);have au:mvN 0 x=x:=by obtain⟨k,te,n,ks,p⟩:=x;simp[mvN]
    rw[au]at hM;simp only[go_sem,Ja,d1];refine JaD [false,true,false,false,false,false,false,false,false,true,false,true] Jm vM ?_;simp only[go_sem,Ja,hg];refine⟨om,by simp[Nd.cv],?_⟩;refine vh_f hM ?_;simp only[go_sem];refine vh_row [x.cv] rfl rfl rfl rfl ?_;simp only[go_sem,JA,splice,Gr,Gs];refine⟨om,Jg,i+1,[0,1,2,4],om,om,rfl,?_,?_⟩
    ·rw[AJ]at Az;have hc:=Jc (ρ:=[0,1,2,4]) Az;rw[AJ,KM,KN];simp only[KE,Gh,Gq,go_sem,Jo,hc];rfl
    ·simp[forget,JG,ren,Jl]
   ·have CO:i=t.nodes.length:=om;subst CO;have d1:=dfF t.nodes.length t.nodes.length;rw[Gn];have RL:=Xh t.nodes
    cases hN:ndz t.nodes with
    |nil=>
     have DT:(([]:LQ).length:Int)=t.nodes.length:=by rw[<-hN,Ja]
     simp only[Gs]at DT;simp only[go_sem,Ya,JaF,Gs,DT,d1,splice];exact .inl (Jdw ⟨wk.nils,wk.refl _,trivial⟩)
    |cons f fs=>
     have DT:((fs.length+1:Nat):Int)=t.nodes.length:=by rw[<-Gr,<-hN,Ja]
     rw[Jae sM,YM sM];simp only[go_sem,Gr,DT,d1,splice];rw[hN]at RL;exact .inr ⟨3,5,f::fs,rfl,RL,row_aggT rfl rfl⟩
end Go.Cm
end
namespace Go.Cm
structure Nd.Ty (x:Nd):Prop where
 k:x.k<256
 n:InR .i64 x.n
 kids:∀i∈x.kids,InR .i64 i
 pl:InR .i64 x.pl
structure Tr.Ty (t:Tr):Prop where
 nodes:∀x∈t.nodes,x.Ty
 items:∀i∈t.items,InR .i64 i
theorem Tr.Ty.fit {t:Tr}(h:t.Ty)(hv:vastT t=false):t.Fit:=by unfold vastT vastH at hv;simp only[GD,G9,decide_eq_false_iff_not,Li]at hv;obtain⟨⟨⟨_,h2⟩,h3⟩,h4⟩:=hv;refine⟨om,om,λx hx=>?_,h.items⟩;have hn:=h4 x hx;unfold Jc5 at hn;simp only[HV,GD,decide_eq_false_iff_not]at hn;have ty:=h.nodes x hx;exact⟨ty.k,om,ty.n,om,ty.kids,ty.pl⟩
end Go.Cm
section
set_option maxRecDepth 100000
set_option maxHeartbeats 4000000
open Go.Proofs
namespace Go.Cm
variable {o:Lx}
theorem indexI (l:Lx)(x:Int)(hl:l.length<=100000):Fn Ga 135 [.rslc 1 (iz l) none,.int .i64 x] (.int .i64 (XG (λy=>x == y) l 0)):=by
 have Ae:(iz l).length=l.length:=Jf;refine Jb c135_ok rfl rfl λN=>?_
 simp only[c135,go_sem,Ae];refine JL (I:=λi:Nat=>i<=l.length/\XG (λy=>x == y) l 0=XG (λy=>x == y) (l.drop i) i) (inv:=λi=>gp [(0,.rslc 1 (iz l) none),(0,.int .i64 x),(5,.int .i64 (l.length:Int)),(0,.int .i64 (i:Int))] 10) (hp:=λ_=>[]) (μ:=λi=>l.length-i) 0 ⟨om,rfl⟩ ?_ rfl ?_
 ·simp[forget,gp]
 ·rintro i ⟨hi,Aa⟩;by_cases Ab:i<l.length
  ·have d1:=dtT i l.length;have Ar:=JF Ab;have BL:l[i]? = some (l.getD i 0):=by rw[Gc,Gb Ab];rfl
   rw[Xd BL]at Aa;simp only[go_sem,Ae,d1,Ar];generalize l.getD i 0=y at Aa|-;refine anO ?_
   cases he:(x == y) with
   |true=>rw[he,if_pos rfl]at Aa;simp only[go_sem,Aa]
   |false=>rw[he]at Aa;simp only[go_sem];refine⟨Jg,i+1,⟨om,by simpa using Aa⟩,om,?_⟩;simp[forget]
  ·have d1:=dfF i l.length;rw[Gw om]at Aa;simp only[go_sem,d1,Aa,XG]
theorem containsI (l:Lx)(x:Int)(hl:l.length<=100000):Fn Ga 85 [.rslc 1 (iz l) none,.int .i64 x] (.bool (l.contains x)):=by
 refine Jb c85_ok rfl rfl λN=>?_
 simp only[c85,go_sem];refine JU (indexI l x hl) ?_;have e:decide (0<=XG (λy=>x == y) l 0)=l.contains x:=by rw[Jaa,List.contains_eq_any_beq]
 simp only[go_sem,e]
theorem fixA_skip {α:Type}{q:α->Bool}{l:List α}:∀(n:Nat),n<=l.length->(∀j (h:j<l.length),j<n->q l[j]=false)->XG q l 0=XG q (l.drop n) n
 |0,_,_=>rfl
 |n+1,h,hq=>by rw[fixA_skip n om λj hj hn=>hq j hj om,Xd (Gb (by omega:n<l.length)),hq n om om];simp
theorem refParent (t:Tr)(ht:t.Fit)(g:GoodT t o)(n:Nat)(hn:n<t.nodes.length):Fn Ga 99 [t.cv,.int .i64 n] (.int .i64 (XG (λx:Nd=>x.kids.contains (n:Int)) t.nodes 0)):=by
 have Ag:=ht.many;refine Jb c99_ok rfl rfl λN=>?_
 simp only[c99,go_sem,Tr.cv,Tr.row];refine⟨Jg,?_⟩;refine Je (id:=0) (z:=2) (els:=[t.row]) rfl rfl ?_;simp only[go_sem,JK,KC,frz,Kn,Tr.row];have Rl:XG (λx:Nd=>x.kids.contains (n:Int)) t.nodes 0=XG (λx:Nd=>x.kids.contains (n:Int)) (t.nodes.drop (n+1)) (n+1):=by
  refine fixA_skip (n+1) om λj hj Od=>?_
  rw[<-HV,List.contains_iff_mem];intro hm;have:=g.kid hj (k:=n) (by rw[rowg hj];exact hm);omega
 refine JL (I:=λi:Nat=>i<=t.nodes.length/\XG (λx:Nd=>x.kids.contains (n:Int)) t.nodes 0=XG (λx:Nd=>x.kids.contains (n:Int)) (t.nodes.drop i) i) (inv:=λi=>gp [(1,.int .i64 (n:Int)),(0,.rptr t.row),(2,.int .i64 (i:Int))] 33) (hp:=λ_=>[.dead]) (μ:=λi=>t.nodes.length-i) (n+1) ⟨om,Rl⟩ ?_ rfl ?_
 ·simp[forget,gp,Tr.row]
 ·rintro i ⟨hi,Aa⟩;by_cases Ab:i<t.nodes.length
  ·have d1:=dtT i t.nodes.length;have hg:=QE Ab;have hx:=ht.nodes _ (Gg Ab);rw[<-rowg Ab]at hx;have BL:t.nodes[i]? = some (t.nodes.getD i default):=by rw[Gc,Gb Ab];rfl
   rw[Xd BL]at Aa;generalize t.nodes.getD i default=x at hg Aa hx;have Bj:=hx.kidn;have Br:(iz x.kids).length=x.kids.length:=Jf;simp only[go_sem,Tr.row,Ja,d1];refine JL (I:=λj:Nat=>j<=x.kids.length/\x.kids.contains (n:Int)=(x.kids.drop j).contains (n:Int)) (inv:=λj=>gp [(1,.int .i64 (n:Int)),(0,.rptr t.row),(2,.int .i64 (i:Int)),(0,.int .i64 (j:Int))] 32) (hp:=λ_=>[.dead]) (μ:=λj=>x.kids.length-j) 0 ⟨om,rfl⟩ ?_ rfl ?_
   ·simp[forget,gp,Tr.row]
   ·rintro j ⟨hj,E8⟩;by_cases A8:j<x.kids.length
    ·have d2:=dtT j x.kids.length;have Ar:=JF A8;rw[Gp A8,Le,show x.kids[j]=x.kids.getD j 0 by rw[Gc,Gb A8];rfl]at E8;generalize x.kids.getD j 0=k at Ar E8;have Iw:(k == (n:Int))=((n:Int) == k):=by rw[Gj,beq_iff_eq,beq_iff_eq];exact eq_comm
     cases he:(k == (n:Int)) with
     |true=>rw[<-Iw,he,GR]at E8;rw[E8,if_pos rfl]at Aa;simp only[go_sem,Tr.row,Ja,hg,Nd.cv,Br,d2,Ar,he,Aa];omega
     |false=>rw[<-Iw,he,HZ]at E8;simp only[go_sem,Tr.row,Ja,hg,Nd.cv,Br,d2,Ar,he];refine⟨om,om,om,Jg,j+1,⟨om,E8⟩,om,?_⟩;simp[forget]
    ·have d2:=dfF j x.kids.length;rw[Gw om]at E8;rw[E8]at Aa;simp only[go_sem,Tr.row,Ja,hg,Nd.cv,Br,d2];refine⟨om,Jg,i+1,⟨om,by simpa using Aa⟩,om,?_⟩;simp[forget]
  ·have d1:=dfF i t.nodes.length;rw[Gw om]at Aa;simp only[go_sem,Tr.row,Ja,d1,Aa,XG]
theorem ord_take {t:Tr}(g:GoodT t o):JB ((JO t.nodes).take t.nodes.length) []=some o:=by rw[Gy (by rw[QF];exact Gf _)];exact g.ord.h
theorem refIsBelow (t:Tr)(ht:t.Fit)(g:GoodT t o)(a:Int)(i:Nat)(hi:i<t.nodes.length):Fn Ga 151 [t.cv,.int .i64 a,.int .i64 i] (.bool (decide (a<=i) && decide (fs o i<=a))):=by
 refine Jb c151_ok rfl rfl λN=>?_
 by_cases h:a<=(i:Int)
 ·have d1:(a<=(i:Int))=True:=eq_true h;simp only[c151,go_sem,Tr.cv,Tr.row,d1];refine Ka (gok rfl) (Jhq t (ord_take g) (Gf _) i hi) ?_;simp only[go_sem]
 ·have d1:(a<=(i:Int))=False:=eq_false h;simp only[c151,go_sem,Tr.cv,Tr.row,d1]
def kid (x:Nd)(i:Nat):Int:=x.kids.getD i 0
end Go.Cm
end
namespace Go.Cm
variable {P:Program}{f n z:Nat}{e els:LQ}
def flat (o:CObj):Prop:=o=.dead\/∃z els,o=.arr z els/\Jq els=true
section
variable{E:Env}{H:Lv}
theorem Jdu {α:Type}{a b:List α}{k:Nat}{x:α}(h:(a++b)[k]? = some x):(k<a.length/\a[k]? = some x)\/∃j,k=a.length+j/\b[j]? = some x:=by
 rcases G7 k a.length with Ab|BL
 ·rw[GZ Ab]at h;exact .inl ⟨Ab,h⟩
 ·rw[He BL]at h;exact .inr ⟨k-a.length,om,h⟩
theorem app_get2 {α:Type}{a b:List α}{j:Nat}:(a++b)[a.length+j]? = b[j]?:=by rw[He om];congr 1;omega
theorem CallsC.frameG{args:Lu}{G:Lv}{mk:Nat->CV}(h:CallsC P Env.none f args [] λv H'=>v=mk 0/\H'=G)(ha:Jk args=true)(hG:∀o∈G,flat o)
  (F8:∀(n:Nat) (own own':LC) imm r,(∀(k:Nat) x,own[k]? = some x->own'[n+k]? = some x)->rel own imm (mk 0) r->rel own' imm (mk n) r):CallsC P E f args H λv H'=>v=mk H.length/\H'=H++G:=by
 intro m w vs hs hv;refine(h _ w vs hs.nothing (K5 _ _ ha hv)).mono ?_;rintro e w' ⟨r,m',v,H',rfl,Af,AB,hrel,rfl,rfl⟩;obtain⟨h1,h2⟩:=hs.back Af AB;have Cc:∀B,¬owned { own:=[],imm:=m.imm,ext:=λ_=>False } [] B:=by
  rintro B (h|⟨k,o,x,hk,_⟩)
  ·exact h
  ·simp at hk
 have Ad:m.own.length=H.length:=hs.len;have IK:∀(k:Nat) o x,H[k]? = some o->o.alive=true->m.own[k]? = some x->x.B<w.heap.size:=λk o x hk Am hx=>Yq hs hk Am hx
 have FC:∀(k:Nat) o x,H'[k]? = some o->o.alive=true->m'.own[k]? = some x->w.heap.size<=x.B:=λk o x hk Am hx=>(Af.newOwn x.B (.inr ⟨k,o,x,hk,Am,hx,rfl⟩)).resolve_left (Cc _)
 have two:∀(k:Nat) o x,(H++H')[k]? = some o->(m.own++m'.own)[k]? = some x->(k<H.length/\H[k]? = some o/\m.own[k]? = some x)\/∃j,k=H.length+j/\H'[j]? = some o/\m'.own[j]? = some x:=by
  intro k o x hk hx;rcases Jdu hk with ⟨Ab,Aq⟩|⟨j,rfl,Aq⟩
  ·rw[GZ om]at hx;exact .inl ⟨Ab,Aq,hx⟩
  ·rw[<-Ad,app_get2]at hx;exact .inr ⟨j,rfl,Aq,hx⟩
 have Be:=KZ.append m.own m'.own;refine⟨r,{ m with own:=m.own++m'.own,imm:=m'.imm },mk H.length,H++H',rfl,?_,?_,?_,rfl,rfl⟩
 ·have hE:=h2 H.length;refine⟨hE.size,hE.frame,hE.imm,?_,hE.newImm,λk x _ hx=>Be _ _ hx,λh=>by simp;omega,hE.same⟩;rintro B (hB|⟨k,o,x,hk,Am,hx,rfl⟩)
  ·exact .inl (.inl hB)
  ·rcases two k o x hk hx with ⟨_,hk,hx⟩|⟨j,_,hk,hx⟩
   ·exact .inl (.inr ⟨k,o,x,hk,Am,hx,rfl⟩)
   ·exact .inr (FC j o x hk Am hx)
 ·refine⟨by simp[hs.len,AB.len],λk o x hk hx=>?_,h1.imm,h1.one,λk k' o o' x x' hk AC ha AX hx Aw hB=>?_,λk o x hk Am hx=>?_,λk s b hk=>?_,λk o x hk Am hx=>?_,h1.extlt,h1.gl⟩
  ·rcases two k o x hk hx with ⟨_,hk,hx⟩|⟨j,_,hk,hx⟩
   ·exact KO Be (KJ.refl _) (λ_=>rfl) (h1.obj k o x hk hx)
   ·have ho:=AB.obj j o x hk hx;rcases hG o (Gx hk) with rfl|⟨z,els,rfl,hc⟩
    ·trivial
    ·obtain⟨hz,c,elem,g1,g2,g3,g4,g5⟩:=ho;exact⟨hz,c,elem,g1,g2,g3,λj e he=>⟨(g4 j e he).1,λt c CR=>let ⟨r,q1,q2⟩:=(g4 j e he).2 t c CR;⟨r,q1,Qt c r (YX (Yy hc _ _ he) _ _ CR) q2⟩⟩,g5⟩
  ·rcases two k o x hk hx with ⟨_,hk,hx⟩|⟨j,rfl,hk,hx⟩ <;> rcases two k' o' x' AC Aw with ⟨_,AC,Aw⟩|⟨j',rfl,AC,Aw⟩
   ·exact h1.sep k k' o o' x x' hk AC ha AX hx Aw hB
   ·have a1:=IK k o x hk ha hx;have a2:=FC j' o' x' AC AX Aw;omega
   ·have a1:=IK k' o' x' AC AX Aw;have a2:=FC j o x hk ha hx;omega
   ·rw[AB.sep j j' o o' x x' hk AC ha AX hx Aw hB]
  ·rcases two k o x hk hx with ⟨_,hk,hx⟩|⟨j,rfl,hk,hx⟩
   ·exact h1.ro k o x hk Am hx
   ·exact AB.ro j o x hk Am hx
  ·rcases Jdu hk with ⟨_,Aq⟩|⟨j,rfl,Aq⟩
   ·exact h1.ext k s b Aq
   ·rcases hG _ (Gx Aq) with h|⟨z,els,h,_⟩ <;> cases h
  ·rcases two k o x hk hx with ⟨_,hk,hx⟩|⟨j,rfl,hk,hx⟩
   ·exact h1.extsep k o x hk Am hx
   ·intro hB;have a1:=FC j o x hk Am hx;have a2:=hs.extlt x.B hB;omega
 ·exact F8 H.length m'.own (m.own++m'.own) m'.imm r (λk x hk=>by rw[<-Ad,app_get2];exact hk) hrel
theorem JJ{id:Nat}:∀{els:LQ},Jq els=true->els.map (JK id z e)=els
 |[],_=>rfl
 |x::xs,h=>by simp only[Jq,Gi]at h;rw[Gh,QP _ h.1,JJ h.2]
theorem Fn.args{args args':Lu}{v:CV}(h:Fn P f args v)(hw:wks args' args):Fn P f args' v:=λE H m w vs hs hv=>h E H m w vs hs (JaA hw hv)
theorem rowV_shift(i n:Nat){own own':LC}{imm:Nat->Nat->LG}{r:Value}(ho:∀(k:Nat) x,own[k]? = some x->own'[n+k]? = some x)(h:rel own imm (Qr i els) r):rel own' imm (Qr (n+i) els) r:=by
 cases els with
 |nil=>exact h
 |cons e l=>simp only[Qr,rel]at h|-;obtain⟨x,a,c,hx,g⟩:=h;exact⟨x,a,c,ho _ _ hx,g⟩
theorem rowO_flat(h:Jq els=true):flat (Xm z els):=by
 cases els with
 |nil=>exact .inl rfl
 |cons e l=>exact .inr ⟨_,_,rfl,h⟩
theorem rowV_one {id:Nat}:(Qr id els).oneCell=true:=by cases els <;> rfl
attribute [go_sem ↓] rowV_one
theorem JcJ{id j:Nat}(h:j≠id):frz id z e (Qr j els)=Qr j els:=by
 cases els with
 |nil=>rfl
 |cons x l=>simp only[Qr,frz];rw[if_neg h]
theorem Jbj{id y:Nat}(h:Jq els=true):Kn id z e (Xm y els)=Xm y els:=by
 cases els with
 |nil=>rfl
 |cons x l=>simp only[Xm,Kn];rw[JJ h]
inductive Frzs (v0:CV):CV->Lv->Prop
 |done {v:CV} {H:Lv}:wk v v0->Frzs v0 v H
 |step {v:CV} {H:Lv} (id z:Nat) (els:LQ):H[id]? = some (.arr z els)->Jq els=true->Frzs v0 (frz id z els v) (KC id z els H)->Frzs v0 v H
theorem Jav{args:Lu}{v0:CV}(h:CallsC P Env.none f args [] λv H'=>Frzs v0 v H')(ha:Jk args=true)(hv:v0.closed=true):Fn P f args v0:=by
 refine JhQ ?_ ha hv;intro m w vs hs BI;refine(h m w vs hs BI).mono ?_;rintro e w' ⟨r,m',v,H',h1,h2,h3,h4,g⟩;subst h1
 induction g generalizing m' with
 |done hw=>exact⟨r,m',v0,_,rfl,h2,h3,hw _ _ _ h4,rfl⟩
 |step id z els g1 g2 _ ih=>obtain⟨imm',AB,he,hf⟩:=Sim.freeze (n0:=([]:Lv).length) h3 g1 g2;exact ih _ (h2.trans he) AB (hf _ _ h4)
def JdV (P:Program)(f:Nat)(args:Lu)(z:Nat)(els:LQ):Prop:=∀(E:Env) (H:Lv),CallsC P E f args H λv H'=>v=Qr H.length els/\H'=H++[Xm z els]
theorem Jef{args:Lu}(h:CallsC P Env.none f args [] λv H'=>∃id,v=Qr id els/\H'[id]? = some (Xm z els))(ha:Jk args=true)(hc:Jq els=true):JdV P f args z els:=λE H=>by
 refine CallsC.frameG (mk:=λn=>Qr n els) (G:=[Xm z els]) (h.ren λv H' ⟨id,hv,hH⟩=>⟨[id],?_,?_,?_⟩) ha (λo ho=>by simp only[GL]at ho;rw[ho];exact rowO_flat hc) λn own own' imm r ho h=>rowV_shift 0 n ho h
 ·have:=(Gl.1 hH).1;simp[Jde,this]
 ·rw[hv];exact QK (by simp[ren,Jl])
 ·simp only[KE,Gh,Gq,Gc,hH,GX]
  cases els with
  |nil=>rfl
  |cons e l=>have:=Jc (ρ:=[id]) hc;simp only[Xm,Jo,this]
theorem JdV.fn{args:Lu}(h:JdV P f args z els)(ha:Jk args=true)(hc:Jq els=true):Fn P f args (.rslc z els none):=Jgt ((h Env.none []).mono λv H' ⟨h1,h2⟩=>⟨0,h1,by rw[h2];rfl⟩) ha hc
end
section
variable{E:Env}{n0:Nat}{N:Fr}{Q:Exit->Lu->Lv->Prop}{H:Lv}{T:Lu}{k:LM}{l:LD}{es:List LB}
theorem JfQ {d:Option Nat}{g:Option (Nat×Bool)}{xa:LP}{l:LD}(hg:GOk T g)(Ah:JdV P f (xa.map (Kg T)) z els)(h:KD P E n0 N Q (.ops l::k) (put T d (Qr H.length els)) (H++[Xm z els])):Ok P E n0 N Q (.ops (⟨d,.call f xa,g⟩::l)::k) T H:=Kt hg (Ah E H) λv H' ⟨h1,h2⟩=>by rw[h1,h2];exact h
def JfH (P:Program)(E:Env)(n0:Nat)(N:Fr)(Q:Exit->Lu->Lv->Prop)(k:LM)(l:LD)(es:List LB)(T:Lu)(H:Lv):Prop:=∀is,Sched l.length es (λ_=>false) is->Ok P E n0 N Q (.ops (is.map (Q6 l))::k) T H
theorem JgP (hm:P.follows .mixedOrders=true)(h:JfH P E n0 N Q k l es T H):Ok P E n0 N Q (.code (.dreg l es)::k) T H:=ok_draw hm h
theorem JcQ (i j:Nat)(hb:(!(i == j) && decide (i<es.length) && decide (j<es.length))=true)(h1:JfH P E n0 N Q k l (Jaz es j i) T H)(h2:JfH P E n0 N Q k l (Jaz es i j) T H):JfH P E n0 N Q k l es T H:=by
 intro is hs;simp only[Gi,Ha,beq_eq_false_iff_ne,decide_eq_true_eq]at hb;rcases JfZ hb.1.1 hb.1.2 hb.2 hs rfl rfl with h|h
 ·exact h1 is h
 ·exact h2 is h
theorem Yj (bs:LK)(T':Lu)(H':Lv)(AP:(l.length == bs.length && (JaQ l.length es (clo es) && Qf l (clo es) (bs.map QY)))=true)(AA:Ok P E n0 N Q k T' H')(h:vdk P E (leads P E n0 N Q T' H') l bs T H):JfH P E n0 N Q k l es T H:=λ_ hs=>Jez AP h AA hs
def pm (p:LB)(a:Nat):Nat:=p.getD a a
theorem pm_out {p:LB}{a:Nat}(h:p.length<=a):pm p a=a:=by unfold pm;rw[Gc,List.getElem?_eq_none h];rfl
def JdH (n:Nat)(p q:LB):Bool:=p.length == n && q.length == n && (Ht n).all λa=>decide (pm p a<n) && decide (pm q a<n) && pm q (pm p a) == a && pm p (pm q a) == a
theorem sched_perm{p q:LB}(hb:JdH n p q=true){es2:List LB}(he:∀a,a<n->es2.getD a []=(es.getD (pm p a) []).map (pm q)){S:Nat->Bool}{is:LB}(h:Sched n es S is):Sched n es2 (λa=>S (pm p a)) (is.map (pm q)):=by
 simp only[JdH,Gi,beq_iff_eq,GA,Ls,decide_eq_true_eq]at hb;obtain⟨⟨MB,Rx⟩,Aj⟩:=hb;have IG:∀a,pm p (pm q a)=a:=λa=>by
  rcases G7 a n with h|h
  ·exact(Aj a h).2
  ·rw[pm_out (p:=q) om,pm_out om]
 have gU:∀a,pm q (pm p a)=a:=λa=>by
  rcases G7 a n with h|h
  ·exact(Aj a h).1.2
  ·rw[pm_out (p:=p) om,pm_out om]
 induction h with
 |nil hn=>
  refine .nil λa ha hS=>?_
  obtain⟨e,h1,h2⟩:=hn _ (Aj a ha).1.1.1 hS;exact⟨pm q e,by rw[he a ha];exact List.mem_map_of_mem h1,by rw[IG];exact h2⟩
 |cons ha hS hr _ ih=>
  rename_i S a is _;refine .cons (Aj a ha).1.1.2 (by rw[IG];exact hS) (λe hm=>?_) ?_
  ·rw[he _ (Aj a ha).1.1.2,IG]at hm;obtain⟨e',h1,rfl⟩:=vv.1 hm;rw[IG];exact hr e' h1
  ·have e:(λb=>S (pm p b) || b == pm q a)=λb=>S (pm p b) || pm p b == a:=by
    funext b
    congr 1
    by_cases h:b=pm q a
    ·subst h;rw[IG];simp
    ·have:pm p b≠a:=λhh=>h (by rw[<-hh,gU])
     rw[beq_false_of_ne h,beq_false_of_ne this]
   rw[e];exact ih
theorem sched_mem{S:Nat->Bool}{is:LB}(h:Sched n es S is):∀a∈is,a<n:=by
 induction h with
 |nil _=>intro a ha;cases ha
 |cons h _ _ _ ih=>intro a ha;exact(GI.1 ha).elim (λh'=>by subst h';exact h) (ih a)
def prl (p:LB)(l:LD):LD:=p.map λa=>Q6 l a
def pre (p q:LB)(es:List LB):List LB:=p.map λa=>(es.getD a []).map (pm q)
theorem JcP (p q:LB)(hb:JdH l.length p q=true)(h:JfH P E n0 N Q k (prl p l) (pre p q es) T H):JfH P E n0 N Q k l es T H:=by
 intro is hs;have Ca:=hb;simp only[JdH,Gi,beq_iff_eq,GA,Ls,decide_eq_true_eq]at Ca;obtain⟨⟨MB,Rx⟩,Aj⟩:=Ca;have Ad:(prl p l).length=l.length:=by rw[prl,Lp];exact MB
 have IC:=sched_perm hb (es2:=pre p q es) (λa ha=>by unfold pre pm;rw[Gc,GH,Gb om];simp[Gc,Gb (show a<p.length by omega)]) hs;rw[<-Ad]at IC;have:=h _ IC;have e:(is.map (pm q)).map (Q6 (prl p l))=is.map (Q6 l):=by
  rw[vw];refine List.map_congr_left λa ha=>?_
  have Am:=sched_mem hs a ha;have h1:=(Aj a Am).1.1.2;have h2:=(Aj a Am).2;simp only[Function.comp];unfold prl Q6;rw[Gc,GH,Gb om];simp only[vV,GX];have e2:p[pm q a]' om=a:=by unfold pm at h2|-;rw[Gc,Gb (by simpa [pm]using (by omega:pm q a<p.length))]at h2;exact h2
  rw[e2]
 rw[e]at this;exact this
end
end Go.Cm
section
set_option maxRecDepth 100000
set_option maxHeartbeats 4000000
open Go.Proofs
namespace Go.Cm
theorem rowN {l:LF}{i:Nat}(h:i<l.length):l.getD i default=l[i]:=by rw[Gc,Gb h];rfl
theorem GoodT.item {t:Tr}{o:Lx}(g:GoodT t o){i:Nat}(hi:i<t.items.length):∃L F:Nat,t.items.getD i 0=(L:Int)/\fs o L=(F:Int)/\F<=L/\L<t.nodes.length/\o.length=t.nodes.length/\o.getD L 0=(F:Int):=by
 have Bd:o.length=t.nodes.length:=by rw[g.ord.len,QF]
 have hm:t.items.getD i 0∈t.items:=by rw[Gc,Gb hi];exact Gg hi
 obtain⟨_,h2,h3,h4⟩:=QT g.ord.ok Bd _ _ _ g.its _ hm;obtain⟨h5,h6⟩:=JhM g.ord.ok h2 om;generalize t.items.getD i 0=L at *;obtain⟨L,rfl⟩:∃n:Nat,L=(n:Int):=⟨L.toNat,om⟩;exact⟨L,(fs o L).toNat,rfl,om,om,om,Bd,by rw[show o.getD L 0=fs o (L:Int) by simp[fs]];omega⟩
theorem GoodT.itr {t:Tr}{o:Lx}(g:GoodT t o){i:Int}(hi:i∈t.items):0<=i/\i<t.nodes.length:=by
 have Bd:o.length=t.nodes.length:=by rw[g.ord.len,QF]
 obtain⟨_,h2,h3,h4⟩:=QT g.ord.ok Bd _ _ _ g.its _ hi;exact⟨h2,h4⟩
end Go.Cm
end
namespace Go.Cm
theorem chain_app {o:Lx}{m:Nat}:∀(x y:Lx) (a e:Int),chain o m a (x++y) e↔∃c,chain o m a x c/\chain o m c y e
 |[],y,a,e=>by simp[chain]
 |i::x,y,a,e=>by
  simp only[GV,chain,chain_app x y]
  constructor
  ·rintro⟨h1,c,h2,h3⟩;exact⟨c,⟨h1,h2⟩,h3⟩
  ·rintro⟨c,⟨h1,h2⟩,h3⟩;exact⟨h1,c,h2,h3⟩
theorem fixA_at {α:Type}{q:α->Bool}:∀(l:List α) (i:Nat),XG q l i = -1/\(∀x∈l,q x=false)\/∃j x,XG q l i=((i+j:Nat):Int)/\l[j]? = some x/\q x=true:=by
 intro l
 induction l with
 |nil=>intro i;exact .inl ⟨rfl,sM⟩
 |cons y l ih=>
  intro i;simp only[XG]
  cases hq:q y with
  |true=>exact .inr ⟨0,y,sM,rfl,hq⟩
  |false=>
   rcases ih (i+1) with ⟨h1,h2⟩|⟨j,x,h1,h2,h3⟩
   ·exact .inl ⟨by simpa using h1,λx hx=>by
     rcases GI.1 hx with rfl|hx
     ·exact hq
     ·exact h2 x hx⟩
   ·exact .inr ⟨j+1,x,by rw[show i+(j+1)=i+1+j by omega];simpa using h1,by simpa using h2,h3⟩
section
variable {t:Tr}{o:Lx}(g:GoodT t o)
def endI (t:Tr):Nat->Nat
 |0=>0
 |i+1=>(t.items.getD i 0).toNat+1
include g
theorem Jbc:∀i,i<=t.items.length->chain o t.nodes.length 0 (t.items.take i) (endI t i)/\chain o t.nodes.length (endI t i) (t.items.drop i) t.nodes.length:=by
 intro i hi;have h:=g.its;rw[<-GU i t.items,chain_app]at h;obtain⟨c,h1,h2⟩:=h;have hc:c=(endI t i:Int):=by
  cases i with
  |zero=>simp[chain]at h1;simp[endI,h1]
  |succ i=>rw[Jbx (d:=0) om,JbO]at h1;simp only[endI];omega
 rw[hc]at h1 h2;exact⟨h1,h2⟩
theorem item_at {i:Nat}(hi:i<t.items.length):∃L:Nat,t.items.getD i 0=(L:Int)/\fs o L=(endI t i:Int)/\endI t i<=L/\L<t.nodes.length/\endI t (i+1)=L+1:=by
 obtain⟨L,F,hL,jI,kP,Bb,Bd,gY⟩:=g.item hi;have h:=(Jbc g i om).2;have e0:t.items.drop i=t.items.getD i 0::t.items.drop (i+1):=by rw[Gp hi,Gc,Gb hi];rfl
 rw[e0,hL]at h;simp only[chain,GK]at h;have:(F:Int)=endI t i:=by rw[<-gY];exact h.1.2.2
 refine⟨L,hL,by rw[jI];exact this,om,Bb,?_⟩;simp only[endI,hL,GK]
theorem par_in:∀(N n:Nat),N<t.nodes.length->fs o N<=n->n<N->∃m:Nat,n<m/\m<=N/\(n:Int)∈(t.nodes.getD m default).kids:=by
 intro N
 induction N using Nat.strongRecOn with
 |_ N ih=>
  intro n hN h1 h2;have hK:=Kq hN;obtain⟨c,hc,h3,h4⟩:=XE g.ord.ok rfl _ _ _ (n:Int) (g.ord.kids hK) h1 om;have hr:=g.ord.kid_rng hK hc;by_cases he:c=n
  ·subst he;exact⟨N,h2,Gf _,hc⟩
  ·obtain⟨c,rfl⟩:∃k:Nat,c=(k:Int):=⟨c.toNat,om⟩;obtain⟨m,q1,q2,q3⟩:=ih c om n om h3 om;exact⟨m,q1,om,q3⟩
def Ky (t:Tr)(n:Nat):Int:=XG (λx:Nd=>x.kids.contains (n:Int)) t.nodes 0
theorem Xt {n:Nat}(hn:n<t.nodes.length):(Ky t n = -1/\∀m:Nat,m<t.nodes.length->(n:Int)∉(t.nodes.getD m default).kids)\/∃m:Nat,Ky t n=(m:Int)/\n<m/\m<t.nodes.length/\(n:Int)∈(t.nodes.getD m default).kids:=by
 rcases fixA_at (q:=λx:Nd=>x.kids.contains (n:Int)) t.nodes 0 with ⟨h1,h2⟩|⟨j,x,h1,h2,h3⟩
 ·refine .inl ⟨h1,λm hm hk=>?_⟩;have:=h2 (t.nodes.getD m default) (by rw[rowN hm];exact Gg hm);simp only[Lb,decide_eq_false_iff_not]at this;exact this hk
 ·have hj:=(Gl.1 h2).1;have hx:t.nodes.getD j default=x:=by rw[Gc,h2];rfl
  simp only[Lb,decide_eq_true_eq]at h3;rw[<-hx]at h3;have:=g.kid hj h3;exact .inr ⟨j,by rw[Gv]at h1;exact h1,om,hj,h3⟩
end
end Go.Cm
section
set_option maxRecDepth 100000
open Go.Proofs
namespace Go.Cm
variable {τ:Nat->Nat}{f n:Nat}{H H' H0:Lv}{P:Program}{R:CV->Lv->Prop}{d:Option Nat}{g:Option (Nat×Bool)}
mutual
def mo (τ:Nat->Nat):CV->CV
 |.slc j off len cap=>.slc (τ j) off len cap
 |.ptr j i off=>.ptr (τ j) i off
 |.map j=>.map (τ j)
 |.fn f l1 l2=>.fn f (moL τ l1) (moL τ l2)
 |.iface t c=>.iface t (mo τ c)
 |.agg l=>.agg (moL τ l)
 |.tup l=>.tup (moL τ l)
 |c=>c
def moL (τ:Nat->Nat):Lu->Lu
 |[]=>[]
 |c::cs=>mo τ c::moL τ cs
end
mutual
theorem Jge {own own':LC}{imm:Nat->Nat->LG}{τ:Nat->Nat}(ho:∀(j:Nat) x,own[j]? = some x->own'[τ j]? = some x):∀(c:CV) (v:Value),rel own imm c v->rel own' imm (mo τ c) v
 |.un,_,_=>by simp only[mo,rel]
 |.bool _,_,h=>by simp only[mo,rel]at h|-;exact h
 |.int _ _,_,h=>by simp only[mo,rel]at h|-;exact h
 |.str _,_,h=>by simp only[mo,rel]at h|-;exact h
 |.nilp,_,h=>by simp only[mo,rel]at h|-;exact h
 |.ptr j i off,v,h=>by simp only[mo,rel]at h|-;obtain⟨x,hx,e⟩:=h;exact⟨x,ho j x hx,e⟩
 |.rptr cs,v,h=>by simp only[mo,rel]at h|-;exact h
 |.nils,_,h=>by simp only[mo,rel]at h|-;exact h
 |.slc j off len cap,v,h=>by simp only[mo,rel]at h|-;obtain⟨x,a,c,hx,e⟩:=h;exact⟨x,a,c,ho j x hx,e⟩
 |.rslc z' e cap,v,h=>by simp only[mo,rel]at h|-;exact h
 |.nilm,_,h=>by simp only[mo,rel]at h|-;exact h
 |.map j,v,h=>by simp only[mo,rel]at h|-;obtain⟨x,hx,e⟩:=h;exact⟨x,ho j x hx,e⟩
 |.fn f l1 l2,_,h=>by simp only[mo,rel]at h|-;obtain⟨vs1,vs2,e,h1,h2⟩:=h;exact⟨vs1,vs2,e,Je2 ho l1 _ h1,Je2 ho l2 _ h2⟩
 |.yld _,_,h=>by simp only[mo,rel]at h|-;exact h
 |.nilf,_,h=>by simp only[mo,rel]at h|-;exact h
 |.iface _ c,_,h=>by simp only[mo,rel]at h|-;obtain⟨r,e,h1⟩:=h;exact⟨r,e,Jge ho c _ h1⟩
 |.nili,_,h=>by simp only[mo,rel]at h|-;exact h
 |.agg l,_,h=>by simp only[mo,rel]at h|-;obtain⟨vs,e,h1⟩:=h;exact⟨vs,e,Je2 ho l _ h1⟩
 |.tup l,_,h=>by simp only[mo,rel]at h|-;obtain⟨vs,e,h1⟩:=h;exact⟨vs,e,Je2 ho l _ h1⟩
theorem Je2 {own own':LC}{imm:Nat->Nat->LG}{τ:Nat->Nat}(ho:∀(j:Nat) x,own[j]? = some x->own'[τ j]? = some x):∀(l:Lu) (vs:LH),J7 own imm l vs->J7 own' imm (moL τ l) vs
 |[],vs,h=>by simp only[moL,J7]at h|-;exact h
 |c::cs,vs,h=>by simp only[moL,J7]at h|-;obtain⟨r,rs,e,h1,h2⟩:=h;exact⟨r,rs,e,Jge ho c _ h1,Je2 ho cs _ h2⟩
end
theorem Jgf:∀(l:Lu),(moL τ l).length=l.length
 |[]=>rfl
 |_::cs=>by simp[moL,Jgf cs]
theorem moL_get:∀(l:Lu) (i:Nat),(moL τ l)[i]? = (l[i]?).map (mo τ)
 |[],_=>by simp[moL]
 |c::cs,0=>by simp[moL]
 |c::cs,i+1=>by simp[moL,moL_get cs i]
def moO (τ:Nat->Nat):CObj->CObj
 |.arr z e=>.arr z (e.map (moL τ))
 |.map kvs=>.map (kvs.map λp=>(mo τ p.1,mo τ p.2))
 |o=>o
theorem Jas(o:CObj):(moO τ o).alive=o.alive:=by cases o <;> rfl
theorem moO_rel {own own':LC}{imm:Nat->Nat->LG}(ho:∀(j:Nat) x,own[j]? = some x->own'[τ j]? = some x){x:Own}{o:CObj}{w:World}(h:Y7 own imm x o w):Y7 own' imm x (moO τ o) w:=by
 cases o with
 |arr z' es=>
  obtain⟨a1,c,el,a2,a3,a4,a5,a6⟩:=h;refine⟨a1,c,el,a2,a3,by simpa using a4,λj e he=>?_,a6⟩;rw[GH]at he
  cases IX:es[j]? with
  |none=>simp[IX]at he
  |some e0=>
   simp[IX]at he;subst he;obtain⟨h1,h2⟩:=a5 j e0 IX;refine⟨by rw[Jgf];exact h1,λt c hc=>?_⟩;rw[moL_get]at hc
   cases ht:e0[t]? with
   |none=>simp[ht]at hc
   |some c0=>simp[ht]at hc;subst hc;obtain⟨r,h3,h4⟩:=h2 t c0 ht;exact⟨r,h3,Jge ho _ _ h4⟩
 |map kvs=>
  obtain⟨es,clock,a1,a2,a3⟩:=h;refine⟨es,clock,a1,by simpa using a2,λi k v e hk he=>?_⟩;rw[GH]at hk
  cases Ch:kvs[i]? with
  |none=>simp[Ch]at hk
  |some p=>simp[Ch]at hk;obtain⟨rfl,rfl⟩:=hk;have:=a3 i p.1 p.2 e Ch he;exact⟨Jge ho _ _ this.1,Jge ho _ _ this.2⟩
 |dead=>trivial
 |ext s b=>trivial
mutual
theorem JcA {τ:Nat->Nat}:∀(c:CV),c.closed=true->mo τ c=c
 |.un,_=>rfl
 |.bool _,_=>rfl
 |.int _ _,_=>rfl
 |.str _,_=>rfl
 |.nilp,_=>rfl
 |.ptr _ _ _,h=>by simp[CV.closed]at h
 |.rptr _,_=>rfl
 |.nils,_=>rfl
 |.slc _ _ _ _,h=>by simp[CV.closed]at h
 |.rslc _ _ _,_=>rfl
 |.nilm,_=>rfl
 |.map _,h=>by simp[CV.closed]at h
 |.fn f l1 l2,h=>by simp only[CV.closed,Gi]at h;simp only[mo,YE l1 h.1,YE l2 h.2]
 |.yld _,_=>rfl
 |.nilf,_=>rfl
 |.iface t c,h=>by simp only[CV.closed]at h;simp only[mo,JcA c h]
 |.nili,_=>rfl
 |.agg l,h=>by simp only[CV.closed]at h;simp only[mo,YE l h]
 |.tup l,h=>by simp only[CV.closed]at h;simp only[mo,YE l h]
theorem YE {τ:Nat->Nat}:∀(l:Lu),Jk l=true->moL τ l=l
 |[],_=>rfl
 |c::cs,h=>by simp only[Jk,Gi]at h;simp only[moL,JcA c h.1,YE cs h.2]
end
theorem JdJ:∀{els:LQ},Jq els=true->els.map (moL τ)=els
 |[],_=>rfl
 |e::l,h=>by simp only[Jq,Gi]at h;simp only[Gh,YE e h.1,JdJ h.2]
theorem JbJ{z:Nat}{els:LQ}(hc:Jq els=true):moO τ (.arr z els)=.arr z els:=congrArg (CObj.arr z) (JdJ hc)
def tau (σ:LB)(n i:Nat):Nat:=if i<σ.length then σ.getD i 0 else n+(i-σ.length)
def YA (σ:LB)(n k:Nat)(H':Lv):Lv->Lv
 |[]=>(H'.drop σ.length).map (moO (tau σ n))
 |o::H=>(match Jl k σ 0 with|some i=>moO (tau σ n) (H'.getD i .dead)|none=>o)::YA σ n (k+1) H' H
theorem backL_get {σ:LB}:∀(H:Lv) (k j:Nat) (o:CObj),(YA σ n k H' H)[j]? = some o->(∃i,j<H.length/\Jl (k+j) σ 0=some i/\o=moO (tau σ n) (H'.getD i .dead))\/(Jl (k+j) σ 0=none/\H[j]? = some o)\/∃i,j=H.length+i/\(H'[σ.length+i]?).map (moO (tau σ n))=some o
 |[],k,j,o,h=>by refine .inr (.inr ⟨j,sM,?_⟩);rw[YA,GH,Ld]at h;exact h
 |p::H,k,0,o,h=>by
  rw[YA,List.getElem?_cons_zero,Hy]at h
  cases hr:Jl k σ 0 with
  |some i=>rw[hr]at h;exact .inl ⟨i,sM,rfl,h.symm⟩
  |none=>rw[hr]at h;exact .inr (.inl ⟨rfl,congrArg some h⟩)
 |p::H,k,j+1,o,h=>by
  rw[YA,List.getElem?_cons_succ]at h;rcases backL_get H (k+1) j o h with ⟨i,h1,h2,h3⟩|⟨h1,h2⟩|⟨i,h1,h2⟩
  ·exact .inl ⟨i,by simp;omega,by rw[show k+(j+1)=k+1+j by omega];exact h2,h3⟩
  ·exact .inr (.inl ⟨by rw[show k+(j+1)=k+1+j by omega];exact h1,by simpa using h2⟩)
  ·exact .inr (.inr ⟨i,by simp;omega,h2⟩)
theorem JfA {σ:LB}:∀(H:Lv) (k:Nat),(YA σ n k H' H).length=H.length+(H'.length-σ.length)
 |[],k=>by simp[YA]
 |p::H,k=>by rw[YA,Gr,JfA H,Gr];omega
theorem Jf3 {id:Nat}:∀(σ:LB) (i:Nat),Jl id σ i=none->id∉σ
 |[],_,_=>sM
 |k::σ,i,h=>by
  simp only[Jl]at h
  split at h
  ·cases h
  ·rename_i hk;have:=Jf3 σ (i+1) h;simp only[GI,not_or];exact⟨λh=>hk h.symm,this⟩
def isExt:CObj->Bool
 |.ext _ _=>true
 |_=>false
def locOk (σ:LB)(H:Lv):Bool:=σ.Nodup && σ.all λi=>decide (i<H.length) && !isExt (H.getD i .dead)
section
variable{E:Env}
theorem CallsC.loc{args args0:Lu}(σ:LB)(h:CallsC P Env.none f args0 H0 R)(ha:JG σ args=args0)(hH:KE σ H=H0)(Ao:locOk σ H=true) :
  CallsC P E f args H λv H'=>∃v0 H0',R v0 H0'/\v=mo (tau σ H.length) v0/\H'=YA σ H.length 0 H0' H:=by
 intro m w vs hs hv;subst ha hH;obtain⟨F6,Aj⟩:σ.Nodup/\∀i∈σ,i<H.length/\∀s b,H[i]?≠some (.ext s b):=by unfold locOk at Ao;rw[Gi,GA]at Ao;refine⟨by simpa using Ao.1,λi hi=>?_⟩;have h2:=Ao.2 i hi;rw[Gi,decide_eq_true_eq]at h2;refine⟨h2.1,λs b hb=>?_⟩;rw[Gc,hb]at h2;simp[isExt]at h2
 have Ad:=hs.len
 let own0:LC:=σ.map λid=>m.own.getD id ⟨0,0,0,0⟩
 have ho:∀(j:Nat) id,σ[j]? = some id->own0[j]? = m.own[id]?:=by
  intro j id hj;have Ab:id<m.own.length:=by rw[Ad];exact(Aj id (Gx hj)).1
  simp[own0,hj,Gc,Gb Ab]
 have key0:∀(k:Nat) o x,(KE σ H)[k]? = some o->own0[k]? = some x->∃id o0,σ[k]? = some id/\H[id]? = some o0/\o=Xn σ o0/\m.own[id]? = some x:=by intro k o x hk hx;obtain⟨id,o0,h1,h2,h3⟩:=Jd5 (λi hi=>(Aj i hi).1) hk;exact⟨id,o0,h1,h2,h3,(ho k id h1).symm.trans hx⟩
 have ET:Sim Env.none { own:=own0,imm:=m.imm,ext:=λ_=>False } (KE σ H) w:=by
  refine⟨by simp[own0,KE],λk o x hk hx=>?_,hs.imm,hs.one,λk k' o o' x x' hk AC ha AX hx Aw hB=>?_,λk o x hk ha hx=>?_,λk s b hk=>?_,λk o x hk ha hx=>?_,λB hB=>hs.extlt B (.inr (hB.resolve_left id)),hs.gl.1,λB hB=>hB.elim⟩
  ·obtain⟨id,o0,h1,h2,rfl,h4⟩:=key0 k o x hk hx;have:=hs.obj id o0 x h2 h4;have hf:=Jhn (own:=m.own) (own':=own0) (imm:=m.imm) (ρ:=σ) ho
   cases o0 with
   |arr z' es=>obtain⟨a1,c,el,a2,a3,a4,a5,a6⟩:=this;exact⟨a1,c,el,a2,a3,by simpa using a4,relO_ren hf a5,a6⟩
   |map kvs=>
    obtain⟨es,clock,a1,a2,a3⟩:=this;refine⟨es,clock,a1,by simpa using a2,λi k v e hk he=>?_⟩;rw[GH]at hk
    cases Ch:kvs[i]? with
    |none=>simp[Ch]at hk
    |some p=>simp[Ch]at hk;obtain⟨rfl,rfl⟩:=hk;have:=a3 i p.1 p.2 e Ch he;exact⟨hf _ _ this.1,hf _ _ this.2⟩
   |dead=>trivial
   |ext s b=>trivial
  ·obtain⟨id,o0,h1,h2,rfl,h4⟩:=key0 k o x hk hx;obtain⟨id',o0',DN,FU,rfl,Uj⟩:=key0 k' o' x' AC Aw;rw[XD]at ha AX;have:=hs.sep id id' o0 o0' x x' h2 FU ha AX h4 Uj hB;subst this;exact(List.getElem?_inj (Gl.1 h1).1 F6).1 (h1.trans DN.symm)
  ·obtain⟨id,o0,h1,h2,rfl,h4⟩:=key0 k o x hk hx;rw[XD]at ha;exact hs.ro id o0 x h2 ha h4
  ·obtain⟨id,o0,h1,h2,h3⟩:=Jd5 (λi hi=>(Aj i hi).1) hk;have:o0=.ext s b:=by cases o0 <;> simp[Xn]at h3;simp[h3]
   subst this;exact absurd h2 ((Aj id (Gx h1)).2 s b)
  ·obtain⟨id,o0,h1,h2,rfl,h4⟩:=key0 k o x hk hx;rw[XD]at ha;exact λhB=>hs.extsep id o0 x h2 ha h4 (.inr (hB.resolve_left λh=>h))
 refine(h _ w vs ET (JaH ho args _ hv)).mono ?_;rintro ev w' ⟨rv,m',v,H',rfl,Af,AB,hrel,hR⟩;have A9:(KE σ H).length=σ.length:=by simp[KE]
 have Bd:own0.length=σ.length:=by simp[own0]
 have FD:σ.length<=m'.own.length:=by rw[<-A9];exact Af.long (by rw[A9,Bd];exact Gf _)
 have Ez:=AB.len;have hτ:∀(j:Nat) x,m'.own[j]? = some x->(m.own++m'.own.drop σ.length)[tau σ H.length j]? = some x:=λj x hj=>by
  unfold tau;by_cases A8:j<σ.length
  ·rw[if_pos A8];have Oh:=Gb A8;have Ab:=(Aj _ (Gg A8)).1;have e1:own0[j]? = some (m.own[σ[j]]' om):=by rw[ho j _ Oh,Gb]
   have e2:=Af.base j _ (by rw[A9];exact A8) e1;rw[hj]at e2;rw[Gc,Oh,GX,GZ om,Gb om];exact e2.symm
  ·rw[if_neg A8,He om,Ld];rw[show σ.length+(H.length+(j-σ.length)-m.own.length)=j by omega];exact hj
 have ownM:∀B,owned { own:=own0,imm:=m.imm,ext:=λ_=>False } (KE σ H) B->∃id o x,id∈σ/\H[id]? = some o/\o.alive=true/\m.own[id]? = some x/\x.B=B:=by
  rintro B (h|⟨k,o,x,hk,Am,hx,rfl⟩)
  ·exact h.elim
  ·obtain⟨id,o0,h1,h2,rfl,h4⟩:=key0 k o x hk hx;rw[XD]at Am;exact⟨id,o0,x,Gx h1,h2,Am,h4,rfl⟩
 have ownM2:∀B,owned { own:=own0,imm:=m.imm,ext:=λ_=>False } (KE σ H) B->owned m H B:=λB hB=>by obtain⟨id,o,x,_,h1,h2,h3,h4⟩:=ownM B hB;exact .inr ⟨id,o,x,h1,h2,h3,h4⟩
 have EX:∀(k:Nat) o x,k∉σ->H[k]? = some o->o.alive=true->m.own[k]? = some x->¬owned { own:=own0,imm:=m.imm,ext:=λ_=>False } (KE σ H) x.B:=λk o x h1 hk Am hx hB=>by obtain⟨id,o',x',q1,q2,q3,q4,q5⟩:=ownM _ hB;have:=hs.sep k id _ _ _ _ hk q2 Am q3 hx q4 q5.symm;subst this;exact h1 q1
 have AL:∀(k:Nat) o x,k∉σ->H[k]? = some o->o.alive=true->m.own[k]? = some x->w'.heap[x.B]? = w.heap[x.B]?:=λk o x h1 hk Am hx=>Af.frame _ (Yq hs hk Am hx) (EX k o x h1 hk Am hx)
 have key:∀(k:Nat) o x,(YA σ H.length 0 H' H)[k]? = some o->(m.own++m'.own.drop σ.length)[k]? = some x->(∃i o0,H'[i]? = some o0/\o=moO (tau σ H.length) o0/\m'.own[i]? = some x/\tau σ H.length i=k)\/(H[k]? = some o/\m.own[k]? = some x/\k∉σ):=λk o x hk hx=>by
  rcases backL_get H 0 k o hk with ⟨i,h1,h2,h3⟩|⟨h1,h2⟩|⟨i,h1,h2⟩
  ·rw[Gv]at h2;have h4:=JbE h2;have hi:=(Gl.1 h4).1;have h5:tau σ H.length i=k:=by unfold tau;rw[if_pos hi,Gc,h4];rfl
   have h6:=hτ i _ (Gb (show i<m'.own.length by omega));rw[h5,hx]at h6;refine .inl ⟨i,H'[i]' om,Gb om,?_,?_,h5⟩
   ·rw[h3,Gc,Gb (show i<H'.length by omega)];rfl
   ·rw[Gb (show i<m'.own.length by omega),<-h6]
  ·rw[Gv]at h1;have Ap:=(Gl.1 h2).1;rw[GZ om]at hx;exact .inr ⟨h2,hx,Jf3 σ 0 h1⟩
  ·obtain⟨o0,h3,h4⟩:=Option.map_eq_some_iff.1 h2;have Ae:=(Gl.1 h3).1;have h5:tau σ H.length (σ.length+i)=k:=by unfold tau;rw[iN7];omega
   have h6:=hτ (σ.length+i) _ (Gb (show σ.length+i<m'.own.length by omega));rw[h5,hx]at h6;refine .inl ⟨σ.length+i,o0,h3,h4.symm,?_,h5⟩;rw[Gb (show σ.length+i<m'.own.length by omega),<-h6]
 have DU:∀(i:Nat) o0 x,H'[i]? = some o0->o0.alive=true->m'.own[i]? = some x->owned { own:=own0,imm:=m.imm,ext:=λ_=>False } (KE σ H) x.B\/w.heap.size<=x.B:=λi o0 x h1 h2 h3=>Af.newOwn x.B (.inr ⟨i,o0,x,h1,h2,h3,rfl⟩)
 have Be:=KZ.append m.own (m'.own.drop σ.length);refine⟨rv,{ m with own:=m.own++m'.own.drop σ.length,imm:=m'.imm },mo (tau σ H.length) v,_,rfl,⟨Af.size,λB hB hn=>Af.frame B hB λh=>hn (ownM2 B h),Af.imm,?_,λB i v hv=>?_,λk x _ hx=>Be _ _ hx,λh=>by simp;omega,Af.same⟩,⟨by rw[JfA];simp;omega,λk o x hk hx=>?_,AB.imm,AB.one,λk k' o o' x x' hk AC ha AX hx Aw hB=>?_,λk o x hk Am hx i hi=>?_,λk a b hk=>?_,λk o x hk Am hx=>?_,λB hB=>Nat.lt_of_lt_of_le (hs.extlt B hB) Af.size,AB.gl.1,hs.gl.2⟩,Jge hτ v rv hrel,v,H',hR,rfl,rfl⟩
 ·rintro B (hB|⟨k,o,x,hk,Am,hx,rfl⟩)
  ·exact .inl (.inl hB)
  ·rcases key k o x hk hx with ⟨i,o0,h1,rfl,h3,_⟩|⟨h1,h2,_⟩
   ·rw[Jas]at Am;rcases DU i o0 x h1 Am h3 with h|h
    ·exact .inl (ownM2 _ h)
    ·exact .inr h
   ·exact .inl (.inr ⟨k,o,x,h1,Am,h2,rfl⟩)
 ·rcases Af.newImm B i v hv with h|h|h
  ·exact .inl h
  ·exact .inr (.inl (ownM2 B h))
  ·exact .inr (.inr h)
 ·rcases key k o x hk hx with ⟨i,o0,h1,rfl,h3,_⟩|⟨h1,h2,h3⟩
  ·exact moO_rel hτ (AB.obj i o0 x h1 h3)
  ·by_cases Am:o.alive=true
   ·exact KO Be Af.imm (λ_=>AL k o x h3 h1 Am h2) (hs.obj k o x h1 h2)
   ·cases o <;> simp[CObj.alive]at Am <;> trivial
 ·have cross:∀(i:Nat) o0 (k:Nat) o x y,H'[i]? = some o0->o0.alive=true->m'.own[i]? = some x->H[k]? = some o->o.alive=true->m.own[k]? = some y->k∉σ->x.B≠y.B:=λi o0 k o x y h1 h2 h3 h4 h5 h6 h7 hB=>by
   rcases DU i o0 x h1 h2 h3 with h|h
   ·exact EX k o y h7 h4 h5 h6 (hB▸h)
   ·have:=Yq hs h4 h5 h6;omega
  rcases key k o x hk hx with ⟨i,o0,h1,rfl,h3,h4⟩|⟨h1,h2,h3⟩ <;> rcases key k' o' x' AC Aw with ⟨i',o0',DN,rfl,CS,Uj⟩|⟨DN,FU,CS⟩
  ·rw[Jas]at ha AX;have:=AB.sep i i' _ _ _ _ h1 DN ha AX h3 CS hB;subst this;exact h4.symm.trans Uj
  ·rw[Jas]at ha;exact absurd hB (cross i o0 k' o' x x' h1 ha h3 DN AX FU CS)
  ·rw[Jas]at AX;exact absurd hB.symm (cross i' o0' k o x' x DN AX CS h1 ha h2 h3)
  ·exact hs.sep k k' _ _ _ _ h1 DN ha AX h2 FU hB
 ·rcases key k o x hk hx with ⟨j,o0,h1,rfl,h3,h4⟩|⟨h1,h2,h3⟩
  ·rw[Jas]at Am;exact AB.ro j _ _ h1 Am h3 i hi
  ·cases hv:m'.imm x.B i with
   |none=>rfl
   |some v=>
    rcases Af.newImm _ _ _ hv with h|h|h
    ·rw[hs.ro k o x h1 Am h2 i hi]at h;cases h
    ·exact absurd h (EX k o x h3 h1 Am h2)
    ·have:=Yq hs h1 Am h2;omega
 ·have Ap:=(Gl.1 hk).1;rw[JfA]at Ap;obtain⟨x,hx⟩:∃x,(m.own++m'.own.drop σ.length)[k]? = some x:=⟨_,Gb (by simp;omega)⟩;rcases key k _ x hk hx with ⟨j,o0,h1,h2,h3,h4⟩|⟨h1,h2,h3⟩
  ·have:o0=.ext a b:=by cases o0 <;> simp[moO]at h2;simp[h2]
   subst this;exact(AB.ext j a b h1).elim
  ·refine E.stable _ _ _ _ _ _ _ (hs.ext k a b h1) (λB hB=>Af.frame B (hs.extlt B hB) λh=>?_) Af.size Af.imm (λB i v hv=>?_) AB.imm AB.one
   ·obtain⟨id,o,x,_,q1,q2,q3,q4⟩:=ownM B h;subst q4;exact hs.extsep id _ _ q1 q2 q3 hB
   ·rcases Af.newImm B i v hv with h|h|h
    ·exact .inl h
    ·refine .inr λhB=>?_
     obtain⟨id,o,x,_,q1,q2,q3,q4⟩:=ownM B h;subst q4;exact hs.extsep id _ _ q1 q2 q3 (.inl hB)
    ·refine .inr λhB=>?_
     have:=hs.extlt B (.inl hB);omega
 ·rcases key k o x hk hx with ⟨i,o0,h1,rfl,h3,h4⟩|⟨h1,h2,h3⟩
  ·rw[Jas]at Am;intro hB;rcases DU i o0 x h1 Am h3 with h|h
   ·obtain⟨id,o,y,_,q1,q2,q3,q4⟩:=ownM _ h;rw[<-q4]at hB;exact hs.extsep id _ _ q1 q2 q3 hB
   ·have:=hs.extlt _ hB;omega
  ·exact hs.extsep k o x h1 Am h2
end
section
variable{E:Env}{n0:Nat}{N:Fr}{Q:Exit->Lu->Lv->Prop}{k:LM}{T:Lu}
theorem vr_loc{ags:LP}{l:LD}{args0:Lu}(σ:LB)(hg:GOk T g)(h:CallsC P Env.none f args0 H0 R)(ha:JG σ (ags.map (Kg T))=args0)(hH:KE σ H=H0)(Ao:locOk σ H=true)(hk:∀v H',R v H'->KD P E n0 N Q (.ops l::k) (put T d (mo (tau σ H.length) v)) (YA σ H.length 0 H' H)):Ok P E n0 N Q (.ops (⟨d,.call f ags,g⟩::l)::k) T H:=Kt hg (h.loc σ ha hH Ao) λv H' ⟨v0,H0,hR,e1,e2⟩=>by rw[e1,e2];exact hk v0 H0 hR
theorem vr_locE{ags:LP}{l:LD}{args0:Lu}{H1 H2:Lv}{v v2:CV}(σ:LB)(hg:GOk T g)(h:CallsC P Env.none f args0 H0 λv' H'=>v'=v/\H'=H1)(ha:JG σ (ags.map (Kg T))=args0)(hH:KE σ H=H0)(Ao:locOk σ H=true)(hv:mo (tau σ H.length) v=v2)(h2:YA σ H.length 0 H1 H=H2)(hk:KD P E n0 N Q (.ops l::k) (put T d v2) H2):Ok P E n0 N Q (.ops (⟨d,.call f ags,g⟩::l)::k) T H:=vr_loc σ hg h ha hH Ao λv' H' ⟨e1,e2⟩=>by rw[e1,e2,hv,h2];exact hk
end
end Go.Cm
end
section
set_option maxRecDepth 100000
namespace Go.Cm
variable {op:IOp}{T:Lu}{H H':Lv}{d:Option Nat}{b:Nat}
def looks:IOp->Bool
 |.load _ _ _=>true
 |.iaddr _ _ _=>true
 |_=>false
theorem looks_heap{c:Cond}{v:CV}(hl:looks op=true)(he:exec op T H=some (c,v,H')):H'=H:=by
 cases op <;> simp only[looks]at hl <;> first|(cases hl;done)|skip
 all_goals
  simp only[exec]at he
  repeat' split at he
  all_goals first|(cases he;done)|(simp only[Hy,G8]at he;exact he.2.2.symm)
def footQ (b:Nat):Foot×Foot:=if b=0 then Foot.no else if b=1 then(.all,.on []) else Foot.any
def JgK (b:Nat)(op:IOp)(T:Lu)(H:Lv):Option (Cond×CV×Lv):=if b=0 then Je9 false op T H else if b=1 then(if looks op=true then exec op T H else none) else exec op T H
section
variable (P:Program)(E:Env)(n0:Nat)(N:Fr)(Q:Exit->Lu->Lv->Prop)
def vdx (k:LM):LD->LB->Lu->Lv->Prop
 |[],_,T,H=>KD P E n0 N Q k T H
 |_::_,[],_,_=>False
 |⟨d,op,none⟩::l,b::bs,T,H=>match JgK b op T H with
  |some (c,v,H')=>c.holds/\vdx k l bs (put T d v) H'
  |none=>∃v H',HS P E ⟨d,op,none⟩ T H v H' (footQ b)/\vdx k l bs (put T d v) H'
 |⟨d,op,some g⟩::l,b::bs,T,H=>∃v H',HS P E ⟨d,op,some g⟩ T H v H' (footQ b)/\vdx k l bs (put T d v) H'
def vdxR (r:Option (Cond×CV×Lv))(d:Option Nat)(op:IOp)(b:Nat)(k:LM)(l:LD)(bs:LB)(T:Lu)(H:Lv):Prop:=
 match r with
 |some (c,v,H')=>c.holds/\vdx P E n0 N Q k l bs (put T d v) H'
 |none=>∃v H',HS P E ⟨d,op,none⟩ T H v H' (footQ b)/\vdx P E n0 N Q k l bs (put T d v) H'
end
section
variable {P:Program}{E:Env}{n0:Nat}{N:Fr}{Q:Exit->Lu->Lv->Prop}{k:LM}{l:LD}{es:List LB}{bs:LB}
theorem vx_nil:vdx P E n0 N Q k [] bs T H=KD P E n0 N Q k T H:=propext (by cases bs <;> exact Iff.rfl)
theorem vx_op:vdx P E n0 N Q k (⟨d,op,none⟩::l) (b::bs) T H=vdxR P E n0 N Q (JgK b op T H) d op b k l bs T H:=propext Iff.rfl
theorem vdxR_some{c:Cond}{v:CV}:vdxR P E n0 N Q (some (c,v,H')) d op b k l bs T H=(c.holds/\vdx P E n0 N Q k l bs (put T d v) H'):=propext Iff.rfl
theorem vdx_look {T':Lu}{H':Lv}(hT:T=T')(hH:H=H'):vdx P E n0 N Q k l bs T H=vdx P E n0 N Q k l bs T' H':=by rw[hT,hH]
theorem vdxR_look {r r':Option (Cond×CV×Lv)}(h:r=r'):vdxR P E n0 N Q r d op b k l bs T H=vdxR P E n0 N Q r' d op b k l bs T H:=by rw[h]
attribute [congr] vdx_look vdxR_look
theorem hs_ro {io:IOper}{x:CV}{c:Cond}(hg:GOk T io.guard)(he:exec io.op T H=some (c,x,H))(hc:c.holds):HS P E io T H x H (.all,.on []):=by
 have h:=hs_op (P:=P) (E:=E) hg he hc;refine⟨λ_ _=>rfl,λT2 H2 ag hx=>?_⟩;have hH:H2=H:=Jai λy=>hx y trivial
 obtain⟨H2',h1,_,h3⟩:=h.run T2 H2 ag λy _=>hx y trivial
 have bI:H2'=H:=Jai λy=>h1 y trivial
 subst hH bI;exact⟨_,λy hy=>(by cases hy),λ_ _=>rfl,h3⟩
end
theorem xexec0:JgK 0 op T H=Je9 false op T H:=rfl
theorem xexec1:JgK 1 op T H=if looks op=true then exec op T H else none:=rfl
theorem xexec2:JgK 2 op T H=exec op T H:=rfl
attribute [go_sem] xexec0 xexec1 xexec2 looks vx_nil vx_op vdxR_some
end Go.Cm
end
end
