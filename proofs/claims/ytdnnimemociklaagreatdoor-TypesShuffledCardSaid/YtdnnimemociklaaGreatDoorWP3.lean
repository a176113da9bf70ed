/-
  A part of the proof. Conditions: none.
-/
import Derived.Test.YtdnnimemociklaaGreatDoorWA6
import Derived.Test.YtdnnimemociklaaGreatDoorWI3
import Derived.Test.YtdnnimemociklaaGreatDoorWS1
import Derived.BigCall
import Derived.Shelf.Strings.Builder1
set_option linter.unusedSimpArgs false
set_option linter.unusedVariables false
open Go.Proofs.Tryz renaming prog->Ga
open Bool renaming eq_iff_iff->Gg,and_eq_true->Gq,eq_false_or_eq_true->GQ,or_eq_false_iff->GR,false_and->GU
open Int renaming cast_ofNat_Int->Gd
open List renaming getD_eq_getElem?_getD->Gb,getElem?_eq_getElem->Gc,getElem?_eq_some_iff->Gf,take_succ_eq_append_getElem->Gm,drop_eq_getElem_cons->Gr,take_length->Gj,take_of_length_le->Gs,getElem?_drop->Gn,map_cons->Gh,getElem?_map->Gp,mem_of_getElem?->Gt,getElem?_take->Gu,take_append_drop->Gx,getElem_mem->Gv,length_take->Gy,length_nil->Gz,takeWhile_cons->GG,length->Gw,map_nil->GA,length_cons->GH,foldl_cons->GI,replicate->GJ,prefix_iff_eq_take->GV,mem_cons->GK,takeWhile_prefix->GX,map_map->GL,getElem?_of_mem->GY,mem_singleton->GZ,all_takeWhile->G5,take_add_one->G6,foldl_append->G7,any_eq_true->G8,all_eq_true->G9,any_cons->Ha
open Option renaming bind_some->GM,getD_some->Hd,map_some->He
open Nat renaming le_refl->Gi,le_of_lt->Gl,zero_add->GD,le_add_right->GN,min_eq_left->Hf,le_trans->Hg
noncomputable section
section
open Go.Proofs
namespace Go.Cm
variable {a f i:Nat}{α:Type}{l:Lv}{q:UInt8->Bool}
theorem nm:(Ga.funcs[f]?.map (·.name))≠some "runtime.NumGoroutine" :=Jc0 pNames f
def isLt (c:UInt8):Bool:=decide (97<=c.toNat) && decide (c.toNat<=122)
def isBk (c:UInt8):Bool:=c == 32 || c == 10
def isGp (c:UInt8):Bool:=isBk c || c == 126
theorem dle (a:Nat)(c:UInt8):decide ((a:Int)<=(c.toNat:Int))=decide (a<=c.toNat):=decide_eq_decide.2 om
theorem dge (a:Nat)(c:UInt8):decide ((c.toNat:Int)<=(a:Int))=decide (c.toNat<=a):=decide_eq_decide.2 om
theorem deq (a:Nat)(ha:a<256)(c:UInt8):((c.toNat:Int) == (a:Int))=(c == UInt8.ofNat a):=by
 rw[Gg];simp only[beq_iff_eq]
 constructor
 ·intro h;apply UInt8.toNat_inj.1;simp;omega
 ·intro h;rw[h];simp;omega
theorem Jft (c:UInt8):Fn Ga 265 [.int .u8 c.toNat] (.bool (isLt c)):=by
 refine Jc c265_ok rfl rfl λN=>?_
 have h1:=dle 97 c;have h2:=dge 122 c;simp only[Gd]at h1 h2;simp +contextual only[c265,go_sem,h1,h2,isLt]
theorem JdJ (c:UInt8):Fn Ga 267 [.int .u8 c.toNat] (.bool (XG c)):=by
 refine Jc c267_ok rfl rfl λN=>?_
 have h1:=dle 48 c;have h2:=dge 57 c;simp only[Gd]at h1 h2;simp +contextual only[c267,go_sem,h1,h2,XG]
theorem lexIsBlank (c:UInt8):Fn Ga 264 [.int .u8 c.toNat] (.bool (isBk c)):=by
 refine Jc c264_ok rfl rfl λN=>?_
 have h1:=deq 32 vk c;have h2:=deq 10 vk c;simp only[Gd]at h1 h2;simp +contextual only[c264,go_sem,h1,h2];show ((c == 32)=false->CV.bool (c == 10)=CV.bool ((c == 32) || (c == 10)))/\((c == 32)=true->CV.bool true=CV.bool ((c == 32) || (c == 10)))
 cases (c == 32) <;> simp
theorem lexIsGap (c:UInt8):Fn Ga 252 [.int .u8 c.toNat] (.bool (isGp c)):=by
 refine Jc c252_ok rfl rfl λN=>?_
 have h1:=deq 126 vk c;simp only[Gd]at h1;simp +contextual only[c252,go_sem];refine Kk (lexIsBlank c) ?_;simp +contextual only[go_sem,h1]
 cases h:isBk c with
 |true=>simp[isGp,h]
 |false=>simp[isGp,h]
def X8 {α:Type}(q:α->Bool):List α->Nat->Int
 |[],_=>-1
 |p::l,i=>if q p then i else X8 q l (i+1)
theorem Xx{q:α->Bool}{l:List α}{p:α}(h:l[i]? = some p):X8 q (l.drop i) i=if q p then(i:Int) else X8 q (l.drop (i+1)) (i+1):=by have Ab:=(Gf.1 h).1;have hp:=(Gf.1 h).2;rw[Gr Ab,hp];rfl
theorem fixA_neg{q:α->Bool}:∀(l:List α) (i:Nat),X8 q l i<0↔l.any q=false
 |[],_=>by simp[X8]
 |p::l,i=>by
  have:=fixA_neg (q:=q) l (i+1);simp only[X8,Ha,GR];by_cases h:q p=true
  ·simp only[h,if_true,Bool.true_eq_false,false_and,iff_false];omega
  ·have h':q p=false:=by simpa using h
   rw[if_neg h,this];simp[h']
theorem JaZ{q:α->Bool}(l:List α):decide (0<=X8 q l 0)=l.any q:=by
 have h:=fixA_neg (q:=q) l 0
 cases h2:l.any q with
 |true=>rw[decide_eq_true_eq];rw[h2]at h;simp at h;exact h
 |false=>rw[decide_eq_false_iff_not];have:=h.2 h2;omega
structure FnQ where
 f:Nat
 q:UInt8->Bool
def Jim (p:FnQ):Prop:=(∃F,Jg Ga p.f=some F)/\∀c:UInt8,Fn Ga p.f [.int .u8 c.toNat] (.bool (p.q c))
def qLt:FnQ:=⟨265,isLt⟩
def qDg:FnQ:=⟨267,XG⟩
theorem qLt_ok:Jim qLt:=⟨⟨_,c265_ok⟩,Jft⟩
theorem qDg_ok:Jim qDg:=⟨⟨_,c267_ok⟩,JdJ⟩
def fnz (l:List FnQ):LM:=l.map λp=>[.fn p.f [] []]
theorem fnz_len {l:List FnQ}:(fnz l).length=l.length:=by simp[fnz]
theorem fnz_get {l:List FnQ}{p:FnQ}(h:l[i]? = some p):(fnz l).getD i []=[.fn p.f [] []]:=by simp[fnz,Gb,h]
section
variable {E:Env}{H:Lt}{id:Nat}{at_:Nat}
theorem run1 (hH:H[id]? = some (.arr 1 [[.int .i64 (at_:Int)]]))(Ab:at_<l.length)(p:FnQ)(hp:Jim p):Pure Ga E 274 [.fn p.f [] [],.rptr [S l],.ptr id 0 0] H (.bool (p.q (l.getD at_ 0))):=by
 obtain⟨⟨F,hF⟩,hq⟩:=hp;refine J8 c274_ok λN=>?_
 simp +contextual only[c274,go_sem,hH];refine⟨⟨om,om⟩,?_⟩;refine vr_fv (.inl rfl) rfl hF nm (hq _) ?_;simp +contextual only[go_sem]
theorem vr_pcallv {P:Program}{n0:Nat}{N:Fr}{Q:Exit->Ls->Lt->Prop}{T:Ls}{k:LJ}{d:Option Nat}{g:Option (Nat×Bool)}{x:IArg}{l1 l2:Ls}{xs:LK}{l:LB}{v:CV}{F:IFunc}(hg:GOk T g) (hx:Ke T x=.fn f l1 l2) (hF:Jg P f=some F) (Fb:(P.funcs[f]?.map (·.name))≠some "runtime.NumGoroutine")
  (Af:Pure P E f (l1++xs.map (Ke T)++l2) H v) (h:KA P E n0 N Q (.ops l::k) (put T d v) H):Ok P E n0 N Q (.ops (⟨d,.callv x xs,g⟩::l)::k) T H:=by
 have Br:∃fn,P.funcs[f]? = some fn/\fn.body.isSome=true:=by
  unfold Jg at hF
  split at hF
  ·rename_i fn Br
   split at hF
   ·rename_i c hb;exact⟨fn,Br,by rw[hb];rfl⟩
   ·cases hF
  ·cases hF
 obtain⟨fn,Br,Dj⟩:=Br;exact Jh3 hg hx Br Dj (λe=>Fb (by rw[Br,<-e];rfl)) Af λv' H' ⟨h1,h2⟩=>by rw[h1,h2];exact Jz _ _ _ h
theorem indexF (hH:H[id]? = some (.arr 1 [[.int .i64 (at_:Int)]]))(Ab:at_<l.length)(fs:List FnQ)(cap:Option Nat)(Ij:∀p∈fs,Jim p)(hl:fs.length<=1000) :
  Pure Ga E 282 [.rslc 1 (fnz fs) cap,.fn 274 [] [.rptr [S l],.ptr id 0 0]] H (.int .i64 (X8 (λp=>p.q (l.getD at_ 0)) fs 0)):=by
 generalize hQ:(λp:FnQ=>p.q (l.getD at_ 0))=q;refine J8 c282_ok λN=>?_
 simp +contextual only[c282,go_sem,fnz_len];refine JO (I:=λi:Nat=>i<=fs.length/\X8 q fs 0=X8 q (fs.drop i) i) (inv:=λi=>gp [(0,.rslc 1 (fnz fs) cap),(0,.fn 274 [] [.rptr [S l],.ptr id 0 0]),(5,.int .i64 fs.length),(0,.int .i64 i)] 10) (hp:=λ_=>H) (μ:=λi=>fs.length-i) 0 ?_ ?_ rfl ?_
 ·simp
 ·simp[forget,gp]
 ·rintro i ⟨hi,Aa⟩;simp +contextual only[go_sem,fnz_len];refine⟨λh=>?_,λh=>?_⟩
  ·have Eo:i<fs.length:=om
   obtain⟨p,hp⟩:∃p,fs[i]? = some p:=⟨_,Gc Eo⟩;rw[Xx hp]at Aa;rw[fnz_get hp];refine anO ?_;simp +contextual only[go_sem];refine vr_pcallv (.inl rfl) rfl c274_ok nm (run1 hH Ab p (Ij p (Gt hp))) ?_;have IZ:p.q (l.getD at_ 0)=q p:=by rw[<-hQ]
   rw[IZ];simp only[go_sem];refine⟨λh2=>?_,λh2=>?_⟩
   ·rw[Aa,if_pos h2]
   ·rw[h2]at Aa;refine⟨Ji,i+1,⟨om,by simpa using Aa⟩,om,?_⟩;simp[forget]
  ·have:i=fs.length:=om
   subst this;rw[Aa];simp[X8]
theorem containsF (hH:H[id]? = some (.arr 1 [[.int .i64 (at_:Int)]]))(Ab:at_<l.length)(fs:List FnQ)(cap:Option Nat)(Ij:∀p∈fs,Jim p)(hl:fs.length<=1000) :
  Pure Ga E 278 [.rslc 1 (fnz fs) cap,.fn 274 [] [.rptr [S l],.ptr id 0 0]] H (.bool (fs.any λp=>p.q (l.getD at_ 0))):=by
 refine J8 c278_ok λN=>?_
 simp +contextual only[c278,go_sem];refine Jbc (indexF hH Ab fs cap Ij hl) ?_;simp +contextual only[go_sem,JaZ]
theorem noneF (hH:H[id]? = some (.arr 1 [[.int .i64 (at_:Int)]]))(Ab:at_<l.length)(fs:List FnQ)(cap:Option Nat)(Ij:∀p∈fs,Jim p)(hl:fs.length<=1000) :
  Pure Ga E 273 [.rslc 1 (fnz fs) cap,.fn 274 [] [.rptr [S l],.ptr id 0 0]] H (.bool (!fs.any λp=>p.q (l.getD at_ 0))):=by
 refine J8 c273_ok λN=>?_
 simp +contextual only[c273,go_sem];refine Jbc (containsF hH Ab fs cap Ij hl) ?_;simp +contextual only[go_sem]
end
def Xr (q:UInt8->Bool)(l:Lv)(a:Nat):Nat:=a+((l.drop a).takeWhile q).length
theorem Jak(h:a<=l.length):Xr q l a<=l.length:=by unfold Xr;have:=(List.takeWhile_sublist (l:=l.drop a) q).length_le;simp at this;omega
theorem runE_end(h:l.length<=a):Xr q l a=a:=by unfold Xr;rw[List.drop_eq_nil_of_le h];rfl
theorem Jeu(h:a<l.length)(hq:q (l.getD a 0)=true):Xr q l a=Xr q l (a+1):=by unfold Xr;rw[Gb,Gc h]at hq;simp only[Hd]at hq;rw[Gr h,GG,if_pos hq];simp;omega
theorem Je6(h:a<l.length)(hq:q (l.getD a 0)=false):Xr q l a=a:=by unfold Xr;rw[Gb,Gc h]at hq;simp only[Hd]at hq;rw[Gr h,GG,hq];simp
theorem lexRun (l:Lv)(a:Nat)(fs:List FnQ)(cap:Option Nat)(Ij:∀p∈fs,Jim p)(hl:fs.length<=1000)(CQ:l.length<=1000000)(ha:a<=l.length) :
  Fn Ga 266 [S l,.int .i64 (a:Int),.rslc 1 (fnz fs) cap] (.int .i64 (Xr (λc=>fs.any λp=>p.q c) l a:Nat)):=by
 generalize hQ:(λc=>fs.any λp:FnQ=>p.q c)=q;refine Jc c266_ok rfl rfl λN=>?_
 simp +contextual only[c266,go_sem];refine Je (id:=0) (z:=1) (els:=[[S l]]) rfl rfl ?_;simp only[go_sem,JV,Kv,frz,Qj];refine JO (I:=λi:Nat=>i<=l.length/\Xr q l a=Xr q l i) (inv:=λi=>gp [(2,.rslc 1 (fnz fs) cap),(0,.rptr [S l]),(0,.ptr 1 0 0)] 15) (hp:=λi=>[.dead,.arr 1 [[.int .i64 (i:Int)]]]) (μ:=λi=>l.length-i) a ⟨ha,rfl⟩ ?_ rfl ?_
 ·simp[forget,gp]
 ·rintro i ⟨hi,Aa⟩;simp +contextual only[go_sem];by_cases Ab:i<l.length
  ·have d1:=dtT i l.length;simp +contextual only[go_sem,d1];refine vr_pureg (gok rfl) (noneF (id:=1) (l:=l) (at_:=i) rfl Ab fs cap Ij hl) ?_;have hq:(fs.any λp=>p.q (l.getD i 0))=q (l.getD i 0):=by rw[<-hQ]
   rw[hq]
   cases Dc:q (l.getD i 0) with
   |true=>simp +contextual only[go_sem];refine⟨Ji,i+1,⟨om,by rw[Aa,Jeu Ab Dc]⟩,om,sM,?_⟩;simp[forget]
   |false=>simp +contextual only[go_sem];rw[Aa,Je6 Ab Dc]
  ·have d1:=dfF i l.length;simp +contextual only[go_sem,d1];rw[Aa,runE_end om]
end Go.Cm
end
section
open Go.Proofs Go.RowKit
namespace Go.Cm
theorem repL_eq (c:UInt8):∀n,Lib.repeatL [c] n=GJ n c
 |0=>rfl
 |n+1=>by
  have:=repL_eq c n;simp[Lib.repeatL,List.replicate_succ]at this|-
  first|exact this|(rw[this])
theorem cntL_eq (c:UInt8)(l:Lv):Lib.countByte l c=QD c l:=rfl
theorem cntB_le (c:UInt8)(l:Lv):QD c l<=l.length:=List.count_le_length
theorem repeatL (c:UInt8)(n:Nat)(hn:n<=1000000):Fn Ga 214 [S [c],.int .i64 n] (S (GJ n c)):=by
 intro E H;refine Qb λm w vs hs hv=>?_
 simp only[JX,rel]at hv;obtain⟨r,rs,e,rfl,r2,rs2,rfl,rfl,rfl⟩:=hv;have BK:vs=#[.string ⟨⟨[c]⟩⟩,.int .i64 n]:=by cases vs;simp_all
 subst BK;refine⟨_,Tryz.strings_Repeat ⟨⟨[c]⟩⟩ n w om ?_,?_⟩
 ·simp[S_size];omega
 ·rw[repL_eq];rfl
theorem countL (l:Lv)(c:UInt8):Fn Ga 215 [S l,S [c]] (.int .i64 (QD c l)):=by
 intro E H;refine Qb λm w vs hs hv=>?_
 simp only[JX,rel]at hv;obtain⟨r,rs,e,rfl,r2,rs2,rfl,rfl,rfl⟩:=hv;have BK:vs=#[.string ⟨⟨l⟩⟩,.string ⟨#[c]⟩]:=by cases vs;simp_all
 subst BK;refine⟨_,(Tryz.strings_Count_one ⟨⟨l⟩⟩ c w).mono λe w' ⟨h1,h2⟩=>⟨h1,by rw[h2];exact Below.refl _ _⟩,?_⟩;rw[cntL_eq];rfl
end Go.Cm
end
section
open Go.Shelf Go.RowKit Go.Proofs
namespace Go.Proofs
theorem Tryz.tab_of {w:World}(h:Go.Cm.GLw w):Lib.TabIs Ga w "internal/strconv.uint64pow10" .u64 Lib.pow10Tab:=by
 obtain⟨_,⟨e,q,h1⟩,_⟩:=h
 have hg:Ga.globalNamed "internal/strconv.uint64pow10" = some Go.Cm.gTab:=by kernel_rfl
 simp only[show Go.Cm.gTab<Go.Cm.gN by decide,if_true]at h1;simp only[Lib.TabIs,World.var?,hg,GM,h1]
theorem Tryz.err_of {w:World}(h:Go.Cm.GLw w){B:Nat}(hB:B∈Go.Cm.gErr):∃te pe,w.cell? ⟨B,0,none⟩=some (.iface te pe):=by
 obtain⟨te,pe,e,q,h1⟩:=h.2.2 B hB;have Ab:B<Go.Cm.gN:=by
  have:∀x∈Go.Cm.gErr,x<Go.Cm.gN:=by decide
  exact this B hB
 simp only[if_pos Ab]at h1;exact⟨te,pe,by simp[World.cell?,h1]⟩
theorem Tryz.GLw_below {w w':World}(h:Go.Cm.GLw w)(hb:Below w.heap.size w w'):Go.Cm.GLw w':=h.mono λB hB=>hb.block B (h.lt hB)
open Go.Cm in
set_option maxHeartbeats 4000000 in
set_option maxRecDepth 100000 in
theorem Tryz.isNumber_walk (l:List UInt8)(hd:l.all XG=true)(Ag:l≠[])(hl:l.length<=1000000)(w:World)(hg:GLw w) :
  Calls Ga 269 #[.string ⟨⟨l⟩⟩] w λe w'=>e=.returned (.bool (Jcy l))/\Below w.heap.size w w':=by
 have hat:=atoi_digits l hd Ag;have jE:=digits_back _ l rfl hd Ag;by_cases hr:Jdj l<9223372036854775808
 ·rw[if_pos hr]at hat;have Aq:Jcy l=(decide (Jdj l<=1000000000) && (Lib.decDigits (Jdj l) == l)):=by
   unfold Jcy
   congr 1
   rw[Gg];simp only[decide_eq_true_eq,beq_iff_eq];exact jE.symm
  rw[Aq];generalize Jdj l=v at hat hr;have grow_below:∀(w:World) (k:Nat) (os:Array Obj),Below w.heap.size w (Go.Sort.grow (w.drewN k) os):=λw k os=>
   ⟨rfl,rfl,rfl,by simp[Go.Sort.grow,World.drewN],λi hi=>by simp only[Go.Sort.grow,World.drewN];rw[Array.getElem?_append_left hi]⟩
  by_cases hv:v<=1000000000
  ·rw[decide_eq_true hv,Bool.true_and];have d2:((v:Int)<=1000000000):=by omega
   go_enter Tryz.func269,Tryz.ntmps269
   go_wp2_with (go_at_call 275;refine(Tryz.strconv_Atoi_ok ⟨⟨l⟩⟩ (by simp[ByteArray.size];omega) v hat _).mono ?_;rintro e W1 ⟨rfl,hW⟩)
   have IG:Below w.heap.size w W1:=by
    rcases hW with rfl|⟨t,rfl⟩
    ·exact Below.refl _ _
    ·exact Lib.bytesWorld_below _ _ _
   have Ii:=Tryz.GLw_below hg IG;clear hW
   go_wp2_with (go_at_call 276;refine(Tryz.strconv_Itoa (v:Int) (by omega) (by omega) _ (Tryz.tab_of Ii)).mono ?_;rintro e W2 ⟨rfl,k,os,rfl⟩)
   rw[Lib.itoa_nonneg];have Cb:=grow_below W1 k os;generalize Go.Sort.grow (W1.drewN k) os=W2 at Cb|-
   go_wp2
   go_ret
   refine⟨?_,IG.trans (Cb.mono IG.size)⟩
   congr 2
  ·rw[decide_eq_false hv,GU];have d2:¬((v:Int)<=1000000000):=by omega
   go_enter Tryz.func269,Tryz.ntmps269
   go_wp2_with (go_at_call 275;refine(Tryz.strconv_Atoi_ok ⟨⟨l⟩⟩ (by simp[ByteArray.size];omega) v hat _).mono ?_;rintro e W1 ⟨rfl,hW⟩)
   have IG:Below w.heap.size w W1:=by
    rcases hW with rfl|⟨t,rfl⟩
    ·exact Below.refl _ _
    ·exact Lib.bytesWorld_below _ _ _
   clear hW
   go_wp2
   go_ret
   exact⟨rfl,IG⟩
 ·rw[if_neg hr]at hat;have Aq:Jcy l=false:=by unfold Jcy;rw[decide_eq_false (by omega)];rfl
  rw[Aq];obtain⟨te,pe,jC⟩:=Tryz.err_of hg (B:=2) (by decide)
  go_enter Tryz.func269,Tryz.ntmps269
  go_wp2_with (go_at_call 275;refine(Tryz.strconv_Atoi_range ⟨⟨l⟩⟩ (by simp[ByteArray.size];omega) hat _ _ jC (.inr ⟨te,pe,rfl⟩)).mono ?_;rintro e W1 ⟨N,rfl,ZA,lI,IG⟩)
  go_wp2
  go_ret
  exact⟨rfl,IG⟩
end Go.Proofs
namespace Go.Cm
theorem isNumberL (l:Lv)(hd:l.all XG=true)(Ag:l≠[])(hl:l.length<=1000000):Fn Ga 269 [S l] (.bool (Jcy l)):=by
 intro E H;refine Qb λm w vs hs hv=>?_
 simp only[JX,rel]at hv;obtain⟨r,rs,e,rfl,rfl⟩:=hv;have BK:vs=#[.string ⟨⟨l⟩⟩]:=by cases vs;simp_all
 subst BK;exact⟨_,Tryz.isNumber_walk l hd Ag hl w hs.gl.1,rfl⟩
end Go.Cm
end
section
set_option maxRecDepth 100000
set_option maxHeartbeats 20000000
open Go.Proofs
namespace Go.Cm
variable {l:LQ}{a i:Nat}{q:UInt8->Bool}
def Qp (c:UInt8):Bool:=isLt c || XG c
theorem any_ld:(λc:UInt8=>[qLt,qDg].any λp=>p.q c)=Qp:=by funext c;simp[qLt,qDg,Qp]
theorem any_d:(λc:UInt8=>[qDg].any λp=>p.q c)=XG:=by funext c;simp[qDg]
def kws:LQ:=[[97,110,100],[97,114,114,97,121],[98,111,111,108],[98,121],[100,101,102],[100,111],[101,108,115,101],[101,109,112,116,121],[102,97,108,115,101],[103,105,118,101],[104,101,97,100],[105,102],[105,110],[105,110,116],[108,111,111,112],[110,101,120,116],[110,105,108],[110,111,116],[111,114],[115,105,122,101],[115,116,114,101,97,109],[116,97,105,108],[116,114,117,101],[119,104,105,108,101]]
def sgs:LQ:=[[58,58],[58,61],[45,62],[46,46],[61,61],[33,61],[60,61],[62,61],[60],[62],[61],[43],[45],[42],[47],[37],[35],[40],[41],[91],[93],[123],[125],[44],[59],[58]]
def sz (l:LQ):LM:=l.map λs=>[S s]
theorem Jcl:(sz l).length=l.length:=by simp[sz]
theorem sz_get(h:i<l.length):(sz l).getD i []=[S (l.getD i [])]:=by simp[sz,Gb,Gc h]
theorem Jf7:Fn Ga 162 [] (.rslc 1 (sz kws) none):=by refine Jg8 (J8 c162_ok λN=>?_) rfl;simp only[c162,go_sem];exact⟨_,_,_,_,_,rfl,rfl,vk,rfl,vM⟩
theorem apiSigns:Fn Ga 187 [] (.rslc 1 (sz sgs) none):=by refine Jg8 (J8 c187_ok λN=>?_) rfl;simp only[c187,go_sem];exact⟨_,_,_,_,_,rfl,rfl,vk,rfl,vM⟩
theorem Jg3 (l p:Lv):Fn Ga 168 [S l,S p] (.bool (l.take p.length == p)):=by
 refine Jc c168_ok rfl rfl λN=>?_
 simp +contextual only[c168,go_sem];refine⟨λh=>om,λh=>?_⟩
 congr 1
 symm
 rw[beq_eq_false_iff_ne];intro e;have:=congrArg Gw e;simp at this;omega
theorem hasPrefix (l p:Lv):Fn Ga 234 [S l,S p] (.bool (l.take p.length == p)):=by
 refine Jc c234_ok rfl rfl λN=>?_
 simp +contextual only[c234,go_sem];refine Kk (Jg3 _ _) ?_;simp +contextual only[go_sem]
theorem S_beq (l m:Lv):((⟨⟨l⟩⟩:ByteArray) == ⟨⟨m⟩⟩)=(l == m):=by rw[beq_toListBytes];simp
def kwm (l:LQ):List (CV×CV):=l.map λs=>(S s,.bool true)
theorem kw_new{s:Lv}(h:s∉l):∀i,Q5 .str (S s) (kwm l) i=some none:=by
 induction l with
 |nil=>intro i;rfl
 |cons a l ih=>
  intro i;simp only[GK,not_or]at h;have e:Ja9 .str (S s) (S a)=some false:=by
   simp only[Ja9,S_beq]
   congr 1
   rw[beq_eq_false_iff_ne];exact h.1
  simp only[kwm,Gh,Q5,e];exact ih h.2 (i+1)
theorem kw_old{s:Lv}(h:s∈l):∀i,∃j,Q5 .str (S s) (kwm l) i=some (some (j,.bool true)):=by
 induction l with
 |nil=>cases h
 |cons a l ih=>
  intro i;by_cases ha:s=a
  ·subst ha;have e:Ja9 .str (S s) (S s)=some true:=by simp[Ja9,S_beq]
   exact⟨i,by simp only[kwm,Gh,Q5,e]⟩
  ·have hm:s∈l:=(GK.1 h).elim (λh=>absurd h ha) id
   have e:Ja9 .str (S s) (S a)=some false:=by
    simp only[Ja9,S_beq]
    congr 1
    rw[beq_eq_false_iff_ne];exact ha
   obtain⟨j,hj⟩:=ih hm (i+1);exact⟨j,by simp only[kwm,Gh,Q5,e];exact hj⟩
theorem kw_take_all:∀i:Fin 24,kws.getD i []∉kws.take i:=vM
theorem kw_take(h:i<kws.length):kws.getD i []∉kws.take i:=kw_take_all ⟨i,h⟩
theorem keywords {E:Env}{H:Lt}:CallsC Ga E 268 [] H λv H'=>v=.map H.length/\H'=H++[.map (kwm kws)]:=by
 refine J8 c268_ok λN=>?_
 simp +contextual only[c268,go_sem];refine Kk Jf7 ?_;simp +contextual only[go_sem,Jcl];refine JO (I:=λi:Nat=>i<=kws.length) (inv:=λi=>gp [(1,.map H.length),(3,.rslc 1 (sz kws) none),(0,.int .i64 kws.length),(0,.int .i64 i)] 7) (hp:=λi=>H++[.map (kwm (kws.take i))]) (μ:=λi=>kws.length-i) 0 om ?_ rfl ?_
 ·simp[forget,gp]
 ·intro i hi;simp +contextual only[go_sem,Jcl];refine⟨λh=>?_,λh=>?_⟩
  ·have Ab:i<kws.length:=om
   rw[sz_get Ab];have hn:=kw_new (kw_take Ab) 0;have hs:kws.take (i+1)=kws.take i++[kws.getD i []]:=by rw[Gm Ab,Gb,Gc Ab];rfl
   refine anO ?_;simp +contextual only[go_sem,hn];have Aw:kws.length=24:=rfl;refine⟨Ji,i+1,om,om,?_,?_⟩
   ·rw[hs];simp[kwm]
   ·simp[forget]
  ·have:i=kws.length:=om
   subst this;rw[Gj]
def sgnF (r:Lv):LQ->Lv->Lv
 |[],b=>b
 |s::l,b=>sgnF r l (if r.take s.length=s/\b.length<s.length then s else b)
def sgnL (r:Lv):Lv:=sgnF r sgs []
def cut (l:Lv)(a b:Nat):Lv:=(l.take b).drop a
def tkL (l:Lv)(a:Nat):Nat×Lv×Bool:=
 if isLt (l.getD a 0)=true then
  (if kws.contains (cut l a (Xr Qp l a))=true then(1,cut l a (Xr Qp l a),true) else(2,cut l a (Xr Qp l a),decide ((cut l a (Xr Qp l a)).length<=12)))
 else if XG (l.getD a 0)=true then(3,cut l a (Xr XG l a),Jcy (cut l a (Xr XG l a)))
 else(4,sgnL (l.drop a),!(sgnL (l.drop a) == []))
def lxz (k:Nat)(x:Lv)(a:Int):Ls:=[.int .u8 k,S x,.int .i64 a]
def tkV (a:Nat)(t:Nat×Lv×Bool):CV:=.tup [.agg (lxz t.1 t.2.1 a),.bool t.2.2]
theorem JbK {l:Lv}{b:Nat}(h1:a<=b)(h2:b<=l.length):(cut l a b).length=b-a:=by simp[cut];omega
theorem Jct{l:Lv}(h:a<l.length)(hq:q (l.getD a 0)=true):a<Xr q l a:=by rw[Jeu h hq];unfold Xr;omega
theorem run_all{l:Lv}(ha:a<=l.length):(cut l a (Xr q l a)).all q=true:=by
 have e:cut l a (Xr q l a)=(l.drop a).takeWhile q:=by unfold cut Xr;rw[List.drop_take,Nat.add_sub_cancel_left];exact(GV.1 (GX q)).symm
 rw[e];exact G5
theorem sgnF_len {r:Lv}:∀(L:LQ) (b:Lv),b.length<=2->(∀s∈L,s.length<=2)->(sgnF r L b).length<=2
 |[],b,h,_=>h
 |s::L,b,h,hL=>by
  simp only[sgnF];refine sgnF_len L _ ?_ (λx hx=>hL x (by simp[hx]))
  split
  ·exact hL s sM
  ·exact h
theorem sgs_len:∀s∈sgs,s.length<=2:=vM
theorem tokenL (l:Lv)(a:Nat)(ha:a<l.length)(hl:l.length<=1000000):Fn Ga 253 [S l,.int .i64 (a:Int)] (tkV a (tkL l a)):=by
 refine Jc c253_ok rfl rfl λN=>?_
 simp +contextual only[c253,go_sem];refine anO ?_;refine Kk (Jft _) ?_;by_cases h1:isLt (l.getD a 0)=true
 ·have hE:=Jak (q:=Qp) (Gl ha);have Cn:a<=Xr Qp l a:=by unfold Xr;omega
  simp +contextual only[go_sem,h1];refine Je (id:=1) (z:=1) (els:=[[.fn 265 [] []],[.fn 267 [] []]]) rfl rfl ?_;simp only[go_sem,JV,Kv,frz,Qj];have R4:∀p∈[qLt,qDg],Jim p:=by
   intro p hp;rcases GK.1 hp with rfl|hp
   ·exact qLt_ok
   ·rw[GZ.1 hp];exact qDg_ok
  have Ai:=lexRun l a [qLt,qDg] none R4 sM hl (Gl ha);rw[any_ld,show fnz [qLt,qDg]=[[.fn 265 [] []],[.fn 267 [] []]] from rfl]at Ai;refine Kk Ai ?_;simp +contextual only[go_sem];refine anO ?_;have CE:(l.take (Xr Qp l a)).drop a=cut l a (Xr Qp l a):=rfl;simp only[CE];have hT:tkL l a=if kws.contains (cut l a (Xr Qp l a))=true then(1,cut l a (Xr Qp l a),true) else(2,cut l a (Xr Qp l a),decide ((cut l a (Xr Qp l a)).length<=12)):=by unfold tkL;rw[if_pos h1]
  rw[hT];generalize cut l a (Xr Qp l a)=x;obtain⟨r,hr,UL⟩:∃r,Q5 .str (S x) (kwm kws) 0=some r/\(match r with|some (_,v)=>v|none=>CV.bool false)=.bool (kws.contains x):=by
   by_cases hm:x∈kws
   ·obtain⟨j,hj⟩:=kw_old hm 0;exact⟨_,hj,by simp[hm]⟩
   ·exact⟨_,kw_new hm 0,by simp[hm]⟩
  refine JbR [(.on [0],.on [0,3]),Foot.no,(.on [1],.on []),Foot.any] Jr vM ?_;refine⟨_,_,hs_new (mk:=.map) rfl (λH2=>keywords),?_⟩;refine⟨_,_,Jan rfl rfl trivial,?_⟩;refine⟨_,_,hs_ld (id:=0) (i:=0) (off:=1) rfl rfl (by simp[Cond.holds]),?_⟩;refine⟨.bool (kws.contains x),[CObj.arr 3 [[.int .u8 0,S x,.int .i64 a]],.dead,.map (kwm kws)],hs_any (c:=.tt) (.inl rfl) ?_ trivial,?_⟩
  ·simp only[go_sem,hr]
   cases r with
   |none=>simp only at UL|-;rw[UL]
   |some p=>simp only at UL|-;rw[UL]
  ·simp only[vdf,put_some]
   cases hk:kws.contains x with
   |true=>simp +contextual only[go_sem,tkV,lxz];rfl
   |false=>have e12:decide ((x.length:Int)<=12)=decide (x.length<=12):=decide_eq_decide.2 om;simp +contextual only[go_sem,tkV,lxz,e12];rfl
 ·by_cases h2:XG (l.getD a 0)=true
  ·have DU:isLt (l.getD a 0)=false:=by simpa using h1
   have hE:=Jak (q:=XG) (Gl ha);have Cn:=Jct (q:=XG) ha h2;have Ak:=run_all (q:=XG) (Gl ha);have Ar:=JbK (Gl Cn) hE;have hT:tkL l a=(3,cut l a (Xr XG l a),Jcy (cut l a (Xr XG l a))):=by unfold tkL;rw[if_neg h1,if_pos h2]
   rw[hT];simp +contextual only[go_sem,DU];refine anO ?_;refine Kk (JdJ _) ?_;simp +contextual only[go_sem,h2];have R4:∀p∈[qDg],Jim p:=by intro p hp;rw[GZ.1 hp];exact qDg_ok
   have Ai:=lexRun l a [qDg] none R4 sM hl (Gl ha);rw[any_d,show fnz [qDg]=[[.fn 267 [] []]] from rfl]at Ai;refine Xz [false,false,false,false,false,false,false,false,true,false,true] Jr vM ?_;simp +contextual only[go_sem];refine JcJ [[.fn 267 [] []]] rfl rfl rfl rfl ?_;simp +contextual only[go_sem];refine vh_f Ai ?_;simp +contextual only[go_sem];refine vh_all (S (cut l a (Xr XG l a))) (λH2=>by simp only[go_sem];rfl) (by simp only[Cond.holds];exact⟨om,om,by show ((Xr XG l a:Nat):Int)<=((l.length:Nat):Int);omega⟩) ?_;simp +contextual only[go_sem];generalize hx:cut l a (Xr XG l a)=x at Ak Ar|-;have Pd:=isNumberL x Ak (by intro e;rw[e]at Ar;simp at Ar;omega) om;refine JbR [(.on [1],.on []),Foot.no,(.on [1],.on []),Foot.no,Foot.any,Foot.no] Jr vM ?_;refine⟨_,_,hs_ld (id:=0) (i:=0) (off:=0) rfl rfl ⟨Gi 1,Gi 3⟩,_,_,hs_all (λ_=>rfl) trivial,_,_,hs_ld (id:=0) (i:=0) (off:=1) rfl rfl ⟨Gi 1,(by decide:2<=3)⟩,_,_,hs_f (.inl rfl) Pd,_,_,hs_any (.inl rfl) rfl ⟨Gi 1,Gi 3⟩,_,_,hs_all (λ_=>rfl) trivial,?_⟩;simp +contextual only[vdf,go_sem,tkV,lxz,splice];rfl
  ·have DU:isLt (l.getD a 0)=false:=by simpa using h1
   have F3:XG (l.getD a 0)=false:=by simpa using h2
   have hT:tkL l a=(4,sgnL (l.drop a),!(sgnL (l.drop a) == [])):=by unfold tkL;rw[if_neg h1,if_neg h2]
   rw[hT];simp +contextual only[go_sem,DU];refine anO ?_;refine Kk (JdJ _) ?_;simp +contextual only[go_sem,F3];refine Kk apiSigns ?_;simp +contextual only[go_sem,Jcl];have CL:sgs.length=26:=rfl;refine JO (σ:=Nat×Lv) (I:=λs=>s.1<=sgs.length/\sgnL (l.drop a)=sgnF (l.drop a) (sgs.drop s.1) s.2) (inv:=λs=>gp [(0,S l),(0,.int .i64 (a:Int)),(2,.ptr 0 0 0),(49,.rslc 1 (sz sgs) none),(0,.int .i64 sgs.length),(0,.int .i64 s.1)] 23) (hp:=λs=>[.arr 3 [lxz 4 s.2 a]]) (μ:=λs=>sgs.length-s.1) (0,[]) ⟨om,rfl⟩ ?_ rfl ?_
   ·simp[forget,gp]
   ·rintro⟨i,b⟩ ⟨hi,Aa⟩;simp only at hi Aa;simp +contextual only[go_sem,Jcl,lxz];refine⟨λh=>?_,λh=>?_⟩
    ·have Ab:i<sgs.length:=om
     rw[sz_get Ab];rw[Gr Ab,sgnF]at Aa;rw[show sgs.getD i []=sgs[i] by rw[Gb,Gc Ab];rfl];generalize sgs[i]=s at Aa|-;refine anO ?_;simp +contextual only[go_sem];refine anO ?_;have F9:(l.take l.length).drop a=l.drop a:=by rw[Gj]
     simp only[F9];refine Kk (hasPrefix (l.drop a) s) ?_;simp +contextual only[go_sem];by_cases hp:(l.drop a).take s.length=s
     ·have e1:((l.drop a).take s.length == s)=true:=beq_iff_eq.2 hp;by_cases hb:b.length<s.length
      ·have d1:=dtT b.length s.length;rw[if_pos ⟨hp,hb⟩]at Aa;simp +contextual only[go_sem,e1,d1];refine⟨Ji,(i+1,s),⟨by simp only;omega,Aa⟩,by simp only;omega,rfl,?_⟩;simp[forget]
      ·have d1:=dfF b.length s.length;rw[if_neg (λh=>hb h.2)]at Aa;simp +contextual only[go_sem,e1,d1];refine⟨Ji,(i+1,b),⟨by simp only;omega,Aa⟩,by simp only;omega,rfl,?_⟩;simp[forget]
     ·have e1:((l.drop a).take s.length == s)=false:=beq_eq_false_iff_ne.2 hp;rw[if_neg (λh=>hp h.1)]at Aa;simp +contextual only[go_sem,e1];refine⟨Ji,(i+1,b),⟨by simp only;omega,Aa⟩,by simp only;omega,rfl,?_⟩;simp[forget]
    ·have:i=sgs.length:=om
     subst this;rw[List.drop_length]at Aa;rw[Aa];simp +contextual only[go_sem,tkV,lxz,sgnF]
def knd (l:Lv):Option Nat:=
 if l=[] then none else if isGp (l.getD 0 0)=true then none
 else if (tkL l 0).2.2=true/\(tkL l 0).2.1=l then some (tkL l 0).1 else none
def kndV:Option Nat->CV
 |some k=>.tup [.int .u8 k,.int .i64 0]
 |none=>.tup [.int .u8 0,.int .i64 4]
theorem lexKind (l:Lv)(hl:l.length<=1000000):Fn Ga 241 [S l] (kndV (knd l)):=by
 refine Jc c241_ok rfl (by unfold kndV;split <;> rfl) λN=>?_
 by_cases h0:l=[]
 ·have e0:(l == [])=true:=beq_iff_eq.2 h0;have hk:knd l=none:=by unfold knd;rw[if_pos h0]
  rw[hk];simp +contextual only[c241,go_sem,e0,kndV]
 ·have e0:(l == [])=false:=beq_eq_false_iff_ne.2 h0;have Du:0<l.length:=List.length_pos_iff.2 h0;simp +contextual only[c241,go_sem,e0];refine anO ?_;refine Kt (gok rfl) (lexIsGap _) ?_
  cases h1:isGp (l.getD 0 0) with
  |true=>
   have hk:knd l=none:=by unfold knd;rw[if_neg h0,if_pos h1]
   rw[hk];simp +contextual only[go_sem,kndV]
  |false=>
   simp +contextual only[go_sem];refine Kk (tokenL l 0 Du hl) ?_;unfold tkV;have hk:knd l=if (tkL l 0).2.2=true/\(tkL l 0).2.1=l then some (tkL l 0).1 else none:=by unfold knd;rw[if_neg h0,if_neg (by rw[h1];simp)]
   rw[hk];obtain⟨k,x,b⟩:=tkL l 0;simp +contextual only[go_sem,lxz,splice]
   cases b with
   |false=>simp +contextual only[go_sem];simp[kndV]
   |true=>
    by_cases hx:x=l
    ·have ex:(x == l)=true:=beq_iff_eq.2 hx;simp +contextual only[go_sem,ex];simp[kndV,hx]
    ·have ex:(x == l)=false:=beq_eq_false_iff_ne.2 hx;simp +contextual only[go_sem,ex];simp[kndV,hx]
def Jel (l:Lv):Bool:=isLt (l.getD 0 0) && l.all Qp && !kws.contains l && decide (l.length<=12) && !(l == [])
theorem JcT{l:Lv}:cut l 0 (Xr q l 0)=l↔l.all q=true:=by
 have e:cut l 0 (Xr q l 0)=l.takeWhile q:=by unfold cut Xr;simp only[List.drop_zero,GD];exact(GV.1 (GX q)).symm
 rw[e]
 constructor
 ·intro h;rw[<-h];exact G5
 ·intro h;have:∀l:Lv,l.all q=true->l.takeWhile q=l:=by
   intro l
   induction l with
   |nil=>intro _;rfl
   |cons a l ih=>intro h;simp only[List.all_cons,Gq]at h;rw[GG,if_pos h.1,ih h.2]
  exact this l h
theorem lt_gp {c:UInt8}(h:isLt c=true):isGp c=false:=by simp only[isLt,Gq,decide_eq_true_eq]at h;simp only[isGp,isBk,GR,beq_eq_false_iff_ne];refine⟨⟨?_,?_⟩,?_⟩ <;> (rintro rfl;revert h;decide)
theorem knd_name (l:Lv):(knd l == some 2)=Jel l:=by
 rw[Gg,beq_iff_eq];unfold knd Jel;by_cases h0:l=[]
 ·simp[h0]
 rw[if_neg h0];by_cases h1:isLt (l.getD 0 0)=true
 ·have hg:=lt_gp h1;rw[if_neg (by rw[hg];simp)];have hT:tkL l 0=if kws.contains (cut l 0 (Xr Qp l 0))=true then(1,cut l 0 (Xr Qp l 0),true) else(2,cut l 0 (Xr Qp l 0),decide ((cut l 0 (Xr Qp l 0)).length<=12)):=by unfold tkL;rw[if_pos h1]
  by_cases hf:cut l 0 (Xr Qp l 0)=l
  ·rw[hf]at hT;have ha:=JcT.1 hf;rw[hT,h1]
   cases hk:kws.contains l <;> simp[h0,ha]
  ·have ha:l.all Qp=false:=by
    cases h:l.all Qp with
    |false=>rfl
    |true=>exact absurd (JcT.2 h) hf
   rw[hT]
   cases hk:kws.contains (cut l 0 (Xr Qp l 0)) <;> simp[hf,ha]
 ·have DU:isLt (l.getD 0 0)=false:=by simpa using h1
  rw[DU];simp only[GU,Bool.false_eq_true,iff_false]
  split
  ·simp
  ·split
   ·unfold tkL;rw[if_neg h1]
    split <;> simp
   ·simp
theorem isNameW (l:Lv)(hl:l.length<=1000000):Fn Ga 216 [S l] (.bool (Jel l)):=by
 refine Jc c216_ok rfl rfl λN=>?_
 simp +contextual only[c216,go_sem];refine Kk (lexKind l hl) ?_;rw[<-knd_name]
 cases h:knd l with
 |none=>simp +contextual only[go_sem,kndV];rfl
 |some k=>
  simp +contextual only[go_sem,kndV]
  congr 1
  rw[Gg];simp;omega
theorem within (a b n:Int):Fn Ga 196 [.int .i64 a,.int .i64 b,.int .i64 n] (.bool (inI a b n)):=by
 refine Jc c196_ok rfl rfl λN=>?_
 simp +contextual only[c196,go_sem,inI]
def cntdV (k:Nat):CV:=if k=40 then .tup [S [83],.bool true] else if k=41 then .tup [S [98],.bool true] else if k=28 then .tup [S [73],.bool true] else if k=65 then .tup [S [80],.bool true] else .tup [S [],.bool false]
theorem counted (k:Nat):Fn Ga 217 [.int .u8 k] (cntdV k):=by
 unfold cntdV
 split
 ·subst_vars
  refine Jc c217_ok rfl rfl λN=>?_
  simp +contextual only[c217,go_sem,Gd]
 ·rename_i D8;have e40:=kb (m:=40) D8;simp only[Gd]at e40
  split
  ·subst_vars
   refine Jc c217_ok rfl rfl λN=>?_
   simp +contextual only[c217,go_sem,Gd]
  ·rename_i AQ;have e41:=kb (m:=41) AQ;simp only[Gd]at e41
   split
   ·subst_vars
    refine Jc c217_ok rfl rfl λN=>?_
    simp +contextual only[c217,go_sem,Gd]
   ·rename_i DI;have e28:=kb (m:=28) DI;simp only[Gd]at e28
    split
    ·subst_vars
     refine Jc c217_ok rfl rfl λN=>?_
     simp +contextual only[c217,go_sem,Gd]
    ·rename_i BI;have e65:=kb (m:=65) BI;simp only[Gd]at e65;refine Jc c217_ok rfl rfl λN=>?_
     simp +contextual only[c217,go_sem,e40,e41,e28,e65]
theorem many1 (c:UInt8)(hv:Lv)(hl:hv.length<=1000):Fn Ga 213 [S [c],.rptr [S hv]] (S (GJ (QD c hv) c)):=by
 refine Jc c213_ok rfl rfl λN=>?_
 simp +contextual only[c213,go_sem];refine Kk (countL hv c) ?_;simp +contextual only[go_sem];refine Kk (repeatL c (QD c hv) (by have:=cntB_le c hv;omega)) ?_;simp +contextual only[go_sem]
theorem many2 (c:UInt8)(a b:Int)(hv:Lv):Fn Ga 218 [S [c],.int .i64 a,.int .i64 b,.rptr [S hv]] (.bool (inI a b (QD c hv))):=by
 refine Jc c218_ok rfl rfl λN=>?_
 simp +contextual only[c218,go_sem];refine Kk (countL hv c) ?_;simp +contextual only[go_sem];refine Kk (within _ _ _) ?_;simp +contextual only[go_sem]
theorem expectedL (x:Nd)(hv:Lv)(hl:hv.length<=1000):Fn Ga 195 [.agg x.cv,S hv] (S (Qo x.k hv)):=by
 obtain⟨k,text,n,kids,pl⟩:=x;have EH:=λc=>cntB_le c hv
 simp only[Nd.cv];by_cases hA:4<=k/\k<=24
 ·have f1:((4:Int)<=(k:Int))=True:=KQ;by_cases hB:k<=18
  ·have f2:((k:Int)<=18)=True:=KQ;rw[show Qo k hv=[101,101] by simp only[Qo];rw[if_pos om]];refine fcS c195_ok λN=>?_
   simp (maxSteps:=2000000) -implicitDefEqProofs only[c195,go_sem,f1,f2]
  ·have f2:((k:Int)<=18)=False:=Kq;have f3:((19:Int)<=(k:Int))=True:=KQ;have f4:((k:Int)<=24)=True:=KQ;rw[show Qo k hv=[101] by simp only[Qo];rw[if_neg om,iP7]];refine fcS c195_ok λN=>?_
   simp (maxSteps:=2000000) -implicitDefEqProofs only[c195,go_sem,f1,f2,f3,f4]
 by_cases hC:k=42
 ·subst hC;have e1:(([]:Lv) == [])=true:=rfl;have e2:∀(a:UInt8) l,(a::l == [])=false:=λ_ _=>rfl
  cases hv <;> (refine fcS c195_ok λN=>?_;simp (maxSteps:=2000000) -implicitDefEqProofs only[c195,go_sem,Gd,e1,e2];simp[Qo])
 by_cases hD:k=43\/k=44\/k=25\/k=62\/k=63\/k=64\/k=26\/k=45\/k=27\/k=28\/k=29\/k=40\/k=41\/k=46\/k=47\/k=65
 rotate_left
 ·simp only[not_or]at hD;rw[show Qo k hv=[] by simp only[Qo];repeat rw[if_neg (by first|omega|exact λh=>hC h.1)]];have f2:((k:Int)<=18)=(k<4):=propext om;have f3:((4:Int)<=(k:Int))=¬k<4:=propext om;have f4:((19:Int)<=(k:Int))=¬k<4:=propext om;have f5:((k:Int)<=24)=(k<4):=propext om;by_cases h4:k<4 <;> (refine fcS c195_ok λN=>?_;simp (maxSteps:=2000000) -implicitDefEqProofs only[c195,go_sem,f2,f3,f4,f5,h4,kbo,hD,hC,not_true_eq_false,not_false_eq_true])
 rcases hD with rfl|rfl|rfl|rfl|rfl|rfl|rfl|rfl|rfl|rfl|rfl|rfl|rfl|rfl|rfl|rfl <;> (
  refine fcS c195_ok λN=>?_
  repeat first
   |refine Je (id:=1) (z:=1) (els:=[[S hv]]) rfl rfl ?_;simp only[go_sem,Kv,frz,JV,Qj]
   |refine vr_fvS (l1:=[]) (l2:=[.rptr [S hv]]) (args:=[S [_]]) c213_ok nm (many1 _ hv hl) rfl rfl JfE ?_
   |refine⟨by have h1:=EH 73;have h2:=EH 83;have h3:=EH 78;have h4:=EH 99;have h5:=EH 101;have h6:=EH 98;have h7:=EH 80;have h8:=EH 116;simp;omega,?_⟩
   |simp (maxSteps:=2000000) -implicitDefEqProofs only[c195,go_sem,Gd,List.length_replicate]
  all_goals first|rfl|simp[Qo])
theorem sizedL (x:Nd)(hv:Lv):Fn Ga 198 [.agg x.cv,S hv] (.bool (Q9 x.k x.n hv)):=by
 obtain⟨k,text,n,kids,pl⟩:=x;simp only[Nd.cv];by_cases hD:k=65\/k=26\/k=40\/k=45\/k=41\/k=28\/k=29\/k=48\/k=47
 rotate_left
 ·simp only[not_or]at hD;rw[show Q9 k n hv=true by simp only[Q9];repeat rw[if_neg om]];refine fcS c198_ok λN=>?_
  simp (maxSteps:=2000000) -implicitDefEqProofs only[c198,go_sem,kbo,hD,not_false_eq_true]
 rcases hD with rfl|rfl|rfl|rfl|rfl|rfl|rfl|rfl|rfl <;> (
  refine fcS c198_ok λN=>?_
  simp only[Q9]
  repeat first
   |refine Je (id:=1) (z:=1) (els:=[[S hv]]) rfl rfl ?_;simp only[go_sem,Kv,frz,JV,Qj]
   |refine vr_fvSB (l1:=[]) (l2:=[.rptr [S hv]]) (args:=[S [_],.int .i64 _,.int .i64 _]) c218_ok nm (many2 _ _ _ hv) rfl rfl (by first|exact JfE|exact gokS rfl) (λB hb=>?_);try simp only[hb];clear hb;cases B
   |refine Jah (within 0 100 n) rfl (by first|exact JfE|exact gokS rfl) ?_
   |refine Jah (within 1 9 n) rfl JfE ?_
   |simp (maxSteps:=2000000) -implicitDefEqProofs only[c198,go_sem,Gd]
  all_goals simp)
def fldI (nmd:Bool)(k:Nat)(text:Lv)(n:Int)(hv:Lv):Bool:=Xl nmd k text && Xf k n hv
theorem fieldsL (x:Nd)(hv:Lv)(nmd:Bool)(hn:Fn Ga 216 [S x.text] (.bool nmd)):Fn Ga 197 [.agg x.cv,S hv] (.bool (fldI nmd x.k x.text x.n hv)):=by
 obtain⟨k,text,n,kids,pl⟩:=x;simp only at hn;simp only[Nd.cv];by_cases hC:(k=3\/k=26\/k=42\/k=43\/k=44\/k=47\/k=64\/k=65\/k=48\/k=40\/k=41\/k=28\/k=1\/k=2\/k=29)
 rotate_left
 ·rw[show fldI nmd k text n hv=(text == [] && n == 0) by simp only[fldI,Xl,Xf];repeat rw[if_neg om]];have hE:=counted k;rw[show cntdV k=.tup [S [],.bool false] by simp only[cntdV];repeat rw[if_neg om]]at hE;simp only[not_or]at hC;refine fcS c197_ok λN=>?_
  cases t1:text == [] <;> repeat first
   |simp (maxSteps:=2000000) -implicitDefEqProofs only[c197,go_sem,t1,kbo,hC,not_false_eq_true]
   |refine Jah hE rfl JfE ?_
 rcases hC with rfl|rfl|rfl|rfl|rfl|rfl|rfl|rfl|rfl|rfl|rfl|rfl|rfl|rfl|rfl <;> (
  refine fcS c197_ok λN=>?_
  simp only[fldI,Xl,Xf]
  repeat first
   |refine Jah hn rfl JfE ?_;cases nmd
   |refine Jah (within 0 1000000000 n) rfl JfE ?_
   |refine Jah (within 0 1 n) rfl JfE ?_
   |refine J3 Jr vk ?_
   |refine Kl (.inl rfl) (countL hv _) ?_
   |simp (maxSteps:=2000000) -implicitDefEqProofs only[c197,go_sem,Gd,cntdV,Nat.reduceEqDiff,if_true,if_false]
   |rcases GQ (text == []) with hb|hb <;> rw[hb]
   |rcases GQ (text == [35]) with hb|hb <;> rw[hb]
   |refine Jah (counted 3) rfl JfE ?_
   |refine Jah (counted 26) rfl JfE ?_
   |refine Jah (counted 42) rfl JfE ?_
   |refine Jah (counted 43) rfl JfE ?_
   |refine Jah (counted 44) rfl JfE ?_
   |refine Jah (counted 47) rfl JfE ?_
   |refine Jah (counted 64) rfl JfE ?_
   |refine Jah (counted 65) rfl JfE ?_
   |refine Jah (counted 48) rfl JfE ?_
   |refine Jah (counted 40) rfl JfE ?_
   |refine Jah (counted 41) rfl JfE ?_
   |refine Jah (counted 28) rfl JfE ?_
   |refine Jah (counted 1) rfl JfE ?_
   |refine Jah (counted 2) rfl JfE ?_
   |refine Jah (counted 29) rfl JfE ?_
  all_goals first|simp|simp_all)
end Go.Cm
end
section
open Go.Shelf Go.RowKit Go.Proofs
namespace Go.Cm
theorem letter_lt (k:Nat):letter k<256:=by
 unfold letter
 repeat' split
 all_goals omega
theorem fnSort (k:Nat)(hk:k<256):Fn Ga 194 [.int .u8 k] (.int .u8 (letter k)):=by
 refine Jc c194_ok rfl rfl λN=>?_
 rcases (show (1<=k/\k<=29)\/(60<=k/\k<=63)\/(30<=k/\k<=39)\/(49<=k/\k<=59)\/66<=k\/k=0\/k=46\/k=47\/k=40\/k=41\/k=42\/k=43\/k=44\/k=45\/k=48\/k=64\/k=65 by omega) with h|h|h|h|h|rfl|rfl|rfl|rfl|rfl|rfl|rfl|rfl|rfl|rfl|rfl|rfl
 ·have e:letter k=101:=by unfold letter;rw[if_pos h]
  simp only[c194,go_sem,e,show decide ((1:Int)<=(k:Int))=true from decide_eq_true om,show decide ((k:Int)<=29)=true from decide_eq_true om]
  first|done|rfl
 ·have e:letter k=116:=by unfold letter;rw[iN7,if_pos h]
  simp only[c194,go_sem,e,show decide ((1:Int)<=(k:Int))=true from decide_eq_true om,show decide ((k:Int)<=29)=false from decide_eq_false om,show decide ((60:Int)<=(k:Int))=true from decide_eq_true om,show decide ((k:Int)<=63)=true from decide_eq_true om]
  first|done|rfl
 ·have e:letter k=32:=by unfold letter;repeat rw[iN7]
  simp only[c194,go_sem,e,show decide ((1:Int)<=(k:Int))=true from decide_eq_true om,show decide ((k:Int)<=29)=false from decide_eq_false om,show decide ((60:Int)<=(k:Int))=false from decide_eq_false om,show decide ((40:Int)<=(k:Int))=false from decide_eq_false om,kbo (show ¬k=46 by omega),kbo (show ¬k=47 by omega),kbo (show ¬k=64 by omega),kbo (show ¬k=65 by omega)]
  first|done|rfl
 ·have e:letter k=32:=by unfold letter;repeat rw[iN7]
  simp only[c194,go_sem,e,show decide ((1:Int)<=(k:Int))=true from decide_eq_true om,show decide ((k:Int)<=29)=false from decide_eq_false om,show decide ((60:Int)<=(k:Int))=false from decide_eq_false om,show decide ((40:Int)<=(k:Int))=true from decide_eq_true om,show decide ((k:Int)<=48)=false from decide_eq_false om,kbo (show ¬k=46 by omega),kbo (show ¬k=47 by omega),kbo (show ¬k=64 by omega),kbo (show ¬k=65 by omega)]
  first|done|rfl
 ·have e:letter k=32:=by unfold letter;repeat rw[iN7]
  simp only[c194,go_sem,e,show decide ((1:Int)<=(k:Int))=true from decide_eq_true om,show decide ((k:Int)<=29)=false from decide_eq_false om,show decide ((60:Int)<=(k:Int))=true from decide_eq_true om,show decide ((k:Int)<=63)=false from decide_eq_false om,show decide ((40:Int)<=(k:Int))=true from decide_eq_true om,show decide ((k:Int)<=48)=false from decide_eq_false om,kbo (show ¬k=46 by omega),kbo (show ¬k=47 by omega),kbo (show ¬k=64 by omega),kbo (show ¬k=65 by omega)]
  first|done|rfl
 all_goals simp[c194,go_sem,letter] <;> exact⟨vk,vk⟩
theorem calls_of_fn {P:Program}{f:Nat}{args:Ls}{v:CV}(h:Fn P f args v)(hv:v.closed=true){w:World}{imm:Nat->Nat->LD}(M4:∀B i x,imm B i=some x->w.cell? ⟨B,i,none⟩=some x)(Bn:∀B i x,imm B i=some x->x.oneCell'=true){vs:LG}(BK:JX [] imm args vs.toList)(A7:GLw w) :
  Calls P f vs w λe w'=>(∃r imm',KN imm imm'/\rel [] imm' v r/\e=.returned r)/\Below w.heap.size w w':=by
 have hs:Sim Env.none { own:=[],imm:=imm,ext:=λ_=>False } [] w:=⟨rfl,sM,M4,Bn,sM,sM,sM,sM,λB h=>A7.lt (h.resolve_left id),A7,sM⟩;refine((h Env.none [] _ w vs hs BK).calls λk=>Je9 none k).mono ?_;rintro e w' ⟨r,m',v',H',rfl,Ae,AC,hrel,rfl,rfl⟩;have Ce:∀B,¬owned { own:=[],imm:=imm,ext:=λ_=>False } [] B:=by
  rintro B (h|⟨k,o,x,hk,_⟩)
  ·exact h
  ·simp at hk
 exact⟨⟨r,m'.imm,Ae.imm,Qx _ _ hv hrel,rfl⟩,Ae.same.1,Ae.same.2.2,Ae.same.2.1,Ae.size,λk hk=>Ae.frame k hk (Ce k)⟩
end Go.Cm
namespace Go.Proofs
def Tryz.bRen:Go.Shelf.Ren:=⟨λn=>if n=167 then 211 else Tryz.lays105_ren.f n,Tryz.lays105_ren.t,Tryz.lays105_ren.g⟩
theorem Tryz.bLays167:Lays.n167 Ga Tryz.bRen:={ Tryz.lays105 with f167:=Tryz.func211.trans (congrArg some (by kernel_rfl)) }
theorem Tryz.bLays169:Lays.n169 Ga Tryz.bRen:={ Tryz.lays105 with }
theorem Tryz.bExtra:Builder.Extra Ga Tryz.bRen:={
 sizeBuilder:=by kernel_rfl
 liesBuilder:=by kernel_rfl
 t5:=Tryz.underlying5
 a5:=Tryz.isAgg5
 z5:=Tryz.sizeOf5
 v5:=Tryz.zeroValue5
 infoByte:=by kernel_rfl
 cellsByte:=by kernel_rfl
 sizeByte:=by kernel_rfl
 neB5:=by decide }
theorem Tryz.WriteByte (B b:Nat)(bs:List Value)(c:Int)(w:World)(h:Lib.IsBuilder 205 5 B b bs w)(Ad:bs.length+1<=140737488355328)(dB:B<=w.heap.size) :
  Calls Ga 211 #[.pointer (some ⟨b,0,none⟩),.int .u8 c] w λe w'=>e=.returned .nilIface/\(Lib.BuilderAt 205 5 B b (.pointer (some ⟨b,0,none⟩)) (bs++[.int .u8 c]) w'/\Below B w w'):=
 Any.Builder_WriteByte Tryz.bLays167 Tryz.bExtra B b bs c w h Ad dB
theorem Tryz.BString (B b:Nat)(l:List UInt8)(w:World)(h:Lib.IsBuilder 205 5 B b (Lib.byteCells l) w)(dB:B<=w.heap.size) :
  Calls Ga 212 #[.pointer (some ⟨b,0,none⟩)] w λe w'=>e=.returned (.string ⟨l.toArray⟩)/\Below B w w':=
 Any.Builder_String_any Tryz.bLays169 Tryz.bExtra B b l w h dB
theorem Tryz.bat_below {T e:TypeId}{B b:Nat}{p:Value}{bs:List Value}{W W':World}(h:Lib.BuilderAt T e B b p bs W)(hb:Below W.heap.size W W'):Lib.BuilderAt T e B b p bs W':=by obtain⟨hB,v,hv,CW,Ag⟩:=h;have Ab:b<W.heap.size:=(Array.getElem?_eq_some_iff.1 hv).1;exact⟨hB,v,(hb.block b Ab).trans hv,CW.kept (row:=none) ⟨hb.os,hb.tape,hb.output,hb.size,λk hk _=>hb.block k hk⟩ (Classical.em _),Ag⟩
theorem Tryz.isb_below {T e:TypeId}{B b:Nat}{bs:List Value}{W W':World}(h:Lib.IsBuilder T e B b bs W)(hb:Below W.heap.size W W'):Lib.IsBuilder T e B b bs W':=h.elim (λx=>.inl (Tryz.bat_below x hb)) (λx=>.inr (Tryz.bat_below x hb))
theorem Tryz.cell_lt {w:World}{a:Addr}{v:Value}(h:w.cell? a=some v):a.block<w.heap.size:=by
 rcases Nat.lt_or_ge a.block w.heap.size with h'|h'
 ·exact h'
 ·rw[World.cell?,Array.getElem?_eq_none h']at h;simp at h
def Tryz.letters (ds:List Nat):List UInt8:=ds.map λd=>UInt8.ofNat (Go.Cm.letter d)
theorem Tryz.letters_take (ds:List Nat)(j d:Nat)(h:ds[j]? = some d):Tryz.letters (ds.take (j+1))=Tryz.letters (ds.take j)++[UInt8.ofNat (Go.Cm.letter d)]:=by rw[G6,h];simp[Tryz.letters]
open Go.Cm in
set_option maxHeartbeats 4000000 in
set_option maxRecDepth 100000 in
theorem Tryz.sorts_walk (np kp:Option Addr)(nl nc kl kc:Nat)(items n0 n1 n2 n4:Value)(ds:List Nat)(w:World)(jy:GLw w)(Bh:ds.length=kl)(DY:∀k∈ds,k<256)
  (Di:kl<140737488355328)
  (Bo:∀j d,ds[j]? = some d->∃bn no bk ko k,np=some ⟨bn,no,none⟩/\kp=some ⟨bk,ko,none⟩/\k<nl/\w.cell? ⟨bk,ko+j,none⟩=some (.int .i64 (k:Nat))/\w.cell? ⟨bn,no+k*5,none⟩=some (.int .u8 (d:Nat))) :
  Calls Ga 193 #[.agg #[.slice np nl nc,items],.agg #[n0,n1,n2,.slice kp kl kc,n4]] w λe w'=>e=.returned (.string ⟨(Tryz.letters ds).toArray⟩)/\Below w.heap.size w w':=by
 have HK:Hid (∀j d,ds[j]? = some d->∃bn no bk ko k,np=some ⟨bn,no,none⟩/\kp=some ⟨bk,ko,none⟩/\k<nl/\w.cell? ⟨bk,ko+j,none⟩=some (.int .i64 (k:Nat))/\w.cell? ⟨bn,no+k*5,none⟩=some (.int .u8 (d:Nat))):=Bo;have HD:Hid (∀k∈ds,k<256):=DY;clear Bo DY
 go_enter Tryz.func193,Tryz.ntmps193
 go_wp2
 go_loopw [11] (λv wr=>∃j:Nat,j<=kl/\v=.int .i64 j/\Lib.IsBuilder 205 5 (w.heap.size+2) (w.heap.size+2) (Lib.byteCells (Tryz.letters (ds.take j))) wr/\wr.cell? ⟨w.heap.size,0,none⟩=some (.slice np nl nc)/\Below w.heap.size w wr/\w.heap.size+2<=wr.heap.size) (λi _=>kl-(intOf i).toNat)
 case atStart=>
  refine⟨0,Nat.zero_le _,rfl,?_,?_,?_,?_⟩
  ·simpa [Tryz.letters,Lib.byteCells]using Lib.fresh_isBuilder 205 5 ((w.alloc (.cells #[.slice np nl nc,items] 25)).alloc (.cells #[n0,n1,n2,.slice kp kl kc,n4] 60))
  ·simp[go_sem]
  ·exact(((Below.refl _ w).alloc (Gi _) _).alloc (by simp) _).alloc (by simp;omega) _
  ·simp
 case round=>
  obtain⟨j,hj,rfl,hI,hT,Rf,BX⟩:=hrel;have HI:Hid (Lib.IsBuilder 205 5 (w.heap.size+2) (w.heap.size+2) (Lib.byteCells (Tryz.letters (ds.take j))) wr):=hI;clear hI;by_cases Ab:j<kl
  ·obtain⟨d,hd⟩:∃d,ds[j]? = some d:=⟨ds[j],Gc (by omega)⟩;have Ud:=HD.out d (Gt hd);obtain⟨bn,no,bk,ko,k,rfl,rfl,hk,h1,h2⟩:=HK.out j d hd;have DU:wr.cell? ⟨bk,ko+j,none⟩=some (.int .i64 (k:Nat)):=(Rf.cell (Tryz.cell_lt h1)).trans h1;have F3:wr.cell? ⟨bn,no+k*5,none⟩=some (.int .u8 (d:Nat)):=(Rf.cell (Tryz.cell_lt h2)).trans h2;clear h1 h2;have HD2:Hid (ds[j]? = some d):=hd;clear hd
   go_wp2_with (go_at_call 194;refine(calls_of_fn (imm:=λ_ _=>none) (fnSort d Ud) rfl (by simp) (by simp) (by simp[JX,rel]) (Tryz.GLw_below jy Rf)).mono ?_)
   rintro e W1 ⟨⟨r,imm',_,hr,rfl⟩,b1⟩;simp[rel]at hr;subst hr;have HI1:=HI.out;have b2:=Rf.trans (b1.mono Rf.size);have HB:Hid (Lib.IsBuilder 205 5 (w.heap.size+2) (w.heap.size+2) (Lib.byteCells (Tryz.letters (ds.take j))) W1):=Tryz.isb_below HI1 b1;have jU:W1.cell? ⟨w.heap.size,0,none⟩=some (.slice (some ⟨bn,no,none⟩) nl nc):=(b1.cell (by simp;omega)).trans hT;have Ad:(Lib.byteCells (Tryz.letters (ds.take j))).length+1<=140737488355328:=by rw[Lib.byteCells_length];simp[Tryz.letters];omega
   have F7:=Hg BX b1.size;clear HI1
   go_wp2_with (go_at_call 211;refine(Tryz.WriteByte _ _ _ _ _ HB.out Ad F7).mono ?_)
   rintro e W2 ⟨rfl,gJ,b3⟩;have jT:W2.cell? ⟨w.heap.size,0,none⟩=some (.slice (some ⟨bn,no,none⟩) nl nc):=(b3.cell (by simp)).trans jU;have HB2:Hid (Lib.IsBuilder 205 5 (w.heap.size+2) (w.heap.size+2) (Lib.byteCells (Tryz.letters (ds.take j))++[Value.int IntKind.u8 (letter d:Nat)]) W2):=Or.inr gJ;have b4:=b2.trans (b3.mono (by omega));have EX:=Hg F7 b3.size;clear gJ b1 b2 b3
   go_wp2
   go_roundw
   case rel=>refine⟨j+1,by omega,by go_num,?_,jT,b4,EX⟩;rw[Tryz.letters_take ds j d HD2.out,Lib.byteCells_append];have:=HB2.out;have hl:letter d % 256=letter d:=Nat.mod_eq_of_lt (letter_lt d);simpa [Lib.byteCells,hl]using this
   case measure=>simp[intOf];omega
  ·have Ba:j=kl:=by omega
   subst Ba;rw[Gs (by omega)]at HI
   go_wp2_with (go_at_call 212;refine(Tryz.BString _ _ _ _ HI.out BX).mono ?_)
   rintro e W1 ⟨rfl,b1⟩
   go_wp2
   go_ret
   exact⟨rfl,Rf.trans (b1.mono (by omega))⟩
end Go.Proofs
namespace Go.Cm
theorem sortsL (t:Tr)(x:Nd)(hx:x.Fit)(hn:∀y∈t.nodes,y.k<256)(hk:∀k∈x.kids,0<=k/\k<t.nodes.length):Fn Ga 193 [.agg [.rslc 5 (ndz t.nodes) none,.rslc 1 (iz t.items) none],.agg x.cv] (S (lets t.nodes x)):=by
 intro E H;refine Qb λm w vs hs hv=>?_
 simp only[JX,rel,Nd.cv]at hv;obtain⟨_,_,e0,⟨t1,rfl,r1,_,e1,Sg,r2,_,rfl,FN,rfl⟩,_,_,rfl,⟨t2,rfl,s0,_,e2,E5,s1,_,rfl,EP,s2,_,rfl,F9,s3,_,rfl,Bv,s4,_,rfl,PY,rfl⟩,rfl⟩:=hv;have iG:t1=#[r1,r2]:=by cases t1;simp_all
 have UK:t2=#[s0,s1,s2,s3,s4]:=by cases t2;simp_all
 have BK:vs=#[.agg t1,.agg t2]:=by cases vs;simp_all
 subst iG UK BK;have Sd:∃np nl nc,r1=.slice np nl nc/\∀(k:Nat),k<t.nodes.length->k<nl/\∃B o,np=some ⟨B,o,none⟩/\w.cell? ⟨B,o+k*5,none⟩=some (.int .u8 (Jo t.nodes k:Nat)):=by
  rcases Sg with ⟨_,h0,b,rfl⟩|⟨B,o,c,rfl,_,_,Fs⟩
  ·refine⟨b,0,0,rfl,λk hk=>?_⟩;have:=congrArg Gw h0;rw[Jb]at this;simp at this;rw[this]at hk;simp at hk
  ·refine⟨_,_,_,rfl,λk hk=>⟨by rw[Jb];exact hk,B,o,rfl,?_⟩⟩;have hg:(ndz t.nodes)[k]? = some (t.nodes.getD k default).cv:=by simp[ndz,Gb,Gc hk]
   have h1:=((Qw _ o).1 Fs k _ hg).2;obtain⟨r,hr,CS⟩:=h1 0 _ rfl;simp only[rel]at CS;subst CS;exact hs.imm _ _ _ hr
 obtain⟨np,nl,nc,rfl,hN⟩:=Sd;have Cf:∃kp kc,s3=.slice kp x.kids.length kc/\∀(j:Nat) k,x.kids[j]? = some k->∃B o,kp=some ⟨B,o,none⟩/\w.cell? ⟨B,o+j,none⟩=some (.int .i64 k):=by
  rcases Bv with ⟨_,he,b,rfl⟩|⟨B,o,c,rfl,_,_,S9⟩
  ·have Bo:x.kids=[]:=by have:=congrArg Gw he;rw[Jf]at this;simpa using this
   exact⟨b,0,by rw[Bo];rfl,λj k hj=>by simp[Bo]at hj⟩
  ·refine⟨_,c,by rw[Jf],λj k hj=>⟨B,o,rfl,?_⟩⟩;have Dn:(iz x.kids)[j]? = some [CV.int .i64 k]:=by simp[iz,hj]
   have h1:=((Qw _ o).1 S9 j _ Dn).2;obtain⟨r,hr,CS⟩:=h1 0 _ rfl;simp only[rel]at CS;subst CS;have:=hs.imm _ _ _ hr;simpa using this
 obtain⟨kp,kc,rfl,hK⟩:=Cf;have BL:=hx.kidn;refine⟨_,Tryz.sorts_walk np kp nl nc x.kids.length kc r2 s0 s1 s2 s4 (x.kids.map (Jo t.nodes)) w hs.gl.1 sM (λd hd=>?_) om (λj d hj=>?_),?_⟩
 ·obtain⟨k,Dg,rfl⟩:=List.mem_map.1 hd;have:=hk k Dg;refine hn _ ?_;have Ab:k.toNat<t.nodes.length:=om
  rw[Gb,Gc Ab];exact Gv Ab
 ·rw[Gp]at hj
  cases DK:x.kids[j]? with
  |none=>rw[DK]at hj;cases hj
  |some k=>
   rw[DK]at hj;simp only[He,Option.some.injEq]at hj;subst hj;have hr:=hk k (Gt DK);obtain⟨h3,B,o,h4,h5⟩:=hN k.toNat om;obtain⟨B',o',h6,h7⟩:=hK j k DK;refine⟨B,o,B',o',k.toNat,h4,h6,h3,?_,?_⟩
   ·rw[h7,show ((k.toNat:Nat):Int)=k by omega]
   ·rw[h5];simp only[Jo,Int.toNat_natCast]
 ·simp only[rel,lets,Tryz.letters,Jdo,GL];rfl
end Go.Cm
end
section
open Go.Proofs
namespace Go.Cm
variable {d ks o xs:Lu}{f i:Nat}{K:LP}{a b m:Int}{F:IFunc}
def bks (xs:Lu):LM:=(List.range xs.length).map λ(s:Nat)=>[.int .i64 ((xs.length:Int)-1-s),.int .i64 (xs.reverse.getD s 0)]
theorem bks_get{s:Nat}(h:s<xs.length):(bks xs)[s]? = some [.int .i64 ((xs.length:Int)-1-s),.int .i64 (xs.reverse.getD s 0)]:=by simp[bks,h]
theorem Jf1:(bks xs).length=xs.length:=by simp[bks]
theorem backward1 (xs:Lu)(Ad:xs.length<=100000):Iter Ga 87 [] [.rptr [.rslc 1 (iz xs) none]] (bks xs):=by
 intro E l hy;refine J8 c87_ok λN=>?_
 simp +contextual only[c87,go_sem,Jf];refine⟨Ji,?_⟩;refine JO (I:=λs:Nat=>s<=xs.length) (inv:=λs=>gp [(0,.yld l),(0,.rptr [.rslc 1 (iz xs) none]),(1,.int .i64 ((xs.length:Int)-1-s))] 15) (hp:=λs=>[.ext s true]) (μ:=λs=>xs.length-s) 0 om ?_ rfl ?_
 ·simp[forget,gp]
 ·intro s hs;simp +contextual only[go_sem,Jf];refine⟨λh1=>?_,λh1=>?_⟩
  ·have Ab:s<xs.length:=om
   have hi:((xs.length:Int)-1-s).toNat=xs.length-1-s:=om
   have hg:(iz xs).getD (xs.length-1-s) []=[.int .i64 (xs.reverse.getD s 0)]:=by
    have h2:xs.length-1-s<xs.length:=om
    simp[iz,Gb,Gc h2,List.getElem?_reverse Ab]
   rw[hi,hg];refine anO ?_;simp +contextual only[go_sem];refine vr_yield (i:=0) (s:=s) (.inl rfl) rfl hy rfl (λk s b hk=>?_) ?_ rfl λc=>?_
   ·rcases k with _|k
    ·rfl
    ·simp at hk
   ·simp only[go_sem,bks_get Ab]
   ·cases c
    ·simp +contextual only[go_sem];exact .inr ⟨_,rfl⟩
    ·simp +contextual only[go_sem];refine⟨Ji,s+1,om,om,?_⟩;simp[forget];omega
  ·have:s=xs.length:=om
   refine .inl ?_;simp[Jf1,this]
theorem backward (xs:Lu):Fn Ga 52 [.rslc 1 (iz xs) none] (.fn 87 [] [.rptr [.rslc 1 (iz xs) none]]):=by
 have main:CallsC Ga Env.none 52 [.rslc 1 (iz xs) none] [] λv H'=>v=.fn 87 [] [.ptr 0 0 0]/\H'=[.arr 1 [[.rslc 1 (iz xs) none]]]:=by
  refine J8 c52_ok λN=>?_
  simp +contextual only[c52,go_sem]
 exact Jin (main.freeze λv H' ⟨h1,h2⟩=>⟨0,1,[[.rslc 1 (iz xs) none]],by rw[h2];rfl,rfl,by rw[h1];simp[frz,JV]⟩) rfl rfl
def Ju (l:LC):LP:=l.map Nd.kids
theorem JK {l:LC}(h:i<l.length):(Ju l)[i]? = some (l.getD i default).kids:=by simp[Ju,Gb,Gc h]
theorem JbC(h:JA (K.take i) []=some o)(hk:K[i]? = some ks):JA (K.take (i+1)) []=(Jdx o ks).map (λf=>o++[f])/\o.length=i:=by
 have Ab:=(Gf.1 hk).1;have hl:=QR _ _ _ h;rw[Gm Ab,(Gf.1 hk).2,Ja1,h];refine⟨?_,by simpa [Hf (Gl Ab)]using hl⟩;simp only[GM,JA]
 cases Jdx o ks <;> rfl
theorem Jd4(h:JA (K.take i) []=none):JA K []=none:=by rw[<-Gx i K,Ja1,h];rfl
theorem stepF_none{s:Nat}(h:Qr o (ks.reverse.take s) ((o.length:Int)-1)=none):Jdx o ks=none:=by unfold Jdx;rw[<-Gx s ks.reverse,JbP,h];rfl
def JcD (t:Tr)(v:CV)(H':Lt):Prop:=match JA (Ju t.nodes) []with
 |some o=>∃id,v=.tup [JW id (iz o),.bool true]/\H'[id]? = some (KT 1 (iz o))
 |none=>v=.tup [.nils,.bool false]
theorem firstsW (t:Tr)(ht:t.Fit):CallsC Ga Env.none 190 [t.cv] [] (JcD t):=by
 have Ah:=ht.many;refine J8 c190_ok λN=>?_
 simp +contextual only[c190,go_sem,Tr.cv,Tr.row];refine XJ ?_;simp only[go_sem,Jb];refine Js (σ:=Nat×Lu) (I:=λs=>s.1<=t.nodes.length/\JA ((Ju t.nodes).take s.1) []=some s.2)
  (inv:=λs=>gp [(2,.ptr 0 0 0),(0,.ptr 1 0 0),(6,.rslc 5 (ndz t.nodes) none),(0,.int .i64 t.nodes.length),(0,.int .i64 s.1)] 30)
  (hp:=λs=>[.arr 1 [[JW 2 (iz s.2)]],.arr 1 [[.bool false]],KT 1 (iz s.2)]) (μ:=λs=>t.nodes.length-s.1) (0,[]) [1,2,3] ⟨om,rfl⟩ rfl ?_ rfl ?_
 ·simp[forget,JB,ren,Jm,gp]
 ·rintro⟨i,o⟩ ⟨hi,ho⟩
  dsimp only at hi ho
  simp +contextual only[go_sem,Jb];refine⟨λh=>?_,λh=>?_⟩
  ·have Ab:i<t.nodes.length:=om
   have hx:=ht.nodes _ (Gv Ab);have hg:t.nodes.getD i default=t.nodes[i]:=by rw[Gb,Gc Ab];rfl
   obtain⟨Az,Bf⟩:=JbC ho (JK Ab);have Aq:=QL _ _ _ Q8.nil ho;rw[QE Ab];generalize t.nodes.getD i default=x at Az hg|-;rw[<-hg]at hx;refine⟨om,by simp[Nd.cv],?_⟩;simp +contextual only[go_sem,Nd.cv];refine⟨Ji,?_⟩;refine Kk (backward x.kids) ?_;simp +contextual only[go_sem];have BL:=hx.kidn;refine vr_rfuncJ (xs:=bks x.kids) (Γ:=Int) (λs a=>Qr o (x.kids.reverse.take s) ((i:Int)-1)=some a) (λs a=>[.arr 1 [[JW 2 (iz o)]],.arr 1 [[.bool false]],KT 1 (iz o),.arr 5 [x.cv],.arr 1 [[.int .i64 a]]]) ((i:Int)-1) rfl rfl rfl rfl rfl c87_ok nm (backward1 _ om) (by simp[bks]) rfl ?_ ?_
   ·intro s a c ha hc;have Dw:s<x.kids.length:=by have:=(Gf.1 hc).1;rwa [Jf1]at this
    rw[bks_get Dw]at hc
    cases hc
    have Eo:s<x.kids.reverse.length:=by rw[List.length_reverse];exact Dw
    have Al:x.kids.reverse.take (s+1)=x.kids.reverse.take s++[x.kids.reverse.getD s 0]:=by rw[Gm Eo,Gb,Gc Eo];rfl
    generalize x.kids.reverse.getD s 0=k at Al|-;have hr:=Jdm Aq _ _ a om om ha;have Dv:Qr o (x.kids.reverse.take (s+1)) ((i:Int)-1)=if a<0\/k≠a then none else some (o.getD k.toNat 0-1):=by rw[Al,JbP,ha];simp only[GM,Qr]
    by_cases hc:a<0\/k≠a
    ·rw[if_pos hc]at Dv;have CZ:JA (Ju t.nodes) []=none:=by refine Jd4 (i:=i+1) ?_;rw[Az,stepF_none (s:=s+1) (by rw[Bf];exact Dv)];rfl
     by_cases h0:a<0
     ·have d0:(a<0)=True:=eq_true h0;simp +contextual only[go_sem,d0];simp only[JcD,CZ]
     ·have d0:(a<0)=False:=eq_false h0;have d1:(k == a)=false:=beq_eq_false_iff_ne.2 om;have d2:(k != a)=true:=by rw[bne,d1];rfl
      simp +contextual only[go_sem,d0,d2];simp only[JcD,CZ]
    ·rw[if_neg hc]at Dv;have DN:k=a:=om
     subst DN;have Ag:iz o≠[]:=by intro e;have:=congrArg Gw e;rw[Jf]at this;simp at this;rw[this]at Bf;simp at Bf;omega
     have d0:(k<0)=False:=Kq;have d2:(k != k)=false:=sM
     rw[Xb Ag,QX Ag];have Dm:k.toNat<o.length:=om
     have hv:=Aq k.toNat o[k.toNat] (Gc Dm);have e:o.getD k.toNat 0=o[k.toNat]:=by simp[Gb,Gc Dm]
     simp +contextual only[go_sem,d0,d2,Jf];rw[JL Dm];refine⟨om,⟨om,sM⟩,?_⟩;simp +contextual only[go_sem];refine⟨inr64 (by rw[e];omega) (by rw[e];omega),_,Dv,?_⟩;rfl
   ·intro a ha;rw[Jf1]at ha;rw[Gs sM]at ha;have hr:=Jdm Aq _ _ a om om ha;have iM:Jdx o x.kids=some (a+1):=by unfold Jdx;rw[Bf,ha];rfl
    rw[iM]at Az;simp +contextual only[go_sem,Jw,Jf];refine⟨Ji,⟨om,om⟩,Ji,(i+1,o++[a+1]),[0,1,6],⟨by simp only;omega,Az⟩,by simp only;omega,rfl,?_,?_⟩
    ·rw[KR,Km,Kn];simp only[Ko,Gh,GA,go_sem,Jj];simp[JB,ren,Jm,Jf,Ja (Jd o)]
    ·simp[forget,JB,ren,Jm]
  ·have:i=t.nodes.length:=om
   subst this;rw[Gs (by simp[Ju])]at ho
   cases o with
   |nil=>simp only[iz,GA,XA,YB,go_sem];simp only[JcD,ho];exact⟨2,rfl,rfl⟩
   |cons y o=>simp only[iz,Gh,Yk,Jbq,go_sem];simp only[JcD,ho];exact⟨2,rfl,rfl⟩
theorem firstsS (t:Tr)(ht:t.Fit)(h:JA (Ju t.nodes) []=some o):Fn Ga 190 [t.cv] (.tup [.rslc 1 (iz o) none,.bool true]):=by
 refine fn_of_rowT ?_ rfl (Jd o) rfl;have:=firstsW t ht;refine this.mono λv H' hv=>?_
 simpa only[JcD,h]using hv
theorem firstsN (t:Tr)(ht:t.Fit)(h:JA (Ju t.nodes) []=none):Fn Ga 190 [t.cv] (.tup [.nils,.bool false]):=by
 refine Jin ?_ rfl rfl;have:=firstsW t ht;refine this.mono λv H' hv=>?_
 simpa only[JcD,h]using hv
theorem rowg {t:Tr}(h:i<t.nodes.length):t.nodes.getD i default=t.nodes[i]:=by rw[Gb,Gc h];rfl
theorem areItems (t:Tr)(ht:t.Fit)(o:Lu)(ho:Q8 o)(hl:o.length=t.nodes.length):Fn Ga 191 [t.cv,.rslc 1 (iz o) none] (.bool (Jad o (λi=>Jo t.nodes i == 65) t.nodes.length t.items 0)):=by
 have Ah:=ht.many;have FN:=ht.items;refine Jc c191_ok rfl rfl λN=>?_
 simp +contextual only[c191,go_sem,Tr.cv,Tr.row,Jf];generalize hD:(λi=>Jo t.nodes i == 65)=isD;refine JO (σ:=Nat×Int) (I:=λs=>s.1<=t.items.length/\0<=s.2/\s.2<=t.nodes.length/\Jad o isD t.nodes.length t.items 0=Jad o isD t.nodes.length (t.items.drop s.1) s.2)
  (inv:=λs=>gp [(1,.rslc 1 (iz o) none),(0,.ptr 0 0 0),(2,.int .i64 s.2),(3,.rslc 1 (iz t.items) none),(0,.int .i64 t.items.length),(0,.int .i64 s.1)] 36)
  (hp:=λ_=>[.arr 2 [t.row]]) (μ:=λs=>t.items.length-s.1) (0,0) ⟨om,sM,sM,sM⟩ ?_ rfl ?_
 ·simp[forget,gp]
 ·rintro⟨j,a⟩ ⟨hj,h0,h1,Aa⟩;simp only at hj h0 h1 Aa;simp +contextual only[go_sem,Tr.row,Jf,Jb];refine⟨λh=>?_,λh=>?_⟩
  ·have Ab:j<t.items.length:=om
   rw[Gr Ab,Jad]at Aa;rw[JL Ab,show t.items.getD j 0=t.items[j] by rw[Gb,Gc Ab];rfl];generalize t.items[j]=i at Aa|-;refine anO ?_;simp +contextual only[go_sem,Jb];refine⟨Ji,?_⟩;refine Kk (within _ _ _) ?_;simp +contextual only[go_sem]
   cases b1:inI a ((t.nodes.length:Int)-1) i with
   |false=>rw[b1]at Aa;simp +contextual only[go_sem];rw[Aa];rfl
   |true=>
    rw[b1]at Aa;have hi:a<=i/\i<=(t.nodes.length:Int)-1:=by simp only[inI,Gq,decide_eq_true_eq]at b1;exact b1
    have Aj:i.toNat<t.nodes.length:=om
    simp +contextual only[go_sem,Jb];rw[QE Aj];refine anO ?_;simp +contextual only[go_sem,Nd.cv];have hk:isD i=((t.nodes.getD i.toNat default).k == 65):=by rw[<-hD];rfl
    have Am:(((t.nodes.getD i.toNat default).k:Int) == 65)=isD i:=by rw[hk,Gg];simp;omega
    have Mc:(((t.nodes.getD i.toNat default).k:Int) != 65) = !isD i:=by rw[bne,Am]
    rw[Mc]
    cases b2:isD i with
    |false=>rw[b2]at Aa;simp +contextual only[go_sem];rw[Aa];rfl
    |true=>
     rw[b2]at Aa;simp +contextual only[go_sem,Jf];rw[JL om];refine anO ?_;simp +contextual only[go_sem];have Ag:(o.getD i.toNat 0 != a) = !(o.getD i.toNat 0 == a):=rfl;rw[Ag]
     cases b3:(o.getD i.toNat 0 == a) with
     |false=>rw[b3]at Aa;simp +contextual only[go_sem];rw[Aa];rfl
     |true=>
      rw[b3]at Aa;simp +contextual only[go_sem];refine⟨Ji,Ji,(j+1,i+1),⟨by simp only;omega,by simp only;omega,by simp only;omega,?_⟩,by simp only;omega,?_⟩
      ·simpa using Aa
      ·simp[forget]
  ·have:j=t.items.length:=om
   subst this;rw[Aa];simp[Jad]
theorem isGreat (t:Tr):Fn Ga 169 [t.cv] (.bool (decide (700<t.nodes.length\/20<t.items.length))):=by
 refine Jc c169_ok rfl rfl λN=>?_
 simp +contextual only[c169,go_sem,Tr.cv,Tr.row,Jf,Jb];refine⟨λh=>?_,λh=>?_⟩
 ·congr 1
  exact decide_eq_decide.2 om
 ·congr 1
  symm
  rw[decide_eq_true_eq];omega
def mx (a b:Int):Int:=if b > a then b else a
def Jgh (deep:Lu)(ks:Lu):Int:=ks.foldl (λa k=>mx a (deep.getD k.toNat 0+1)) 1
def KJ:LP->Lu->Lu
 |[],d=>d
 |ks::K,d=>KJ K (d++[Jgh d ks])
theorem JfR:∀(x y:LP) (d:Lu),KJ (x++y) d=KJ y (KJ x d)
 |[],_,_=>rfl
 |k::x,y,d=>by simp only[List.cons_append,KJ];exact JfR x y _
theorem Xj:∀(K:LP) (d:Lu),(KJ K d).length=d.length+K.length
 |[],d=>by simp[KJ]
 |k::K,d=>by simp only[KJ];rw[Xj K];simp;omega
def DOk (d:Lu):Prop:=∀v∈d,1<=v/\v<=d.length
theorem mx_le{c:Int}(h1:a<=c)(h2:b<=c):mx a b<=c:=by unfold mx;split <;> omega
theorem mx_ge{c:Int}(h1:c<=a):c<=mx a b:=by unfold mx;split <;> omega
theorem Jig(h:∀v∈d,1<=v/\v<=m)(hm:0<=m)(k:Nat):0<=d.getD k 0/\d.getD k 0<=m:=by
 rw[Gb]
 cases hk:d[k]? with
 |none=>simp;omega
 |some v=>have:=h v (Gt hk);simp;omega
theorem Jh2(h:∀v∈d,1<=v/\v<=m)(hm:0<=m):∀(ks:Lu) (a:Int),1<=a->a<=m+1->1<=ks.foldl (λa k=>mx a (d.getD k.toNat 0+1)) a/\ks.foldl (λa k=>mx a (d.getD k.toNat 0+1)) a<=m+1
 |[],a,h1,h2=>⟨h1,h2⟩
 |k::ks,a,h1,h2=>by have:=Jig h hm k.toNat;exact Jh2 h hm ks _ (mx_ge h1) (mx_le h2 om)
theorem Jix:∀(K:LP) (d:Lu),DOk d->DOk (KJ K d)
 |[],d,h=>h
 |k::K,d,h=>by
  refine Jix K _ λv hv=>?_
  rcases List.mem_append.1 hv with hv|hv
  ·have:=h v hv;simp;omega
  ·simp at hv;have:=Jh2 (m:=d.length) (λv hv=>h v hv) om k 1 om om;rw[hv];simp only[List.length_append,GH,Gz];unfold Jgh;omega
theorem maxL (x:Int)(l:Lu)(hl:l.length<=100000):Fn Ga 200 [.rslc 1 (iz (x::l)) none] (.int .i64 (l.foldl mx x)):=by
 refine Jc c200_ok rfl rfl λN=>?_
 have d0:(((l.length+1:Nat):Int)<1)=False:=Kq;simp +contextual only[c200,go_sem,Jf,d0];rw[JL sM];refine anO ?_;simp +contextual only[go_sem];refine JO (I:=λi:Nat=>i<=l.length) (inv:=λi=>gp [(0,.rslc 1 (iz (x::l)) none),(2,.int .i64 ((l.take i).foldl mx x)),(0,.int .i64 (i+1:Nat))] 20) (hp:=λ_=>[]) (μ:=λi=>l.length-i) 0 om ?_ rfl ?_
 ·simp[forget,gp]
 ·intro i hi;simp +contextual only[go_sem,Jf,GH];refine⟨λh=>?_,λh=>?_⟩
  ·have Ab:i<l.length:=om
   rw[JL (by simp;omega)];refine anO ?_;simp +contextual only[go_sem];refine⟨Ji,i+1,om,om,?_⟩;have hs:(l.take (i+1)).foldl mx x=mx ((l.take i).foldl mx x) (l.getD i 0):=by rw[Gm Ab,G7,Gb,Gc Ab];rfl
   rw[hs];simp[forget,mx]
  ·have:i=l.length:=om
   subst this;rw[Gj]
def JbH (t:Tr):Bool:=(KJ (Ju t.nodes) []).any λv=>decide (30<v)
theorem mx_any (c:Int):∀(l:Lu) (x:Int),c<l.foldl mx x↔(c<x\/(l.any λv=>decide (c<v))=true)
 |[],x=>sM
 |y::l,x=>by
  rw[GI,mx_any c l (mx x y),Ha,Bool.or_eq_true,decide_eq_true_eq,<-or_assoc];refine or_congr ?_ Iff.rfl;unfold mx
  split <;> omega
theorem JaD(h:K[i]? = some ks):KJ (K.take (i+1)) []=KJ (K.take i) []++[Jgh (KJ (K.take i) []) ks]:=by have Ab:=(Gf.1 h).1;rw[Gm Ab,(Gf.1 h).2,JfR];rfl
theorem isDeep (t:Tr)(ht:t.Fit)(ho:JA (Ju t.nodes) []=some o):Fn Ga 171 [t.cv] (.bool (JbH t)):=by
 have Ah:=ht.many;refine Jc c171_ok rfl rfl λN=>?_
 simp +contextual only[c171,go_sem,Tr.cv,Tr.row];refine XJ ?_;simp only[go_sem,Jb];refine Js (I:=λi:Nat=>i<=t.nodes.length) (inv:=λi=>gp [(3,JW 0 (iz (KJ ((Ju t.nodes).take i) []))),(6,.rslc 5 (ndz t.nodes) none),(0,.int .i64 t.nodes.length),(0,.int .i64 i)] 31)
  (hp:=λi=>[KT 1 (iz (KJ ((Ju t.nodes).take i) []))]) (μ:=λi=>t.nodes.length-i) 0 [1] om rfl ?_ rfl ?_
 ·simp[forget,JB,ren,Jm,gp,KJ,iz,JW]
 ·intro i hi;have Bh:(KJ ((Ju t.nodes).take i) []).length=i:=by rw[Xj,Gy];simp[Ju];omega
  have Fu:=Jix ((Ju t.nodes).take i) [] (by intro v hv;simp at hv);by_cases Ab:i<t.nodes.length
  ·have Az:=JaD (JK Ab);have Ms:=Xo ho (JK Ab);have hx:=ht.nodes _ (Gv Ab);rw[<-rowg Ab]at hx;have CP:=Bh;clear Bh;generalize KJ ((Ju t.nodes).take i) []=d at Az CP Fu|-;have d1:=dtT i t.nodes.length;simp +contextual only[go_sem,Jb,d1];rw[QE Ab];generalize t.nodes.getD i default=x at Az Ms hx|-;refine⟨om,by simp[Nd.cv],?_⟩;simp +contextual only[go_sem,Nd.cv,Jf];have BL:=hx.kidn;have Il:∀v∈d,1<=v/\v<=i:=λv hv=>by have:=Fu v hv;omega
   refine JO (I:=λj:Nat=>j<=x.kids.length) (inv:=λj=>gp [(3,JW 0 (iz d)),(2,.int .i64 (Jgh d (x.kids.take j))),(3,.rslc 5 (ndz t.nodes) none),(0,.int .i64 t.nodes.length),(0,.int .i64 i),(4,.rslc 1 (iz x.kids) none),(0,.int .i64 x.kids.length),(0,.int .i64 j)] 24)
    (hp:=λ_=>[KT 1 (iz d),.arr 5 [x.cv]]) (μ:=λj=>x.kids.length-j) 0 om ?_ rfl ?_
   ·simp[forget,gp,Jgh]
   ·intro j hj;by_cases Ba:j<x.kids.length
    ·have d2:=dtT j x.kids.length;have Ap:x.kids.getD j 0∈x.kids:=by rw[Gb,Gc Ba];exact Gv Ba
     have hb:=Ms _ Ap;have Ag:iz d≠[]:=by intro e;have:=congrArg Gw e;rw[Jf]at this;simp at this;rw[this]at CP;simp at CP;omega
     have Al:Jgh d (x.kids.take (j+1))=mx (Jgh d (x.kids.take j)) (d.getD (x.kids.getD j 0).toNat 0+1):=by
      have ED:x.kids.getD j 0=x.kids[j]:=by rw[Gb,Gc Ba];rfl
      unfold Jgh;rw[Gm Ba,G7,ED];rfl
     rw[Xb Ag,QX Ag];simp +contextual only[go_sem,Jf,d2];rw[JL Ba];generalize x.kids.getD j 0=k at hb Al|-;refine anO ?_;simp +contextual only[go_sem,Jf];rw[JL om];have DT:=Jig (m:=i) (λv hv=>by have:=Il v hv;omega) om k.toNat;refine⟨om,⟨om,sM⟩,?_⟩;simp +contextual only[go_sem];refine⟨Ji,Ji,j+1,om,om,?_⟩;rw[Al];simp[forget,mx]
    ·have BR:j=x.kids.length:=om
     subst BR;have d2:=dfF x.kids.length x.kids.length;rw[Gj];have R8:=Jh2 (m:=i) Il om x.kids 1 om om;simp +contextual only[go_sem,d2,Jw,Jf];refine⟨⟨om,om⟩,Ji,i+1,[3],om,om,rfl,?_,?_⟩
     ·rw[Az,KR,Kn];simp only[Ko,Gh,GA,go_sem,Jj];rw[<-KR,Ja (Jd _)]
     ·rw[Az,KR,Km];simp[forget,JB,ren,Jm,Jf]
  ·have BS:i=t.nodes.length:=om
   subst BS;have d1:=dfF t.nodes.length t.nodes.length;have hB:JbH t=(KJ ((Ju t.nodes).take t.nodes.length) []).any λv=>decide (30<v):=by rw[JbH,Gs (by simp[Ju])]
   rw[hB];generalize KJ ((Ju t.nodes).take t.nodes.length) []=d at Bh Fu|-;have Py:d.length<=100000:=om
   cases d with
   |nil=>simp +contextual only[go_sem,d1,iz,GA,XA,YB];rfl
   |cons y d=>
    have d3:((0:Int)<((iz (y::d)).length:Nat))=True:=eq_true (by rw[Jf];simp only[GH];omega);rw[Xb (by simp[iz]),QX (by simp[iz])];simp +contextual only[go_sem,d1,d3];refine Je (id:=0) (z:=1) (els:=iz (y::d)) rfl (Jd _) ?_;simp only[go_sem,JV,Kv,frz,Qj,Gj];refine Kt (gok rfl) (maxL y d (by simp at Py;omega)) ?_;simp +contextual only[go_sem]
    congr 1
    rw[Gg,decide_eq_true_eq,mx_any];simp
theorem indexN{l1 l2:Ls}(l:LC)(q:Nd->Bool)(cap:Option Nat)(hF:Jg Ga f=some F)(CR:Jp l1=true)(BU:Jp l2=true)
  (hq:∀p∈l,Fn Ga f (l1++[.agg p.cv]++l2) (.bool (q p))) (Ad:l.length<=100000):Fn Ga 219 [.rslc 5 (ndz l) cap,.fn f l1 l2] (.int .i64 (X8 q l 0)):=by
 refine Jc c219_ok (by simp[Jp,CV.closed,CR,BU]) rfl λN=>?_
 simp +contextual only[c219,go_sem,Jb];refine JO (I:=λi:Nat=>i<=l.length/\X8 q l 0=X8 q (l.drop i) i) (inv:=λi=>gp [(0,.rslc 5 (ndz l) cap),(0,.fn f l1 l2),(5,.int .i64 l.length),(0,.int .i64 i)] 10) (hp:=λ_=>[]) (μ:=λi=>l.length-i) 0 ?_ ?_ rfl ?_
 ·simp
 ·simp[forget,gp]
 ·rintro i ⟨hi,Aa⟩;simp +contextual only[go_sem,Jb];refine⟨λh=>?_,λh=>?_⟩
  ·have Ab:i<l.length:=om
   obtain⟨p,hp⟩:∃p,l[i]? = some p:=⟨_,Gc Ab⟩;rw[Xx hp]at Aa;rw[QE Ab,show l.getD i default=p by rw[Gb,hp];rfl];refine⟨om,by simp[Nd.cv],?_⟩;refine vr_fv (.inl rfl) rfl hF nm (hq p (Gt hp)) ?_;simp only[go_sem];refine⟨λh2=>?_,λh2=>?_⟩
   ·rw[Aa,if_pos h2]
   ·rw[h2]at Aa;refine⟨Ji,i+1,⟨om,by simpa using Aa⟩,om,?_⟩;simp[forget]
  ·have:i=l.length:=om
   subst this;rw[Aa];simp[X8]
theorem containsN{l1 l2:Ls}(l:LC)(q:Nd->Bool)(cap:Option Nat)(hF:Jg Ga f=some F)(CR:Jp l1=true)(BU:Jp l2=true)
  (hq:∀p∈l,Fn Ga f (l1++[.agg p.cv]++l2) (.bool (q p))) (Ad:l.length<=100000):Fn Ga 199 [.rslc 5 (ndz l) cap,.fn f l1 l2] (.bool (l.any q)):=by
 refine Jc c199_ok (by simp[Jp,CV.closed,CR,BU]) rfl λN=>?_
 simp +contextual only[c199,go_sem];refine Kk (indexN l q cap hF CR BU hq Ad) ?_;simp +contextual only[go_sem,JaZ]
def ndI (l:LC)(x:Nd):Bool:=Kb (Jel x.text) x.k x.text x.n x.pl (lets l x)
theorem isFormN (t:Tr)(x:Nd)(hx:x.Fit)(hn:∀y∈t.nodes,y.k<256)(hk:∀k∈x.kids,0<=k/\k<t.nodes.length):Fn Ga 192 [.agg x.cv,.rptr t.row] (.bool (!ndI t.nodes x)):=by
 have hl:(lets t.nodes x).length<=1000:=by rw[KP];have:=hx.kidn;omega
 refine Jc c192_ok rfl rfl λN=>?_
 simp +contextual only[c192,go_sem,Tr.row,Nd.cv];refine Kk (sortsL t x hx hn hk) ?_;simp +contextual only[go_sem];refine Kk (fnSort x.k hx.k) ?_;simp +contextual only[go_sem];have EP:((letter x.k:Int) == 32)=(letter x.k == 32):=by rw[Gg];simp;omega
 rw[EP]
 cases b1:(letter x.k == 32) with
 |true=>simp +contextual only[go_sem];simp[ndI,Kb,b1]
 |false=>
  simp +contextual only[go_sem];refine Kt (gok rfl) (expectedL x _ hl) ?_;simp +contextual only[go_sem]
  cases b2:(lets t.nodes x == Qo x.k (lets t.nodes x)) with
  |false=>simp +contextual only[go_sem];simp[ndI,Kb,b2]
  |true=>
   simp +contextual only[go_sem];refine Kt (gok rfl) (within 0 2500 x.pl) ?_;simp +contextual only[go_sem]
   cases b3:inI 0 2500 x.pl with
   |false=>simp +contextual only[go_sem];simp[ndI,Kb,b3]
   |true=>
    simp +contextual only[go_sem];refine Kt (gok rfl) (fieldsL x _ (Jel x.text) (isNameW x.text (by have:=hx.text;omega))) ?_;simp +contextual only[go_sem]
    cases b4:fldI (Jel x.text) x.k x.text x.n (lets t.nodes x) with
    |false=>simp +contextual only[go_sem];unfold fldI at b4;simp[ndI,Kb,b4]
    |true=>simp +contextual only[go_sem];refine Kt (gok rfl) (sizedL x _) ?_;simp +contextual only[go_sem];unfold fldI at b4;simp[ndI,Kb,b1,b2,b3,b4]
theorem isFormS (t:Tr)(ht:t.Fit)(h:JA (Ju t.nodes) []=some o):Fn Ga 170 [t.cv] (.bool (Jad o (λi=>Jo t.nodes i == 65) t.nodes.length t.items 0 && t.nodes.all (ndI t.nodes))):=by
 have hl:=QR _ _ _ h;simp[Ju]at hl;refine Jc c170_ok rfl rfl λN=>?_
 simp +contextual only[c170,go_sem,Tr.cv,Tr.row];refine Je (id:=0) (z:=2) (els:=[t.row]) rfl rfl ?_;simp only[go_sem,JV,Kv,frz,Qj];simp +contextual only[go_sem,Tr.row];refine Kk (firstsS t ht h) ?_;simp +contextual only[go_sem];refine Kt (gok rfl) (areItems t ht o (QL _ _ _ Q8.nil h) hl) ?_;simp +contextual only[go_sem]
 cases b1:Jad o (λi=>Jo t.nodes i == 65) t.nodes.length t.items 0 with
 |false=>simp +contextual only[go_sem]
 |true=>
  simp +contextual only[go_sem];refine Kk (containsN t.nodes (λx=>!ndI t.nodes x) none c192_ok rfl rfl (λx hx=>?_) (by have:=ht.many;omega)) ?_
  ·obtain⟨j,hj⟩:=GY hx;have Ba:=(Gf.1 hj).1;have DK:(Ju t.nodes)[j]? = some x.kids:=by simp[Ju,hj]
   exact isFormN t x (ht.nodes x hx) (λy hy=>(ht.nodes y hy).k) (λk hk=>by have:=Xo h DK k hk;omega)
  ·simp +contextual only[go_sem]
   congr 1
   rw[Gg];simp
theorem isFormN0 (t:Tr)(ht:t.Fit)(h:JA (Ju t.nodes) []=none):Fn Ga 170 [t.cv] (.bool false):=by
 refine Jc c170_ok rfl rfl λN=>?_
 simp +contextual only[c170,go_sem,Tr.cv,Tr.row];refine Kk (firstsN t ht h) ?_;simp +contextual only[go_sem]
def frm (t:Tr):Bool:=match JA (Ju t.nodes) []with
 |some o=>Jad o (λi=>Jo t.nodes i == 65) t.nodes.length t.items 0 && t.nodes.all (ndI t.nodes)
 |none=>false
theorem isForm (t:Tr)(ht:t.Fit):Fn Ga 170 [t.cv] (.bool (frm t)):=by
 unfold frm
 cases h:JA (Ju t.nodes) []with
 |none=>exact isFormN0 t ht h
 |some o=>exact isFormS t ht h
def chk (t:Tr):Int:=if 700<t.nodes.length\/20<t.items.length then 5 else if frm t=true then(if JbH t=true then 5 else 0) else 4
theorem frm_some {t:Tr}(h:frm t=true):∃o,JA (Ju t.nodes) []=some o:=by
 unfold frm at h
 cases ho:JA (Ju t.nodes) []with
 |none=>rw[ho]at h;cases h
 |some o=>exact⟨o,rfl⟩
theorem parseCheck (t:Tr)(ht:t.Fit):Fn Ga 128 [t.cv] (.int .i64 (chk t)):=by
 refine Jc c128_ok rfl rfl λN=>?_
 simp +contextual only[c128,go_sem,Tr.cv,Tr.row];refine Je (id:=0) (z:=2) (els:=[t.row]) rfl rfl ?_;simp only[go_sem,JV,Kv,frz,Qj];refine Kk (isGreat t) ?_;by_cases h1:700<t.nodes.length\/20<t.items.length
 ·have hc:chk t=5:=by unfold chk;rw[if_pos h1]
  rw[decide_eq_true h1,hc];simp +contextual only[go_sem]
 ·rw[decide_eq_false h1];simp +contextual only[go_sem,Tr.row];refine Kk (isForm t ht) ?_
  cases h2:frm t with
  |false=>
   have hc:chk t=4:=by unfold chk;rw[if_neg h1,if_neg (by rw[h2];simp)]
   rw[hc];simp +contextual only[go_sem]
  |true=>
   obtain⟨o,ho⟩:=frm_some h2;have hc:chk t=if JbH t=true then 5 else 0:=by unfold chk;rw[if_neg h1,if_pos h2]
   rw[hc];simp +contextual only[go_sem];refine Kk (isDeep t ht ho) ?_
   cases h3:JbH t with
   |false=>simp +contextual only[go_sem]
   |true=>simp +contextual only[go_sem]
end Go.Cm
end
section
open Go.Proofs
namespace Go.Cm
variable {K:LP}{o:Lu}{d m:Nat}{l:LC}{e k:Int}
theorem JdO(hl:o.length=K.length)(h:∀(j:Nat) ks,K[j]? = some ks->∃f,o[j]? = some f/\Qr o ks.reverse ((j:Int)-1)=some (f-1)):JA K []=some o:=by
 have key:∀i,i<=K.length->JA (K.take i) []=some (o.take i):=by
  intro i
  induction i with
  |zero=>intro _;simp[JA]
  |succ i ih=>
   intro hi;have h1:=ih om;obtain⟨ks,hk⟩:∃ks,K[i]? = some ks:=⟨_,Gc om⟩;obtain⟨f,hf,hb⟩:=h i ks hk;have hs:=(JbC h1 hk).1;have ho:=QL _ _ _ Q8.nil h1;have Aj:(o.take i).length=i:=by rw[Gy];omega
   have Cb:Qr (o.take i) ks.reverse ((i:Int)-1)=some (f-1):=by rw[<-YL (t:=o.drop i) ho ks.reverse _ (by rw[Aj];omega),Gx];exact hb
   have Al:Jdx (o.take i) ks=some f:=by unfold Jdx;rw[Aj,Cb];simp
   rw[hs,Al,G6,hf];rfl
 have:=key K.length (Gi _);rw[Gj,<-hl,Gj]at this;exact this
theorem Jf6 {out out':Lu}{d:Int}(hd:0<=d):∀(ks:Lu) (a:Int),(∀k∈ks,d<=k/\out'.getD (k + -d).toNat 0=out.getD k.toNat 0 + -d)->Qr out' (ks.map (· + -d)) (a + -d)=(Qr out ks a).map (· + -d)
 |[],a,_=>rfl
 |k::ks,a,h=>by
  obtain⟨h1,h2⟩:=h k sM;simp only[Gh,Qr];by_cases hc:a<0\/k≠a
  ·rw[if_pos hc,iP7];rfl
  ·rw[if_neg hc,iN7,h2,show out.getD k.toNat 0 + -d-1=(out.getD k.toNat 0-1) + -d by omega];exact Jf6 hd ks _ λx hx=>h x (by simp[hx])
theorem getD_seg {l:Lu}(h1:d<=k)(h2:k<m)(h3:m<=l.length):(((l.take m).drop d).map (· + e)).getD (k + -(d:Int)).toNat 0=l.getD k.toNat 0+e:=by
 have h4:(k + -(d:Int)).toNat=k.toNat-d:=om
 have h5:k.toNat<l.length:=om
 rw[h4,Gb,Gp,Gn,Gu,iP7,show d+(k.toNat-d)=k.toNat by omega,Gb,Gc h5];rfl
section
variable(t:Ordd K o)(M9:d<=m)(hm:m<=K.length)(AO:∀j:Nat,d<=j->j<m->(d:Int)<=fs o j)
include t AO
theorem JhI {j:Nat}(h1:d<=j)(h2:j<m){ks:Lu}(hj:K[j]? = some ks)(hk:k∈ks):(d:Int)<=k/\k<j:=by have:=t.kid_rng hj hk;have Ab:=(Gf.1 hj).1;have h3:=t.rng (j:=k) om om;have:=AO j h1 h2;omega
include hm
theorem seg_firsts:JA (((K.take m).drop d).map λks=>ks.map (· + -(d:Int))) []=some (((o.take m).drop d).map (· + -(d:Int))):=by
 have Bf:=t.len;refine JdO (by simp[Bf]) λj ks hj=>?_
 rw[Gp,Gn,Gu]at hj;by_cases Ab:d+j<m
 ·rw[if_pos Ab]at hj;obtain⟨ks0,Ca,rfl⟩:∃ks0,K[d+j]? = some ks0/\ks0.map (· + -(d:Int))=ks:=by
   cases h:K[d+j]? with
   |none=>rw[h]at hj;simp at hj
   |some x=>rw[h]at hj;exact⟨x,rfl,by simpa using hj⟩
  obtain⟨f,hf,hb⟩:=XH t.h Ca;refine⟨f + -(d:Int),?_,?_⟩
  ·rw[Gp,Gn,Gu,if_pos Ab,hf];rfl
  ·have:=Jf6 (out:=o) (out':=((o.take m).drop d).map (· + -(d:Int))) (d:=d) om ks0.reverse (((d+j:Nat):Int)-1) (λk hk=>by have hr:=JhI t AO (GN d j) Ab Ca (List.mem_reverse.1 hk);exact⟨hr.1,getD_seg hr.1 om om⟩)
   rw[hb,List.map_reverse,show ((d+j:Nat):Int)-1 + -(d:Int)=(j:Int)-1 by omega]at this;rw[this];simp only[He]
   congr 1;omega
 ·rw[if_neg Ab]at hj;simp at hj
end
theorem deepF_pre:∀(K:LP) (d:Lu),∃t,KJ K d=d++t
 |[],d=>⟨[],by simp[KJ]⟩
 |ks::K,d=>by obtain⟨t,ht⟩:=deepF_pre K (d++[Jgh d ks]);exact⟨_,by rw[KJ,ht,List.append_assoc]⟩
theorem JaC(hm:m<=K.length):KJ (K.take m) []=(KJ K []).take m:=by
 have h:=JfR (K.take m) (K.drop m) [];rw[Gx]at h;obtain⟨t,ht⟩:=deepF_pre (K.drop m) (KJ (K.take m) []);have hl:=Xj (K.take m) [];simp only[Gz,GD,Gy]at hl;have Ec:(KJ (K.take m) []).length=m:=by rw[hl];exact Hf hm
 rw[h,ht,List.take_left' Ec]
theorem JgK {D D':Lu}(ks:Lu)(h:∀k∈ks,D'.getD (k+e).toNat 0=D.getD k.toNat 0):Jgh D' (ks.map (· + e))=Jgh D ks:=by
 unfold Jgh;have key:∀(l:Lu) (a:Int),(∀k∈l,D'.getD (k+e).toNat 0=D.getD k.toNat 0)->(l.map (· + e)).foldl (λa k=>mx a (D'.getD k.toNat 0+1)) a=l.foldl (λa k=>mx a (D.getD k.toNat 0+1)) a:=by
  intro l
  induction l with
  |nil=>intro a _;rfl
  |cons k l ih=>intro a h;rw[Gh,GI,GI,h k sM];exact ih _ λx hx=>h x (by simp[hx])
 exact key ks 1 h
theorem seg_deep(t:Ordd K o)(M9:d<=m)(hm:m<=K.length)(AO:∀j:Nat,d<=j->j<m->(d:Int)<=fs o j):KJ (((K.take m).drop d).map λks=>ks.map (· + -(d:Int))) []=((KJ K []).take m).drop d:=by
 have kN:=Xj K [];simp only[Gz,GD]at kN;generalize fU:(((K.take m).drop d).map λks=>ks.map (· + -(d:Int)))=K';have Sy:K'.length=m-d:=by rw[<-fU];simp;omega
 have key:∀i,i<=m-d->KJ (K'.take i) []=((KJ K []).take (d+i)).drop d:=by
  intro i
  induction i with
  |zero=>intro _;simp[KJ]
  |succ i ih=>
   intro hi;obtain⟨ks0,Ca⟩:∃ks0,K[d+i]? = some ks0:=⟨_,Gc om⟩;have hk:K'[i]? = some (ks0.map (· + -(d:Int))):=by rw[<-fU,Gp,Gn,Gu,iP7,Ca];rfl
   rw[JaD hk,ih om,<-Nat.add_assoc];have h2:=JaD Ca;rw[JaC om,JaC om]at h2;rw[h2,List.drop_append_of_le_length (by rw[Gy];omega)]
   congr 2
   refine JgK ks0 λk hk=>?_
   have hr:=JhI t AO (GN d i) om Ca hk;have h4:(k + -(d:Int)).toNat=k.toNat-d:=om
   rw[h4,Gb,Gb,Gn,show d+(k.toNat-d)=k.toNat by omega]
 have:=key (m-d) (Gi _);rw[Gs om,show d+(m-d)=m by omega]at this;exact this
def mvN (d:Int)(x:Nd):Nd:={ x with kids:=x.kids.map (· + d) }
def segN (l:LC)(d m:Nat):LC:=((l.take m).drop d).map (mvN (-(d:Int)))
theorem segN_len(hm:m<=l.length):(segN l d m).length=m-d:=by simp[segN];omega
theorem segN_get{j:Nat}(h:d+j<m)(hm:m<=l.length):(segN l d m)[j]? = some (mvN (-(d:Int)) (l.getD (d+j) default)):=by rw[segN,Gp,Gn,Gu,if_pos h,Gb,Gc om];rfl
theorem segN_kids:Ju (segN l d m)=(((Ju l).take m).drop d).map λks=>ks.map (· + -(d:Int)):=by simp only[Ju,segN,GL,List.map_take,List.map_drop];rfl
theorem segN_kind(h1:d<=k)(h2:k<m)(hm:m<=l.length):Jo (segN l d m) (k + -(d:Int))=Jo l k:=by
 have h4:(k + -(d:Int)).toNat=k.toNat-d:=om
 unfold Jo;rw[h4,Gb,segN_get om hm,show d+(k.toNat-d)=k.toNat by omega];rfl
structure GoodT (t:Tr)(o:Lu):Prop where
 many:t.nodes.length<=700
 items:t.items.length<=20
 ord:Ordd (Ju t.nodes) o
 its:chain o t.nodes.length 0 t.items t.nodes.length
 defs:∀i∈t.items,Jo t.nodes i=65
 nds:∀x∈t.nodes,ndI t.nodes x=true
 deep:∀v∈KJ (Ju t.nodes) [],v<=30
theorem Kj:(Ju l).length=l.length:=by simp[Ju]
theorem JeJ (t:Tr):chk t=0↔∃o,GoodT t o:=by
 constructor
 ·intro h;unfold chk at h
  split at h
  ·simp at h
  ·rename_i h1
   split at h
   ·rename_i h2
    split at h
    ·simp at h
    ·rename_i h3;obtain⟨o,ho⟩:=frm_some h2;unfold frm at h2;rw[ho]at h2;simp only[Gq,G9]at h2;have Aq:=QL _ _ _ Q8.nil ho;have Bf:=QR _ _ _ ho;simp only[Gz,GD,Kj]at Bf;obtain⟨c1,c2⟩:=(Ym Aq Bf t.items 0 om).1 h2.1;refine⟨o,⟨om,om,⟨ho⟩,c1,λi hi=>by simpa using c2 i hi,h2.2,λv hv=>?_⟩⟩;by_cases Ej:v<=30
     ·exact Ej
     ·refine absurd ?_ h3;unfold JbH;rw[G8];exact⟨v,hv,by simpa using Int.not_le.1 Ej⟩
   ·simp at h
 ·rintro⟨o,g⟩;have h1:=g.many;have h2:=g.items;unfold chk;rw[iN7,if_pos,if_neg]
  ·unfold JbH;rw[G8];rintro⟨v,hv,hd⟩;have:=g.deep v hv;simp only[decide_eq_true_eq]at hd;omega
  ·unfold frm;rw[g.ord.h];have Bf:=g.ord.len;rw[Kj]at Bf;simp only[Gq,G9];refine⟨(Ym g.ord.ok Bf t.items 0 om).2 ⟨g.its,λi hi=>by simpa using g.defs i hi⟩,g.nds⟩
namespace GoodT
variable {t:Tr}(g:GoodT t o)
include g
theorem olen:o.length=t.nodes.length:=by rw[g.ord.len,Kj]
theorem kid {j:Nat}(hj:j<t.nodes.length)(hk:k∈(t.nodes.getD j default).kids):0<=k/\k<j:=by have:=g.ord.kid_rng (JK hj) hk;omega
theorem seg(M9:d<=m)(hm:m<=t.nodes.length)(AO:∀j:Nat,d<=j->j<m->(d:Int)<=fs o j)(its:Lu)(h1:its.length<=20)
  (h2:chain (((o.take m).drop d).map (· + -(d:Int))) (m-d) 0 its (m-d:Nat)) (h3:∀i∈its,Jo (segN t.nodes d m) i=65):GoodT ⟨segN t.nodes d m,its⟩ (((o.take m).drop d).map (· + -(d:Int))):=by
 have eu:m<=(Ju t.nodes).length:=by rw[Kj];exact hm
 have hl:=segN_len (d:=d) hm;have Ah:=g.many;refine⟨by simp only[hl];omega,h1,⟨?_⟩,by simp only[hl];exact h2,h3,?_,?_⟩
 ·simp only[segN_kids];exact seg_firsts g.ord eu AO
 ·intro x hx;obtain⟨j,hj⟩:=GY hx;simp only at hj hx;have Ba:j<m-d:=by have:=(Gf.1 hj).1;omega
  rw[segN_get om hm,Option.some.injEq]at hj;subst hj;have Ab:d+j<t.nodes.length:=om
  have hn:=g.nds (t.nodes.getD (d+j) default) (by rw[Gb,Gc Ab];exact Gv Ab);have Sr:lets (segN t.nodes d m) (mvN (-(d:Int)) (t.nodes.getD (d+j) default))=lets t.nodes (t.nodes.getD (d+j) default):=by
   unfold lets mvN;simp only[GL];refine List.map_congr_left λk hk=>?_
   have hr:=JhI g.ord AO (GN d j) om (JK Ab) hk;simp only[Function.comp_apply];rw[segN_kind hr.1 om hm]
  unfold ndI at hn|-;simp only at hn|-;rw[Sr];exact hn
 ·intro v hv;simp only[segN_kids]at hv;rw[seg_deep g.ord M9 eu AO]at hv;exact g.deep v (List.mem_of_mem_take (List.mem_of_mem_drop hv))
end GoodT
end Go.Cm
end
end
