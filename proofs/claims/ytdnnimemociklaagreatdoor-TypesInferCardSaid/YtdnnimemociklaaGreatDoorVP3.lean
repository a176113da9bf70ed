/-
  A part of the proof. Conditions: none.
-/
import Derived.Test.YtdnnimemociklaaGreatDoorVA6
import Derived.Test.YtdnnimemociklaaGreatDoorVI3
import Derived.Test.YtdnnimemociklaaGreatDoorVS1
import Derived.BigCall
import Derived.Shelf.Strings.Builder1
set_option linter.unusedSimpArgs false
set_option linter.unusedVariables false
open Go.Proofs.Tryz renaming prog->Ga
open Bool renaming eq_iff_iff->Gf,and_eq_true->Gm,eq_false_or_eq_true->GH,or_eq_false_iff->GI,false_and->GJ
open Int renaming cast_ofNat_Int->Gd
open List renaming getD_eq_getElem?_getD->Gc,getElem?_eq_getElem->Gb,getElem?_eq_some_iff->Gg,take_succ_eq_append_getElem->Gi,drop_eq_getElem_cons->Gn,mem_of_getElem?->Gp,take_of_length_le->Gs,take_length->Gq,map_cons->Gj,getElem_mem->Gt,take_append_drop->Gv,takeWhile_cons->Gw,length->Gr,map_nil->Gu,length_cons->Gx,length_nil->Gy,replicate->Gz,prefix_iff_eq_take->GK,mem_cons->GA,takeWhile_prefix->GL,mem_singleton->GM,all_takeWhile->GN,foldl_append->GQ,length_take->GR,any_eq_true->GU,all_eq_true->GV,any_cons->GX
open Option renaming bind_some->GD,getD_some->GY
open Nat renaming le_of_lt->Gh,le_refl->Gl,zero_add->GG,min_eq_left->GZ,le_trans->G5
noncomputable section
section
open Go.Proofs
namespace Go.Cm
variable {a f i:Nat}{α:Type}{l:Lv}{q:UInt8->Bool}
theorem nm:(Ga.funcs[f]?.map (·.name))≠some "runtime.NumGoroutine" :=Jcq pNames f
def isLt (c:UInt8):Bool:=decide (97<=c.toNat) && decide (c.toNat<=122)
def isBk (c:UInt8):Bool:=c == 32 || c == 10
def isGp (c:UInt8):Bool:=isBk c || c == 126
theorem dle (a:Nat)(c:UInt8):decide ((a:Int)<=(c.toNat:Int))=decide (a<=c.toNat):=decide_eq_decide.2 om
theorem dge (a:Nat)(c:UInt8):decide ((c.toNat:Int)<=(a:Int))=decide (c.toNat<=a):=decide_eq_decide.2 om
theorem deq (a:Nat)(ha:a<256)(c:UInt8):((c.toNat:Int) == (a:Int))=(c == UInt8.ofNat a):=by
 rw[Gf];simp only[beq_iff_eq]
 constructor
 ·intro h;apply UInt8.toNat_inj.1;simp;omega
 ·intro h;rw[h];simp;omega
theorem JeT (c:UInt8):Fn Ga 265 [.int .u8 c.toNat] (.bool (isLt c)):=by
 refine Jc c265_ok rfl rfl λN=>?_
 have h1:=dle 97 c;have h2:=dge 122 c;simp only[Gd]at h1 h2;simp +contextual only[c265,go_sem,h1,h2,isLt]
theorem Jdd (c:UInt8):Fn Ga 267 [.int .u8 c.toNat] (.bool (Xx c)):=by
 refine Jc c267_ok rfl rfl λN=>?_
 have h1:=dle 48 c;have h2:=dge 57 c;simp only[Gd]at h1 h2;simp +contextual only[c267,go_sem,h1,h2,Xx]
theorem lexIsBlank (c:UInt8):Fn Ga 264 [.int .u8 c.toNat] (.bool (isBk c)):=by
 refine Jc c264_ok rfl rfl λN=>?_
 have h1:=deq 32 vk c;have h2:=deq 10 vk c;simp only[Gd]at h1 h2;simp +contextual only[c264,go_sem,h1,h2];show ((c == 32)=false->CV.bool (c == 10)=CV.bool ((c == 32) || (c == 10)))/\((c == 32)=true->CV.bool true=CV.bool ((c == 32) || (c == 10)))
 cases (c == 32) <;> simp
theorem lexIsGap (c:UInt8):Fn Ga 252 [.int .u8 c.toNat] (.bool (isGp c)):=by
 refine Jc c252_ok rfl rfl λN=>?_
 have h1:=deq 126 vk c;simp only[Gd]at h1;simp +contextual only[c252,go_sem];refine J3 (lexIsBlank c) ?_;simp +contextual only[go_sem,h1]
 cases h:isBk c with
 |true=>simp[isGp,h]
 |false=>simp[isGp,h]
def XT {α:Type}(q:α->Bool):List α->Nat->Int
 |[],_=>-1
 |p::l,i=>if q p then i else XT q l (i+1)
theorem Xn{q:α->Bool}{l:List α}{p:α}(h:l[i]? = some p):XT q (l.drop i) i=if q p then(i:Int) else XT q (l.drop (i+1)) (i+1):=by have Ab:=(Gg.1 h).1;have hp:=(Gg.1 h).2;rw[Gn Ab,hp];rfl
theorem fixA_neg{q:α->Bool}:∀(l:List α) (i:Nat),XT q l i<0↔l.any q=false
 |[],_=>by simp[XT]
 |p::l,i=>by
  have:=fixA_neg (q:=q) l (i+1);simp only[XT,GX,GI];by_cases h:q p=true
  ·simp only[h,if_true,Bool.true_eq_false,false_and,iff_false];omega
  ·have h':q p=false:=by simpa using h
   rw[if_neg h,this];simp[h']
theorem JaD{q:α->Bool}(l:List α):decide (0<=XT q l 0)=l.any q:=by
 have h:=fixA_neg (q:=q) l 0
 cases h2:l.any q with
 |true=>rw[decide_eq_true_eq];rw[h2]at h;simp at h;exact h
 |false=>rw[decide_eq_false_iff_not];have:=h.2 h2;omega
structure FnQ where
 f:Nat
 q:UInt8->Bool
def Jhy (p:FnQ):Prop:=(∃F,Jd Ga p.f=some F)/\∀c:UInt8,Fn Ga p.f [.int .u8 c.toNat] (.bool (p.q c))
def qLt:FnQ:=⟨265,isLt⟩
def qDg:FnQ:=⟨267,Xx⟩
theorem qLt_ok:Jhy qLt:=⟨⟨_,c265_ok⟩,JeT⟩
theorem qDg_ok:Jhy qDg:=⟨⟨_,c267_ok⟩,Jdd⟩
def fnz (l:List FnQ):LM:=l.map λp=>[.fn p.f [] []]
theorem fnz_len {l:List FnQ}:(fnz l).length=l.length:=by simp[fnz]
theorem fnz_get {l:List FnQ}{p:FnQ}(h:l[i]? = some p):(fnz l).getD i []=[.fn p.f [] []]:=by simp[fnz,Gc,h]
section
variable {E:Env}{H:Lt}{id:Nat}{at_:Nat}
theorem run1 (hH:H[id]? = some (.arr 1 [[.int .i64 (at_:Int)]]))(Ab:at_<l.length)(p:FnQ)(hp:Jhy p):Pure Ga E 274 [.fn p.f [] [],.rptr [S l],.ptr id 0 0] H (.bool (p.q (l.getD at_ 0))):=by
 obtain⟨⟨F,hF⟩,hq⟩:=hp;refine Ke c274_ok λN=>?_
 simp +contextual only[c274,go_sem,hH];refine⟨⟨om,om⟩,?_⟩;refine vr_fv (.inl rfl) rfl hF nm (hq _) ?_;simp +contextual only[go_sem]
theorem vr_pcallv {P:Program}{n0:Nat}{N:Fr}{Q:Exit->Ls->Lt->Prop}{T:Ls}{k:LJ}{d:Option Nat}{g:Option (Nat×Bool)}{x:IArg}{l1 l2:Ls}{xs:LK}{l:LB}{v:CV}{F:IFunc}(hg:GOk T g) (hx:Kb T x=.fn f l1 l2) (hF:Jd P f=some F) (EP:(P.funcs[f]?.map (·.name))≠some "runtime.NumGoroutine")
  (Ah:Pure P E f (l1++xs.map (Kb T)++l2) H v) (h:Ky P E n0 N Q (.ops l::k) (put T d v) H):Ok P E n0 N Q (.ops (⟨d,.callv x xs,g⟩::l)::k) T H:=by
 have Bl:∃fn,P.funcs[f]? = some fn/\fn.body.isSome=true:=by
  unfold Jd at hF
  split at hF
  ·rename_i fn Bl
   split at hF
   ·rename_i c hb;exact⟨fn,Bl,by rw[hb];rfl⟩
   ·cases hF
  ·cases hF
 obtain⟨fn,Bl,Ei⟩:=Bl;exact Jhh hg hx Bl Ei (λe=>EP (by rw[Bl,<-e];rfl)) Ah λv' H' ⟨h1,h2⟩=>by rw[h1,h2];exact JC _ _ _ h
theorem indexF (hH:H[id]? = some (.arr 1 [[.int .i64 (at_:Int)]]))(Ab:at_<l.length)(fs:List FnQ)(cap:Option Nat)(Eg:∀p∈fs,Jhy p)(hl:fs.length<=1000) :
  Pure Ga E 282 [.rslc 1 (fnz fs) cap,.fn 274 [] [.rptr [S l],.ptr id 0 0]] H (.int .i64 (XT (λp=>p.q (l.getD at_ 0)) fs 0)):=by
 generalize hQ:(λp:FnQ=>p.q (l.getD at_ 0))=q;refine Ke c282_ok λN=>?_
 simp +contextual only[c282,go_sem,fnz_len];refine JL (I:=λi:Nat=>i<=fs.length/\XT q fs 0=XT q (fs.drop i) i) (inv:=λi=>gp [(0,.rslc 1 (fnz fs) cap),(0,.fn 274 [] [.rptr [S l],.ptr id 0 0]),(5,.int .i64 fs.length),(0,.int .i64 i)] 10) (hp:=λ_=>H) (μ:=λi=>fs.length-i) 0 ?_ ?_ rfl ?_
 ·simp
 ·simp[forget,gp]
 ·rintro i ⟨hi,Aa⟩;simp +contextual only[go_sem,fnz_len];refine⟨λh=>?_,λh=>?_⟩
  ·have Ed:i<fs.length:=om
   obtain⟨p,hp⟩:∃p,fs[i]? = some p:=⟨_,Gb Ed⟩;rw[Xn hp]at Aa;rw[fnz_get hp];refine anO ?_;simp +contextual only[go_sem];refine vr_pcallv (.inl rfl) rfl c274_ok nm (run1 hH Ab p (Eg p (Gp hp))) ?_;have Ip:p.q (l.getD at_ 0)=q p:=by rw[<-hQ]
   rw[Ip];simp only[go_sem];refine⟨λh2=>?_,λh2=>?_⟩
   ·rw[Aa,if_pos h2]
   ·rw[h2]at Aa;refine⟨Jg,i+1,⟨om,by simpa using Aa⟩,om,?_⟩;simp[forget]
  ·have:i=fs.length:=om
   subst this;rw[Aa];simp[XT]
theorem containsF (hH:H[id]? = some (.arr 1 [[.int .i64 (at_:Int)]]))(Ab:at_<l.length)(fs:List FnQ)(cap:Option Nat)(Eg:∀p∈fs,Jhy p)(hl:fs.length<=1000) :
  Pure Ga E 278 [.rslc 1 (fnz fs) cap,.fn 274 [] [.rptr [S l],.ptr id 0 0]] H (.bool (fs.any λp=>p.q (l.getD at_ 0))):=by
 refine Ke c278_ok λN=>?_
 simp +contextual only[c278,go_sem];refine JaR (indexF hH Ab fs cap Eg hl) ?_;simp +contextual only[go_sem,JaD]
theorem noneF (hH:H[id]? = some (.arr 1 [[.int .i64 (at_:Int)]]))(Ab:at_<l.length)(fs:List FnQ)(cap:Option Nat)(Eg:∀p∈fs,Jhy p)(hl:fs.length<=1000) :
  Pure Ga E 273 [.rslc 1 (fnz fs) cap,.fn 274 [] [.rptr [S l],.ptr id 0 0]] H (.bool (!fs.any λp=>p.q (l.getD at_ 0))):=by
 refine Ke c273_ok λN=>?_
 simp +contextual only[c273,go_sem];refine JaR (containsF hH Ab fs cap Eg hl) ?_;simp +contextual only[go_sem]
end
def Xi (q:UInt8->Bool)(l:Lv)(a:Nat):Nat:=a+((l.drop a).takeWhile q).length
theorem Y3(h:a<=l.length):Xi q l a<=l.length:=by unfold Xi;have:=(List.takeWhile_sublist (l:=l.drop a) q).length_le;simp at this;omega
theorem runE_end(h:l.length<=a):Xi q l a=a:=by unfold Xi;rw[List.drop_eq_nil_of_le h];rfl
theorem JdP(h:a<l.length)(hq:q (l.getD a 0)=true):Xi q l a=Xi q l (a+1):=by unfold Xi;rw[Gc,Gb h]at hq;simp only[GY]at hq;rw[Gn h,Gw,if_pos hq];simp;omega
theorem Jet(h:a<l.length)(hq:q (l.getD a 0)=false):Xi q l a=a:=by unfold Xi;rw[Gc,Gb h]at hq;simp only[GY]at hq;rw[Gn h,Gw,hq];simp
theorem lexRun (l:Lv)(a:Nat)(fs:List FnQ)(cap:Option Nat)(Eg:∀p∈fs,Jhy p)(hl:fs.length<=1000)(Cx:l.length<=1000000)(ha:a<=l.length) :
  Fn Ga 266 [S l,.int .i64 (a:Int),.rslc 1 (fnz fs) cap] (.int .i64 (Xi (λc=>fs.any λp=>p.q c) l a:Nat)):=by
 generalize hQ:(λc=>fs.any λp:FnQ=>p.q c)=q;refine Jc c266_ok rfl rfl λN=>?_
 simp +contextual only[c266,go_sem];refine Je (id:=0) (z:=1) (els:=[[S l]]) rfl rfl ?_;simp only[go_sem,JM,KA,frz,Kn];refine JL (I:=λi:Nat=>i<=l.length/\Xi q l a=Xi q l i) (inv:=λi=>gp [(2,.rslc 1 (fnz fs) cap),(0,.rptr [S l]),(0,.ptr 1 0 0)] 15) (hp:=λi=>[.dead,.arr 1 [[.int .i64 (i:Int)]]]) (μ:=λi=>l.length-i) a ⟨ha,rfl⟩ ?_ rfl ?_
 ·simp[forget,gp]
 ·rintro i ⟨hi,Aa⟩;simp +contextual only[go_sem];by_cases Ab:i<l.length
  ·have d1:=dtT i l.length;simp +contextual only[go_sem,d1];refine vr_pureg (gok rfl) (noneF (id:=1) (l:=l) (at_:=i) rfl Ab fs cap Eg hl) ?_;have hq:(fs.any λp=>p.q (l.getD i 0))=q (l.getD i 0):=by rw[<-hQ]
   rw[hq]
   cases CS:q (l.getD i 0) with
   |true=>simp +contextual only[go_sem];refine⟨Jg,i+1,⟨om,by rw[Aa,JdP Ab CS]⟩,om,sM,?_⟩;simp[forget]
   |false=>simp +contextual only[go_sem];rw[Aa,Jet Ab CS]
  ·have d1:=dfF i l.length;simp +contextual only[go_sem,d1];rw[Aa,runE_end om]
end Go.Cm
end
section
open Go.Proofs Go.RowKit
namespace Go.Cm
theorem repL_eq (c:UInt8):∀n,Lib.repeatL [c] n=Gz n c
 |0=>rfl
 |n+1=>by
  have:=repL_eq c n;simp[Lib.repeatL,List.replicate_succ]at this|-
  first|exact this|(rw[this])
theorem cntL_eq (c:UInt8)(l:Lv):Lib.countByte l c=Qy c l:=rfl
theorem cntB_le (c:UInt8)(l:Lv):Qy c l<=l.length:=List.count_le_length
theorem repeatL (c:UInt8)(n:Nat)(hn:n<=1000000):Fn Ga 214 [S [c],.int .i64 n] (S (Gz n c)):=by
 intro E H;refine KZ λm w vs hs hv=>?_
 simp only[JY,rel]at hv;obtain⟨r,rs,e,rfl,r2,rs2,rfl,rfl,rfl⟩:=hv;have BF:vs=#[.string ⟨⟨[c]⟩⟩,.int .i64 n]:=by cases vs;simp_all
 subst BF;refine⟨_,Tryz.strings_Repeat ⟨⟨[c]⟩⟩ n w om ?_,?_⟩
 ·simp[S_size];omega
 ·rw[repL_eq];rfl
theorem countL (l:Lv)(c:UInt8):Fn Ga 215 [S l,S [c]] (.int .i64 (Qy c l)):=by
 intro E H;refine KZ λm w vs hs hv=>?_
 simp only[JY,rel]at hv;obtain⟨r,rs,e,rfl,r2,rs2,rfl,rfl,rfl⟩:=hv;have BF:vs=#[.string ⟨⟨l⟩⟩,.string ⟨#[c]⟩]:=by cases vs;simp_all
 subst BF;refine⟨_,(Tryz.strings_Count_one ⟨⟨l⟩⟩ c w).mono λe w' ⟨h1,h2⟩=>⟨h1,by rw[h2];exact Below.refl _ _⟩,?_⟩;rw[cntL_eq];rfl
end Go.Cm
end
section
open Go.Shelf Go.RowKit Go.Proofs
namespace Go.Proofs
theorem Tryz.tab_of {w:World}(h:Go.Cm.GLw w):Lib.TabIs Ga w "internal/strconv.uint64pow10" .u64 Lib.pow10Tab:=by
 obtain⟨_,⟨e,q,h1⟩,_⟩:=h
 have hg:Ga.globalNamed "internal/strconv.uint64pow10" = some Go.Cm.gTab:=by kernel_rfl
 simp only[show Go.Cm.gTab<Go.Cm.gN by decide,if_true]at h1;simp only[Lib.TabIs,World.var?,hg,GD,h1]
theorem Tryz.err_of {w:World}(h:Go.Cm.GLw w){B:Nat}(hB:B∈Go.Cm.gErr):∃te pe,w.cell? ⟨B,0,none⟩=some (.iface te pe):=by
 obtain⟨te,pe,e,q,h1⟩:=h.2.2 B hB;have Ab:B<Go.Cm.gN:=by
  have:∀x∈Go.Cm.gErr,x<Go.Cm.gN:=by decide
  exact this B hB
 simp only[if_pos Ab]at h1;exact⟨te,pe,by simp[World.cell?,h1]⟩
theorem Tryz.GLw_below {w w':World}(h:Go.Cm.GLw w)(hb:Below w.heap.size w w'):Go.Cm.GLw w':=h.mono λB hB=>hb.block B (h.lt hB)
open Go.Cm in
set_option maxHeartbeats 4000000 in
set_option maxRecDepth 100000 in
theorem Tryz.isNumber_walk (l:List UInt8)(hd:l.all Xx=true)(Ai:l≠[])(hl:l.length<=1000000)(w:World)(hg:GLw w) :
  Calls Ga 269 #[.string ⟨⟨l⟩⟩] w λe w'=>e=.returned (.bool (Jb0 l))/\Below w.heap.size w w':=by
 have hat:=atoi_digits l hd Ai;have iF:=digits_back _ l rfl hd Ai;by_cases hr:JcI l<9223372036854775808
 ·rw[if_pos hr]at hat;have Ao:Jb0 l=(decide (JcI l<=1000000000) && (Lib.decDigits (JcI l) == l)):=by
   unfold Jb0
   congr 1
   rw[Gf];simp only[decide_eq_true_eq,beq_iff_eq];exact iF.symm
  rw[Ao];generalize JcI l=v at hat hr;have grow_below:∀(w:World) (k:Nat) (os:Array Obj),Below w.heap.size w (Go.Sort.grow (w.drewN k) os):=λw k os=>
   ⟨rfl,rfl,rfl,by simp[Go.Sort.grow,World.drewN],λi hi=>by simp only[Go.Sort.grow,World.drewN];rw[Array.getElem?_append_left hi]⟩
  by_cases hv:v<=1000000000
  ·rw[decide_eq_true hv,Bool.true_and];have d2:((v:Int)<=1000000000):=by omega
   go_enter Tryz.func269,Tryz.ntmps269
   go_wp2_with (go_at_call 275;refine(Tryz.strconv_Atoi_ok ⟨⟨l⟩⟩ (by simp[ByteArray.size];omega) v hat _).mono ?_;rintro e W1 ⟨rfl,hW⟩)
   have C8:Below w.heap.size w W1:=by
    rcases hW with rfl|⟨t,rfl⟩
    ·exact Below.refl _ _
    ·exact Lib.bytesWorld_below _ _ _
   have FZ:=Tryz.GLw_below hg C8;clear hW
   go_wp2_with (go_at_call 276;refine(Tryz.strconv_Itoa (v:Int) (by omega) (by omega) _ (Tryz.tab_of FZ)).mono ?_;rintro e W2 ⟨rfl,k,os,rfl⟩)
   rw[Lib.itoa_nonneg];have BX:=grow_below W1 k os;generalize Go.Sort.grow (W1.drewN k) os=W2 at BX|-
   go_wp2
   go_ret
   refine⟨?_,C8.trans (BX.mono C8.size)⟩
   congr 2
  ·rw[decide_eq_false hv,GJ];have d2:¬((v:Int)<=1000000000):=by omega
   go_enter Tryz.func269,Tryz.ntmps269
   go_wp2_with (go_at_call 275;refine(Tryz.strconv_Atoi_ok ⟨⟨l⟩⟩ (by simp[ByteArray.size];omega) v hat _).mono ?_;rintro e W1 ⟨rfl,hW⟩)
   have C8:Below w.heap.size w W1:=by
    rcases hW with rfl|⟨t,rfl⟩
    ·exact Below.refl _ _
    ·exact Lib.bytesWorld_below _ _ _
   clear hW
   go_wp2
   go_ret
   exact⟨rfl,C8⟩
 ·rw[if_neg hr]at hat;have Ao:Jb0 l=false:=by unfold Jb0;rw[decide_eq_false (by omega)];rfl
  rw[Ao];obtain⟨te,pe,iD⟩:=Tryz.err_of hg (B:=2) (by decide)
  go_enter Tryz.func269,Tryz.ntmps269
  go_wp2_with (go_at_call 275;refine(Tryz.strconv_Atoi_range ⟨⟨l⟩⟩ (by simp[ByteArray.size];omega) hat _ _ iD (.inr ⟨te,pe,rfl⟩)).mono ?_;rintro e W1 ⟨N,rfl,Ux,ku,C8⟩)
  go_wp2
  go_ret
  exact⟨rfl,C8⟩
end Go.Proofs
namespace Go.Cm
theorem isNumberL (l:Lv)(hd:l.all Xx=true)(Ai:l≠[])(hl:l.length<=1000000):Fn Ga 269 [S l] (.bool (Jb0 l)):=by
 intro E H;refine KZ λm w vs hs hv=>?_
 simp only[JY,rel]at hv;obtain⟨r,rs,e,rfl,rfl⟩:=hv;have BF:vs=#[.string ⟨⟨l⟩⟩]:=by cases vs;simp_all
 subst BF;exact⟨_,Tryz.isNumber_walk l hd Ai hl w hs.gl.1,rfl⟩
end Go.Cm
end
section
set_option maxRecDepth 100000
set_option maxHeartbeats 20000000
open Go.Proofs
namespace Go.Cm
variable {l:LQ}{a i:Nat}{q:UInt8->Bool}
def Qj (c:UInt8):Bool:=isLt c || Xx c
theorem any_ld:(λc:UInt8=>[qLt,qDg].any λp=>p.q c)=Qj:=by funext c;simp[qLt,qDg,Qj]
theorem any_d:(λc:UInt8=>[qDg].any λp=>p.q c)=Xx:=by funext c;simp[qDg]
def kws:LQ:=[[97,110,100],[97,114,114,97,121],[98,111,111,108],[98,121],[100,101,102],[100,111],[101,108,115,101],[101,109,112,116,121],[102,97,108,115,101],[103,105,118,101],[104,101,97,100],[105,102],[105,110],[105,110,116],[108,111,111,112],[110,101,120,116],[110,105,108],[110,111,116],[111,114],[115,105,122,101],[115,116,114,101,97,109],[116,97,105,108],[116,114,117,101],[119,104,105,108,101]]
def sgs:LQ:=[[58,58],[58,61],[45,62],[46,46],[61,61],[33,61],[60,61],[62,61],[60],[62],[61],[43],[45],[42],[47],[37],[35],[40],[41],[91],[93],[123],[125],[44],[59],[58]]
def sz (l:LQ):LM:=l.map λs=>[S s]
theorem JbO:(sz l).length=l.length:=by simp[sz]
theorem sz_get(h:i<l.length):(sz l).getD i []=[S (l.getD i [])]:=by simp[sz,Gc,Gb h]
theorem Jfq:Fn Ga 162 [] (.rslc 1 (sz kws) none):=by refine Jgi (Ke c162_ok λN=>?_) rfl;simp only[c162,go_sem];exact⟨_,_,_,_,_,rfl,rfl,vk,rfl,vM⟩
theorem apiSigns:Fn Ga 187 [] (.rslc 1 (sz sgs) none):=by refine Jgi (Ke c187_ok λN=>?_) rfl;simp only[c187,go_sem];exact⟨_,_,_,_,_,rfl,rfl,vk,rfl,vM⟩
theorem Jge (l p:Lv):Fn Ga 168 [S l,S p] (.bool (l.take p.length == p)):=by
 refine Jc c168_ok rfl rfl λN=>?_
 simp +contextual only[c168,go_sem];refine⟨λh=>om,λh=>?_⟩
 congr 1
 symm
 rw[beq_eq_false_iff_ne];intro e;have:=congrArg Gr e;simp at this;omega
theorem hasPrefix (l p:Lv):Fn Ga 234 [S l,S p] (.bool (l.take p.length == p)):=by
 refine Jc c234_ok rfl rfl λN=>?_
 simp +contextual only[c234,go_sem];refine J3 (Jge _ _) ?_;simp +contextual only[go_sem]
theorem S_beq (l m:Lv):((⟨⟨l⟩⟩:ByteArray) == ⟨⟨m⟩⟩)=(l == m):=by rw[beq_toListBytes];simp
def kwm (l:LQ):List (CV×CV):=l.map λs=>(S s,.bool true)
theorem kw_new{s:Lv}(h:s∉l):∀i,QY .str (S s) (kwm l) i=some none:=by
 induction l with
 |nil=>intro i;rfl
 |cons a l ih=>
  intro i;simp only[GA,not_or]at h;have e:JaP .str (S s) (S a)=some false:=by
   simp only[JaP,S_beq]
   congr 1
   rw[beq_eq_false_iff_ne];exact h.1
  simp only[kwm,Gj,QY,e];exact ih h.2 (i+1)
theorem kw_old{s:Lv}(h:s∈l):∀i,∃j,QY .str (S s) (kwm l) i=some (some (j,.bool true)):=by
 induction l with
 |nil=>cases h
 |cons a l ih=>
  intro i;by_cases ha:s=a
  ·subst ha;have e:JaP .str (S s) (S s)=some true:=by simp[JaP,S_beq]
   exact⟨i,by simp only[kwm,Gj,QY,e]⟩
  ·have hm:s∈l:=(GA.1 h).elim (λh=>absurd h ha) id
   have e:JaP .str (S s) (S a)=some false:=by
    simp only[JaP,S_beq]
    congr 1
    rw[beq_eq_false_iff_ne];exact ha
   obtain⟨j,hj⟩:=ih hm (i+1);exact⟨j,by simp only[kwm,Gj,QY,e];exact hj⟩
theorem kw_take_all:∀i:Fin 24,kws.getD i []∉kws.take i:=vM
theorem kw_take(h:i<kws.length):kws.getD i []∉kws.take i:=kw_take_all ⟨i,h⟩
theorem keywords {E:Env}{H:Lt}:CallsC Ga E 268 [] H λv H'=>v=.map H.length/\H'=H++[.map (kwm kws)]:=by
 refine Ke c268_ok λN=>?_
 simp +contextual only[c268,go_sem];refine J3 Jfq ?_;simp +contextual only[go_sem,JbO];refine JL (I:=λi:Nat=>i<=kws.length) (inv:=λi=>gp [(1,.map H.length),(3,.rslc 1 (sz kws) none),(0,.int .i64 kws.length),(0,.int .i64 i)] 7) (hp:=λi=>H++[.map (kwm (kws.take i))]) (μ:=λi=>kws.length-i) 0 om ?_ rfl ?_
 ·simp[forget,gp]
 ·intro i hi;simp +contextual only[go_sem,JbO];refine⟨λh=>?_,λh=>?_⟩
  ·have Ab:i<kws.length:=om
   rw[sz_get Ab];have hn:=kw_new (kw_take Ab) 0;have hs:kws.take (i+1)=kws.take i++[kws.getD i []]:=by rw[Gi Ab,Gc,Gb Ab];rfl
   refine anO ?_;simp +contextual only[go_sem,hn];have Aq:kws.length=24:=rfl;refine⟨Jg,i+1,om,om,?_,?_⟩
   ·rw[hs];simp[kwm]
   ·simp[forget]
  ·have:i=kws.length:=om
   subst this;rw[Gq]
def sgnF (r:Lv):LQ->Lv->Lv
 |[],b=>b
 |s::l,b=>sgnF r l (if r.take s.length=s/\b.length<s.length then s else b)
def sgnL (r:Lv):Lv:=sgnF r sgs []
def cut (l:Lv)(a b:Nat):Lv:=(l.take b).drop a
def tkL (l:Lv)(a:Nat):Nat×Lv×Bool:=
 if isLt (l.getD a 0)=true then
  (if kws.contains (cut l a (Xi Qj l a))=true then(1,cut l a (Xi Qj l a),true) else(2,cut l a (Xi Qj l a),decide ((cut l a (Xi Qj l a)).length<=12)))
 else if Xx (l.getD a 0)=true then(3,cut l a (Xi Xx l a),Jb0 (cut l a (Xi Xx l a)))
 else(4,sgnL (l.drop a),!(sgnL (l.drop a) == []))
def lxz (k:Nat)(x:Lv)(a:Int):Ls:=[.int .u8 k,S x,.int .i64 a]
def tkV (a:Nat)(t:Nat×Lv×Bool):CV:=.tup [.agg (lxz t.1 t.2.1 a),.bool t.2.2]
theorem Jbl {l:Lv}{b:Nat}(h1:a<=b)(h2:b<=l.length):(cut l a b).length=b-a:=by simp[cut];omega
theorem JbX{l:Lv}(h:a<l.length)(hq:q (l.getD a 0)=true):a<Xi q l a:=by rw[JdP h hq];unfold Xi;omega
theorem run_all{l:Lv}(ha:a<=l.length):(cut l a (Xi q l a)).all q=true:=by
 have e:cut l a (Xi q l a)=(l.drop a).takeWhile q:=by unfold cut Xi;rw[List.drop_take,Nat.add_sub_cancel_left];exact(GK.1 (GL q)).symm
 rw[e];exact GN
theorem sgnF_len {r:Lv}:∀(L:LQ) (b:Lv),b.length<=2->(∀s∈L,s.length<=2)->(sgnF r L b).length<=2
 |[],b,h,_=>h
 |s::L,b,h,hL=>by
  simp only[sgnF];refine sgnF_len L _ ?_ (λx hx=>hL x (by simp[hx]))
  split
  ·exact hL s sM
  ·exact h
theorem sgs_len:∀s∈sgs,s.length<=2:=vM
theorem tokenL (l:Lv)(a:Nat)(ha:a<l.length)(hl:l.length<=1000000):Fn Ga 253 [S l,.int .i64 (a:Int)] (tkV a (tkL l a)):=by
 refine Jc c253_ok rfl rfl λN=>?_
 simp +contextual only[c253,go_sem];refine anO ?_;refine J3 (JeT _) ?_;by_cases h1:isLt (l.getD a 0)=true
 ·have hE:=Y3 (q:=Qj) (Gh ha);have BS:a<=Xi Qj l a:=by unfold Xi;omega
  simp +contextual only[go_sem,h1];refine Je (id:=1) (z:=1) (els:=[[.fn 265 [] []],[.fn 267 [] []]]) rfl rfl ?_;simp only[go_sem,JM,KA,frz,Kn];have Rk:∀p∈[qLt,qDg],Jhy p:=by
   intro p hp;rcases GA.1 hp with rfl|hp
   ·exact qLt_ok
   ·rw[GM.1 hp];exact qDg_ok
  have Ak:=lexRun l a [qLt,qDg] none Rk sM hl (Gh ha);rw[any_ld,show fnz [qLt,qDg]=[[.fn 265 [] []],[.fn 267 [] []]] from rfl]at Ak;refine J3 Ak ?_;simp +contextual only[go_sem];refine anO ?_;have Cn:(l.take (Xi Qj l a)).drop a=cut l a (Xi Qj l a):=rfl;simp only[Cn];have hT:tkL l a=if kws.contains (cut l a (Xi Qj l a))=true then(1,cut l a (Xi Qj l a),true) else(2,cut l a (Xi Qj l a),decide ((cut l a (Xi Qj l a)).length<=12)):=by unfold tkL;rw[if_pos h1]
  rw[hT];generalize cut l a (Xi Qj l a)=x;obtain⟨r,hr,Ug⟩:∃r,QY .str (S x) (kwm kws) 0=some r/\(match r with|some (_,v)=>v|none=>CV.bool false)=.bool (kws.contains x):=by
   by_cases hm:x∈kws
   ·obtain⟨j,hj⟩:=kw_old hm 0;exact⟨_,hj,by simp[hm]⟩
   ·exact⟨_,kw_new hm 0,by simp[hm]⟩
  refine Jbq [(.on [0],.on [0,3]),Foot.no,(.on [1],.on []),Foot.any] Jm vM ?_;refine⟨_,_,hs_new (mk:=.map) rfl (λH2=>keywords),?_⟩;refine⟨_,_,Y8 rfl rfl trivial,?_⟩;refine⟨_,_,hs_ld (id:=0) (i:=0) (off:=1) rfl rfl (by simp[Cond.holds]),?_⟩;refine⟨.bool (kws.contains x),[CObj.arr 3 [[.int .u8 0,S x,.int .i64 a]],.dead,.map (kwm kws)],hs_any (c:=.tt) (.inl rfl) ?_ trivial,?_⟩
  ·simp only[go_sem,hr]
   cases r with
   |none=>simp only at Ug|-;rw[Ug]
   |some p=>simp only at Ug|-;rw[Ug]
  ·simp only[vdf,put_some]
   cases hk:kws.contains x with
   |true=>simp +contextual only[go_sem,tkV,lxz];rfl
   |false=>have e12:decide ((x.length:Int)<=12)=decide (x.length<=12):=decide_eq_decide.2 om;simp +contextual only[go_sem,tkV,lxz,e12];rfl
 ·by_cases h2:Xx (l.getD a 0)=true
  ·have DD:isLt (l.getD a 0)=false:=by simpa using h1
   have hE:=Y3 (q:=Xx) (Gh ha);have BS:=JbX (q:=Xx) ha h2;have Aj:=run_all (q:=Xx) (Gh ha);have Aw:=Jbl (Gh BS) hE;have hT:tkL l a=(3,cut l a (Xi Xx l a),Jb0 (cut l a (Xi Xx l a))):=by unfold tkL;rw[if_neg h1,if_pos h2]
   rw[hT];simp +contextual only[go_sem,DD];refine anO ?_;refine J3 (Jdd _) ?_;simp +contextual only[go_sem,h2];have Rk:∀p∈[qDg],Jhy p:=by intro p hp;rw[GM.1 hp];exact qDg_ok
   have Ak:=lexRun l a [qDg] none Rk sM hl (Gh ha);rw[any_d,show fnz [qDg]=[[.fn 267 [] []]] from rfl]at Ak;refine Jas [false,false,false,false,false,false,false,false,true,false,true] Jm vM ?_;simp +contextual only[go_sem];refine vh_row [[.fn 267 [] []]] rfl rfl rfl rfl ?_;simp +contextual only[go_sem];refine vh_f Ak ?_;simp +contextual only[go_sem];refine vh_all (S (cut l a (Xi Xx l a))) (λH2=>by simp only[go_sem];rfl) (by simp only[Cond.holds];exact⟨om,om,by show ((Xi Xx l a:Nat):Int)<=((l.length:Nat):Int);omega⟩) ?_;simp +contextual only[go_sem];generalize hx:cut l a (Xi Xx l a)=x at Aj Aw|-;have OD:=isNumberL x Aj (by intro e;rw[e]at Aw;simp at Aw;omega) om;refine Jbq [(.on [1],.on []),Foot.no,(.on [1],.on []),Foot.no,Foot.any,Foot.no] Jm vM ?_;refine⟨_,_,hs_ld (id:=0) (i:=0) (off:=0) rfl rfl ⟨Gl 1,Gl 3⟩,_,_,hs_all (λ_=>rfl) trivial,_,_,hs_ld (id:=0) (i:=0) (off:=1) rfl rfl ⟨Gl 1,(by decide:2<=3)⟩,_,_,hs_f (.inl rfl) OD,_,_,hs_any (.inl rfl) rfl ⟨Gl 1,Gl 3⟩,_,_,hs_all (λ_=>rfl) trivial,?_⟩;simp +contextual only[vdf,go_sem,tkV,lxz,splice];rfl
  ·have DD:isLt (l.getD a 0)=false:=by simpa using h1
   have FC:Xx (l.getD a 0)=false:=by simpa using h2
   have hT:tkL l a=(4,sgnL (l.drop a),!(sgnL (l.drop a) == [])):=by unfold tkL;rw[if_neg h1,if_neg h2]
   rw[hT];simp +contextual only[go_sem,DD];refine anO ?_;refine J3 (Jdd _) ?_;simp +contextual only[go_sem,FC];refine J3 apiSigns ?_;simp +contextual only[go_sem,JbO];have CG:sgs.length=26:=rfl;refine JL (σ:=Nat×Lv) (I:=λs=>s.1<=sgs.length/\sgnL (l.drop a)=sgnF (l.drop a) (sgs.drop s.1) s.2) (inv:=λs=>gp [(0,S l),(0,.int .i64 (a:Int)),(2,.ptr 0 0 0),(49,.rslc 1 (sz sgs) none),(0,.int .i64 sgs.length),(0,.int .i64 s.1)] 23) (hp:=λs=>[.arr 3 [lxz 4 s.2 a]]) (μ:=λs=>sgs.length-s.1) (0,[]) ⟨om,rfl⟩ ?_ rfl ?_
   ·simp[forget,gp]
   ·rintro⟨i,b⟩ ⟨hi,Aa⟩;simp only at hi Aa;simp +contextual only[go_sem,JbO,lxz];refine⟨λh=>?_,λh=>?_⟩
    ·have Ab:i<sgs.length:=om
     rw[sz_get Ab];rw[Gn Ab,sgnF]at Aa;rw[show sgs.getD i []=sgs[i] by rw[Gc,Gb Ab];rfl];generalize sgs[i]=s at Aa|-;refine anO ?_;simp +contextual only[go_sem];refine anO ?_;have Im:(l.take l.length).drop a=l.drop a:=by rw[Gq]
     simp only[Im];refine J3 (hasPrefix (l.drop a) s) ?_;simp +contextual only[go_sem];by_cases hp:(l.drop a).take s.length=s
     ·have e1:((l.drop a).take s.length == s)=true:=beq_iff_eq.2 hp;by_cases hb:b.length<s.length
      ·have d1:=dtT b.length s.length;rw[if_pos ⟨hp,hb⟩]at Aa;simp +contextual only[go_sem,e1,d1];refine⟨Jg,(i+1,s),⟨by simp only;omega,Aa⟩,by simp only;omega,rfl,?_⟩;simp[forget]
      ·have d1:=dfF b.length s.length;rw[if_neg (λh=>hb h.2)]at Aa;simp +contextual only[go_sem,e1,d1];refine⟨Jg,(i+1,b),⟨by simp only;omega,Aa⟩,by simp only;omega,rfl,?_⟩;simp[forget]
     ·have e1:((l.drop a).take s.length == s)=false:=beq_eq_false_iff_ne.2 hp;rw[if_neg (λh=>hp h.1)]at Aa;simp +contextual only[go_sem,e1];refine⟨Jg,(i+1,b),⟨by simp only;omega,Aa⟩,by simp only;omega,rfl,?_⟩;simp[forget]
    ·have:i=sgs.length:=om
     subst this;rw[List.drop_length]at Aa;rw[Aa];simp +contextual only[go_sem,tkV,lxz,sgnF]
def knd (l:Lv):Option Nat:=
 if l=[] then none else if isGp (l.getD 0 0)=true then none
 else if (tkL l 0).2.2=true/\(tkL l 0).2.1=l then some (tkL l 0).1 else none
def kndV:Option Nat->CV
 |some k=>.tup [.int .u8 k,.int .i64 0]
 |none=>.tup [.int .u8 0,.int .i64 4]
theorem lexKind (l:Lv)(hl:l.length<=1000000):Fn Ga 241 [S l] (kndV (knd l)):=by
 refine Jc c241_ok rfl (by unfold kndV;split <;> rfl) λN=>?_
 by_cases h0:l=[]
 ·have e0:(l == [])=true:=beq_iff_eq.2 h0;have hk:knd l=none:=by unfold knd;rw[if_pos h0]
  rw[hk];simp +contextual only[c241,go_sem,e0,kndV]
 ·have e0:(l == [])=false:=beq_eq_false_iff_ne.2 h0;have Et:0<l.length:=List.length_pos_iff.2 h0;simp +contextual only[c241,go_sem,e0];refine anO ?_;refine Kk (gok rfl) (lexIsGap _) ?_
  cases h1:isGp (l.getD 0 0) with
  |true=>
   have hk:knd l=none:=by unfold knd;rw[if_neg h0,if_pos h1]
   rw[hk];simp +contextual only[go_sem,kndV]
  |false=>
   simp +contextual only[go_sem];refine J3 (tokenL l 0 Et hl) ?_;unfold tkV;have hk:knd l=if (tkL l 0).2.2=true/\(tkL l 0).2.1=l then some (tkL l 0).1 else none:=by unfold knd;rw[if_neg h0,if_neg (by rw[h1];simp)]
   rw[hk];obtain⟨k,x,b⟩:=tkL l 0;simp +contextual only[go_sem,lxz,splice]
   cases b with
   |false=>simp +contextual only[go_sem];simp[kndV]
   |true=>
    by_cases hx:x=l
    ·have ex:(x == l)=true:=beq_iff_eq.2 hx;simp +contextual only[go_sem,ex];simp[kndV,hx]
    ·have ex:(x == l)=false:=beq_eq_false_iff_ne.2 hx;simp +contextual only[go_sem,ex];simp[kndV,hx]
def JdH (l:Lv):Bool:=isLt (l.getD 0 0) && l.all Qj && !kws.contains l && decide (l.length<=12) && !(l == [])
theorem Jcj{l:Lv}:cut l 0 (Xi q l 0)=l↔l.all q=true:=by
 have e:cut l 0 (Xi q l 0)=l.takeWhile q:=by unfold cut Xi;simp only[List.drop_zero,GG];exact(GK.1 (GL q)).symm
 rw[e]
 constructor
 ·intro h;rw[<-h];exact GN
 ·intro h;have:∀l:Lv,l.all q=true->l.takeWhile q=l:=by
   intro l
   induction l with
   |nil=>intro _;rfl
   |cons a l ih=>intro h;simp only[List.all_cons,Gm]at h;rw[Gw,if_pos h.1,ih h.2]
  exact this l h
theorem lt_gp {c:UInt8}(h:isLt c=true):isGp c=false:=by simp only[isLt,Gm,decide_eq_true_eq]at h;simp only[isGp,isBk,GI,beq_eq_false_iff_ne];refine⟨⟨?_,?_⟩,?_⟩ <;> (rintro rfl;revert h;decide)
theorem knd_name (l:Lv):(knd l == some 2)=JdH l:=by
 rw[Gf,beq_iff_eq];unfold knd JdH;by_cases h0:l=[]
 ·simp[h0]
 rw[if_neg h0];by_cases h1:isLt (l.getD 0 0)=true
 ·have hg:=lt_gp h1;rw[if_neg (by rw[hg];simp)];have hT:tkL l 0=if kws.contains (cut l 0 (Xi Qj l 0))=true then(1,cut l 0 (Xi Qj l 0),true) else(2,cut l 0 (Xi Qj l 0),decide ((cut l 0 (Xi Qj l 0)).length<=12)):=by unfold tkL;rw[if_pos h1]
  by_cases hf:cut l 0 (Xi Qj l 0)=l
  ·rw[hf]at hT;have ha:=Jcj.1 hf;rw[hT,h1]
   cases hk:kws.contains l <;> simp[h0,ha]
  ·have ha:l.all Qj=false:=by
    cases h:l.all Qj with
    |false=>rfl
    |true=>exact absurd (Jcj.2 h) hf
   rw[hT]
   cases hk:kws.contains (cut l 0 (Xi Qj l 0)) <;> simp[hf,ha]
 ·have DD:isLt (l.getD 0 0)=false:=by simpa using h1
  rw[DD];simp only[GJ,Bool.false_eq_true,iff_false]
  split
  ·simp
  ·split
   ·unfold tkL;rw[if_neg h1]
    split <;> simp
   ·simp
theorem isNameW (l:Lv)(hl:l.length<=1000000):Fn Ga 216 [S l] (.bool (JdH l)):=by
 refine Jc c216_ok rfl rfl λN=>?_
 simp +contextual only[c216,go_sem];refine J3 (lexKind l hl) ?_;rw[<-knd_name]
 cases h:knd l with
 |none=>simp +contextual only[go_sem,kndV];rfl
 |some k=>
  simp +contextual only[go_sem,kndV]
  congr 1
  rw[Gf];simp;omega
theorem within (a b n:Int):Fn Ga 196 [.int .i64 a,.int .i64 b,.int .i64 n] (.bool (inI a b n)):=by
 refine Jc c196_ok rfl rfl λN=>?_
 simp +contextual only[c196,go_sem,inI]
def cntdV (k:Nat):CV:=if k=40 then .tup [S [83],.bool true] else if k=41 then .tup [S [98],.bool true] else if k=28 then .tup [S [73],.bool true] else if k=65 then .tup [S [80],.bool true] else .tup [S [],.bool false]
theorem counted (k:Nat):Fn Ga 217 [.int .u8 k] (cntdV k):=by
 unfold cntdV
 split
 ·subst_vars
  refine Jc c217_ok rfl rfl λN=>?_
  simp +contextual only[c217,go_sem,Gd]
 ·rename_i Eo;have e40:=kb (m:=40) Eo;simp only[Gd]at e40
  split
  ·subst_vars
   refine Jc c217_ok rfl rfl λN=>?_
   simp +contextual only[c217,go_sem,Gd]
  ·rename_i BC;have e41:=kb (m:=41) BC;simp only[Gd]at e41
   split
   ·subst_vars
    refine Jc c217_ok rfl rfl λN=>?_
    simp +contextual only[c217,go_sem,Gd]
   ·rename_i Eb;have e28:=kb (m:=28) Eb;simp only[Gd]at e28
    split
    ·subst_vars
     refine Jc c217_ok rfl rfl λN=>?_
     simp +contextual only[c217,go_sem,Gd]
    ·rename_i BA;have e65:=kb (m:=65) BA;simp only[Gd]at e65;refine Jc c217_ok rfl rfl λN=>?_
     simp +contextual only[c217,go_sem,e40,e41,e28,e65]
theorem many1 (c:UInt8)(hv:Lv)(hl:hv.length<=1000):Fn Ga 213 [S [c],.rptr [S hv]] (S (Gz (Qy c hv) c)):=by
 refine Jc c213_ok rfl rfl λN=>?_
 simp +contextual only[c213,go_sem];refine J3 (countL hv c) ?_;simp +contextual only[go_sem];refine J3 (repeatL c (Qy c hv) (by have:=cntB_le c hv;omega)) ?_;simp +contextual only[go_sem]
theorem many2 (c:UInt8)(a b:Int)(hv:Lv):Fn Ga 218 [S [c],.int .i64 a,.int .i64 b,.rptr [S hv]] (.bool (inI a b (Qy c hv))):=by
 refine Jc c218_ok rfl rfl λN=>?_
 simp +contextual only[c218,go_sem];refine J3 (countL hv c) ?_;simp +contextual only[go_sem];refine J3 (within _ _ _) ?_;simp +contextual only[go_sem]
theorem expectedL (x:Nd)(hv:Lv)(hl:hv.length<=1000):Fn Ga 195 [.agg x.cv,S hv] (S (Qi x.k hv)):=by
 obtain⟨k,text,n,kids,pl⟩:=x;have Ev:=λc=>cntB_le c hv
 simp only[Nd.cv];by_cases hA:4<=k/\k<=24
 ·have f1:((4:Int)<=(k:Int))=True:=J5;by_cases hB:k<=18
  ·have f2:((k:Int)<=18)=True:=J5;rw[show Qi k hv=[101,101] by simp only[Qi];rw[if_pos om]];refine fcS c195_ok λN=>?_
   simp (maxSteps:=2000000) -implicitDefEqProofs only[c195,go_sem,f1,f2]
  ·have f2:((k:Int)<=18)=False:=J7;have f3:((19:Int)<=(k:Int))=True:=J5;have f4:((k:Int)<=24)=True:=J5;rw[show Qi k hv=[101] by simp only[Qi];rw[if_neg om,iP7]];refine fcS c195_ok λN=>?_
   simp (maxSteps:=2000000) -implicitDefEqProofs only[c195,go_sem,f1,f2,f3,f4]
 by_cases hC:k=42
 ·subst hC;have e1:(([]:Lv) == [])=true:=rfl;have e2:∀(a:UInt8) l,(a::l == [])=false:=λ_ _=>rfl
  cases hv <;> (refine fcS c195_ok λN=>?_;simp (maxSteps:=2000000) -implicitDefEqProofs only[c195,go_sem,Gd,e1,e2];simp[Qi])
 by_cases hD:k=43\/k=44\/k=25\/k=62\/k=63\/k=64\/k=26\/k=45\/k=27\/k=28\/k=29\/k=40\/k=41\/k=46\/k=47\/k=65
 rotate_left
 ·simp only[not_or]at hD;rw[show Qi k hv=[] by simp only[Qi];repeat rw[if_neg (by first|omega|exact λh=>hC h.1)]];have f2:((k:Int)<=18)=(k<4):=propext om;have f3:((4:Int)<=(k:Int))=¬k<4:=propext om;have f4:((19:Int)<=(k:Int))=¬k<4:=propext om;have f5:((k:Int)<=24)=(k<4):=propext om;by_cases h4:k<4 <;> (refine fcS c195_ok λN=>?_;simp (maxSteps:=2000000) -implicitDefEqProofs only[c195,go_sem,f2,f3,f4,f5,h4,kbo,hD,hC,not_true_eq_false,not_false_eq_true])
 rcases hD with rfl|rfl|rfl|rfl|rfl|rfl|rfl|rfl|rfl|rfl|rfl|rfl|rfl|rfl|rfl|rfl <;> (
  refine fcS c195_ok λN=>?_
  repeat first
   |refine Je (id:=1) (z:=1) (els:=[[S hv]]) rfl rfl ?_;simp only[go_sem,KA,frz,JM,Kn]
   |refine vr_fvS (l1:=[]) (l2:=[.rptr [S hv]]) (args:=[S [_]]) c213_ok nm (many1 _ hv hl) rfl rfl JeZ ?_
   |refine⟨by have h1:=Ev 73;have h2:=Ev 83;have h3:=Ev 78;have h4:=Ev 99;have h5:=Ev 101;have h6:=Ev 98;have h7:=Ev 80;have h8:=Ev 116;simp;omega,?_⟩
   |simp (maxSteps:=2000000) -implicitDefEqProofs only[c195,go_sem,Gd,List.length_replicate]
  all_goals first|rfl|simp[Qi])
theorem sizedL (x:Nd)(hv:Lv):Fn Ga 198 [.agg x.cv,S hv] (.bool (Q3 x.k x.n hv)):=by
 obtain⟨k,text,n,kids,pl⟩:=x;simp only[Nd.cv];by_cases hD:k=65\/k=26\/k=40\/k=45\/k=41\/k=28\/k=29\/k=48\/k=47
 rotate_left
 ·simp only[not_or]at hD;rw[show Q3 k n hv=true by simp only[Q3];repeat rw[if_neg om]];refine fcS c198_ok λN=>?_
  simp (maxSteps:=2000000) -implicitDefEqProofs only[c198,go_sem,kbo,hD,not_false_eq_true]
 rcases hD with rfl|rfl|rfl|rfl|rfl|rfl|rfl|rfl|rfl <;> (
  refine fcS c198_ok λN=>?_
  simp only[Q3]
  repeat first
   |refine Je (id:=1) (z:=1) (els:=[[S hv]]) rfl rfl ?_;simp only[go_sem,KA,frz,JM,Kn]
   |refine vr_fvSB (l1:=[]) (l2:=[.rptr [S hv]]) (args:=[S [_],.int .i64 _,.int .i64 _]) c218_ok nm (many2 _ _ _ hv) rfl rfl (by first|exact JeZ|exact gokS rfl) (λB hb=>?_);try simp only[hb];clear hb;cases B
   |refine Y2 (within 0 100 n) rfl (by first|exact JeZ|exact gokS rfl) ?_
   |refine Y2 (within 1 9 n) rfl JeZ ?_
   |simp (maxSteps:=2000000) -implicitDefEqProofs only[c198,go_sem,Gd]
  all_goals simp)
def fldI (nmd:Bool)(k:Nat)(text:Lv)(n:Int)(hv:Lv):Bool:=Xc nmd k text && Q9 k n hv
theorem fieldsL (x:Nd)(hv:Lv)(nmd:Bool)(hn:Fn Ga 216 [S x.text] (.bool nmd)):Fn Ga 197 [.agg x.cv,S hv] (.bool (fldI nmd x.k x.text x.n hv)):=by
 obtain⟨k,text,n,kids,pl⟩:=x;simp only at hn;simp only[Nd.cv];by_cases hC:(k=3\/k=26\/k=42\/k=43\/k=44\/k=47\/k=64\/k=65\/k=48\/k=40\/k=41\/k=28\/k=1\/k=2\/k=29)
 rotate_left
 ·rw[show fldI nmd k text n hv=(text == [] && n == 0) by simp only[fldI,Xc,Q9];repeat rw[if_neg om]];have hE:=counted k;rw[show cntdV k=.tup [S [],.bool false] by simp only[cntdV];repeat rw[if_neg om]]at hE;simp only[not_or]at hC;refine fcS c197_ok λN=>?_
  cases t1:text == [] <;> repeat first
   |simp (maxSteps:=2000000) -implicitDefEqProofs only[c197,go_sem,t1,kbo,hC,not_false_eq_true]
   |refine Y2 hE rfl JeZ ?_
 rcases hC with rfl|rfl|rfl|rfl|rfl|rfl|rfl|rfl|rfl|rfl|rfl|rfl|rfl|rfl|rfl <;> (
  refine fcS c197_ok λN=>?_
  simp only[fldI,Xc,Q9]
  repeat first
   |refine Y2 hn rfl JeZ ?_;cases nmd
   |refine Y2 (within 0 1000000000 n) rfl JeZ ?_
   |refine Y2 (within 0 1 n) rfl JeZ ?_
   |refine JP Jm vk ?_
   |refine J9 (.inl rfl) (countL hv _) ?_
   |simp (maxSteps:=2000000) -implicitDefEqProofs only[c197,go_sem,Gd,cntdV,Nat.reduceEqDiff,if_true,if_false]
   |rcases GH (text == []) with hb|hb <;> rw[hb]
   |rcases GH (text == [35]) with hb|hb <;> rw[hb]
   |refine Y2 (counted 3) rfl JeZ ?_
   |refine Y2 (counted 26) rfl JeZ ?_
   |refine Y2 (counted 42) rfl JeZ ?_
   |refine Y2 (counted 43) rfl JeZ ?_
   |refine Y2 (counted 44) rfl JeZ ?_
   |refine Y2 (counted 47) rfl JeZ ?_
   |refine Y2 (counted 64) rfl JeZ ?_
   |refine Y2 (counted 65) rfl JeZ ?_
   |refine Y2 (counted 48) rfl JeZ ?_
   |refine Y2 (counted 40) rfl JeZ ?_
   |refine Y2 (counted 41) rfl JeZ ?_
   |refine Y2 (counted 28) rfl JeZ ?_
   |refine Y2 (counted 1) rfl JeZ ?_
   |refine Y2 (counted 2) rfl JeZ ?_
   |refine Y2 (counted 29) rfl JeZ ?_
  all_goals first|simp|simp_all)
end Go.Cm
end
section
open Go.Shelf Go.RowKit Go.Proofs
namespace Go.Cm
theorem letter_lt (k:Nat):letter k<256:=by
 unfold letter
 repeat' split
 all_goals omega
theorem fnSort (k:Nat)(hk:k<256):Fn Ga 194 [.int .u8 k] (.int .u8 (letter k)):=by
 refine Jc c194_ok rfl rfl λN=>?_
 rcases (show (1<=k/\k<=29)\/(60<=k/\k<=63)\/(30<=k/\k<=39)\/(49<=k/\k<=59)\/66<=k\/k=0\/k=46\/k=47\/k=40\/k=41\/k=42\/k=43\/k=44\/k=45\/k=48\/k=64\/k=65 by omega) with h|h|h|h|h|rfl|rfl|rfl|rfl|rfl|rfl|rfl|rfl|rfl|rfl|rfl|rfl
 ·have e:letter k=101:=by unfold letter;rw[if_pos h]
  simp only[c194,go_sem,e,show decide ((1:Int)<=(k:Int))=true from decide_eq_true om,show decide ((k:Int)<=29)=true from decide_eq_true om]
  first|done|rfl
 ·have e:letter k=116:=by unfold letter;rw[iN7,if_pos h]
  simp only[c194,go_sem,e,show decide ((1:Int)<=(k:Int))=true from decide_eq_true om,show decide ((k:Int)<=29)=false from decide_eq_false om,show decide ((60:Int)<=(k:Int))=true from decide_eq_true om,show decide ((k:Int)<=63)=true from decide_eq_true om]
  first|done|rfl
 ·have e:letter k=32:=by unfold letter;repeat rw[iN7]
  simp only[c194,go_sem,e,show decide ((1:Int)<=(k:Int))=true from decide_eq_true om,show decide ((k:Int)<=29)=false from decide_eq_false om,show decide ((60:Int)<=(k:Int))=false from decide_eq_false om,show decide ((40:Int)<=(k:Int))=false from decide_eq_false om,kbo (show ¬k=46 by omega),kbo (show ¬k=47 by omega),kbo (show ¬k=64 by omega),kbo (show ¬k=65 by omega)]
  first|done|rfl
 ·have e:letter k=32:=by unfold letter;repeat rw[iN7]
  simp only[c194,go_sem,e,show decide ((1:Int)<=(k:Int))=true from decide_eq_true om,show decide ((k:Int)<=29)=false from decide_eq_false om,show decide ((60:Int)<=(k:Int))=false from decide_eq_false om,show decide ((40:Int)<=(k:Int))=true from decide_eq_true om,show decide ((k:Int)<=48)=false from decide_eq_false om,kbo (show ¬k=46 by omega),kbo (show ¬k=47 by omega),kbo (show ¬k=64 by omega),kbo (show ¬k=65 by omega)]
  first|done|rfl
 ·have e:letter k=32:=by unfold letter;repeat rw[iN7]
  simp only[c194,go_sem,e,show decide ((1:Int)<=(k:Int))=true from decide_eq_true om,show decide ((k:Int)<=29)=false from decide_eq_false om,show decide ((60:Int)<=(k:Int))=true from decide_eq_true om,show decide ((k:Int)<=63)=false from decide_eq_false om,show decide ((40:Int)<=(k:Int))=true from decide_eq_true om,show decide ((k:Int)<=48)=false from decide_eq_false om,kbo (show ¬k=46 by omega),kbo (show ¬k=47 by omega),kbo (show ¬k=64 by omega),kbo (show ¬k=65 by omega)]
  first|done|rfl
 all_goals simp[c194,go_sem,letter] <;> exact⟨vk,vk⟩
theorem calls_of_fn {P:Program}{f:Nat}{args:Ls}{v:CV}(h:Fn P f args v)(hv:v.closed=true){w:World}{imm:Nat->Nat->LD}(Mx:∀B i x,imm B i=some x->w.cell? ⟨B,i,none⟩=some x)(Bi:∀B i x,imm B i=some x->x.oneCell'=true){vs:LG}(BF:JY [] imm args vs.toList)(AL:GLw w) :
  Calls P f vs w λe w'=>(∃r imm',KI imm imm'/\rel [] imm' v r/\e=.returned r)/\Below w.heap.size w w':=by
 have hs:Sim Env.none { own:=[],imm:=imm,ext:=λ_=>False } [] w:=⟨rfl,sM,Mx,Bi,sM,sM,sM,sM,λB h=>AL.lt (h.resolve_left id),AL,sM⟩;refine((h Env.none [] _ w vs hs BF).calls λk=>Jeu none k).mono ?_;rintro e w' ⟨r,m',v',H',rfl,Ae,AA,hrel,rfl,rfl⟩;have Cg:∀B,¬owned { own:=[],imm:=imm,ext:=λ_=>False } [] B:=by
  rintro B (h|⟨k,o,x,hk,_⟩)
  ·exact h
  ·simp at hk
 exact⟨⟨r,m'.imm,Ae.imm,Qs _ _ hv hrel,rfl⟩,Ae.same.1,Ae.same.2.2,Ae.same.2.1,Ae.size,λk hk=>Ae.frame k hk (Cg k)⟩
end Go.Cm
namespace Go.Proofs
def Tryz.bRen:Go.Shelf.Ren:=⟨λn=>if n=167 then 211 else Tryz.lays105_ren.f n,Tryz.lays105_ren.t,Tryz.lays105_ren.g⟩
theorem Tryz.bLays167:Lays.n167 Ga Tryz.bRen:={ Tryz.lays105 with f167:=Tryz.func211.trans (congrArg some (by kernel_rfl)) }
theorem Tryz.bLays169:Lays.n169 Ga Tryz.bRen:={ Tryz.lays105 with }
theorem Tryz.bExtra:Builder.Extra Ga Tryz.bRen:={
 sizeBuilder:=by kernel_rfl
 liesBuilder:=by kernel_rfl
 t5:=Tryz.underlying5
 a5:=Tryz.isAgg5
 z5:=Tryz.sizeOf5
 v5:=Tryz.zeroValue5
 infoByte:=by kernel_rfl
 cellsByte:=by kernel_rfl
 sizeByte:=by kernel_rfl
 neB5:=by decide }
theorem Tryz.WriteByte (B b:Nat)(bs:List Value)(c:Int)(w:World)(h:Lib.IsBuilder 205 5 B b bs w)(Ad:bs.length+1<=140737488355328)(bA:B<=w.heap.size) :
  Calls Ga 211 #[.pointer (some ⟨b,0,none⟩),.int .u8 c] w λe w'=>e=.returned .nilIface/\(Lib.BuilderAt 205 5 B b (.pointer (some ⟨b,0,none⟩)) (bs++[.int .u8 c]) w'/\Below B w w'):=
 Any.Builder_WriteByte Tryz.bLays167 Tryz.bExtra B b bs c w h Ad bA
theorem Tryz.BString (B b:Nat)(l:List UInt8)(w:World)(h:Lib.IsBuilder 205 5 B b (Lib.byteCells l) w)(bA:B<=w.heap.size) :
  Calls Ga 212 #[.pointer (some ⟨b,0,none⟩)] w λe w'=>e=.returned (.string ⟨l.toArray⟩)/\Below B w w':=
 Any.Builder_String_any Tryz.bLays169 Tryz.bExtra B b l w h bA
theorem Tryz.bat_below {T e:TypeId}{B b:Nat}{p:Value}{bs:List Value}{W W':World}(h:Lib.BuilderAt T e B b p bs W)(hb:Below W.heap.size W W'):Lib.BuilderAt T e B b p bs W':=by obtain⟨hB,v,hv,Cw,Ai⟩:=h;have Ab:b<W.heap.size:=(Array.getElem?_eq_some_iff.1 hv).1;exact⟨hB,v,(hb.block b Ab).trans hv,Cw.kept (row:=none) ⟨hb.os,hb.tape,hb.output,hb.size,λk hk _=>hb.block k hk⟩ (Classical.em _),Ai⟩
theorem Tryz.isb_below {T e:TypeId}{B b:Nat}{bs:List Value}{W W':World}(h:Lib.IsBuilder T e B b bs W)(hb:Below W.heap.size W W'):Lib.IsBuilder T e B b bs W':=h.elim (λx=>.inl (Tryz.bat_below x hb)) (λx=>.inr (Tryz.bat_below x hb))
theorem Tryz.cell_lt {w:World}{a:Addr}{v:Value}(h:w.cell? a=some v):a.block<w.heap.size:=by
 rcases Nat.lt_or_ge a.block w.heap.size with h'|h'
 ·exact h'
 ·rw[World.cell?,Array.getElem?_eq_none h']at h;simp at h
def Tryz.letters (ds:List Nat):List UInt8:=ds.map λd=>UInt8.ofNat (Go.Cm.letter d)
theorem Tryz.letters_take (ds:List Nat)(j d:Nat)(h:ds[j]? = some d):Tryz.letters (ds.take (j+1))=Tryz.letters (ds.take j)++[UInt8.ofNat (Go.Cm.letter d)]:=by rw[List.take_add_one,h];simp[Tryz.letters]
open Go.Cm in
set_option maxHeartbeats 4000000 in
set_option maxRecDepth 100000 in
theorem Tryz.sorts_walk (np kp:Option Addr)(nl nc kl kc:Nat)(items n0 n1 n2 n4:Value)(ds:List Nat)(w:World)(ig:GLw w)(Be:ds.length=kl)(Mw:∀k∈ds,k<256)
  (CZ:kl<140737488355328)
  (BM:∀j d,ds[j]? = some d->∃bn no bk ko k,np=some ⟨bn,no,none⟩/\kp=some ⟨bk,ko,none⟩/\k<nl/\w.cell? ⟨bk,ko+j,none⟩=some (.int .i64 (k:Nat))/\w.cell? ⟨bn,no+k*5,none⟩=some (.int .u8 (d:Nat))) :
  Calls Ga 193 #[.agg #[.slice np nl nc,items],.agg #[n0,n1,n2,.slice kp kl kc,n4]] w λe w'=>e=.returned (.string ⟨(Tryz.letters ds).toArray⟩)/\Below w.heap.size w w':=by
 have HK:Hid (∀j d,ds[j]? = some d->∃bn no bk ko k,np=some ⟨bn,no,none⟩/\kp=some ⟨bk,ko,none⟩/\k<nl/\w.cell? ⟨bk,ko+j,none⟩=some (.int .i64 (k:Nat))/\w.cell? ⟨bn,no+k*5,none⟩=some (.int .u8 (d:Nat))):=BM;have HD:Hid (∀k∈ds,k<256):=Mw;clear BM Mw
 go_enter Tryz.func193,Tryz.ntmps193
 go_wp2
 go_loopw [11] (λv wr=>∃j:Nat,j<=kl/\v=.int .i64 j/\Lib.IsBuilder 205 5 (w.heap.size+2) (w.heap.size+2) (Lib.byteCells (Tryz.letters (ds.take j))) wr/\wr.cell? ⟨w.heap.size,0,none⟩=some (.slice np nl nc)/\Below w.heap.size w wr/\w.heap.size+2<=wr.heap.size) (λi _=>kl-(intOf i).toNat)
 case atStart=>
  refine⟨0,Nat.zero_le _,rfl,?_,?_,?_,?_⟩
  ·simpa [Tryz.letters,Lib.byteCells]using Lib.fresh_isBuilder 205 5 ((w.alloc (.cells #[.slice np nl nc,items] 25)).alloc (.cells #[n0,n1,n2,.slice kp kl kc,n4] 60))
  ·simp[go_sem]
  ·exact(((Below.refl _ w).alloc (Gl _) _).alloc (by simp) _).alloc (by simp;omega) _
  ·simp
 case round=>
  obtain⟨j,hj,rfl,hI,hT,Py,BL⟩:=hrel;have HI:Hid (Lib.IsBuilder 205 5 (w.heap.size+2) (w.heap.size+2) (Lib.byteCells (Tryz.letters (ds.take j))) wr):=hI;clear hI;by_cases Ab:j<kl
  ·obtain⟨d,hd⟩:∃d,ds[j]? = some d:=⟨ds[j],Gb (by omega)⟩;have Si:=HD.out d (Gp hd);obtain⟨bn,no,bk,ko,k,rfl,rfl,hk,h1,h2⟩:=HK.out j d hd;have DD:wr.cell? ⟨bk,ko+j,none⟩=some (.int .i64 (k:Nat)):=(Py.cell (Tryz.cell_lt h1)).trans h1;have FC:wr.cell? ⟨bn,no+k*5,none⟩=some (.int .u8 (d:Nat)):=(Py.cell (Tryz.cell_lt h2)).trans h2;clear h1 h2;have HD2:Hid (ds[j]? = some d):=hd;clear hd
   go_wp2_with (go_at_call 194;refine(calls_of_fn (imm:=λ_ _=>none) (fnSort d Si) rfl (by simp) (by simp) (by simp[JY,rel]) (Tryz.GLw_below ig Py)).mono ?_)
   rintro e W1 ⟨⟨r,imm',_,hr,rfl⟩,b1⟩;simp[rel]at hr;subst hr;have HI1:=HI.out;have b2:=Py.trans (b1.mono Py.size);have HB:Hid (Lib.IsBuilder 205 5 (w.heap.size+2) (w.heap.size+2) (Lib.byteCells (Tryz.letters (ds.take j))) W1):=Tryz.isb_below HI1 b1;have iV:W1.cell? ⟨w.heap.size,0,none⟩=some (.slice (some ⟨bn,no,none⟩) nl nc):=(b1.cell (by simp;omega)).trans hT;have Ad:(Lib.byteCells (Tryz.letters (ds.take j))).length+1<=140737488355328:=by rw[Lib.byteCells_length];simp[Tryz.letters];omega
   have FH:=G5 BL b1.size;clear HI1
   go_wp2_with (go_at_call 211;refine(Tryz.WriteByte _ _ _ _ _ HB.out Ad FH).mono ?_)
   rintro e W2 ⟨rfl,eu,b3⟩;have iU:W2.cell? ⟨w.heap.size,0,none⟩=some (.slice (some ⟨bn,no,none⟩) nl nc):=(b3.cell (by simp)).trans iV;have HB2:Hid (Lib.IsBuilder 205 5 (w.heap.size+2) (w.heap.size+2) (Lib.byteCells (Tryz.letters (ds.take j))++[Value.int IntKind.u8 (letter d:Nat)]) W2):=Or.inr eu;have b4:=b2.trans (b3.mono (by omega));have EK:=G5 FH b3.size;clear eu b1 b2 b3
   go_wp2
   go_roundw
   case rel=>refine⟨j+1,by omega,by go_num,?_,iU,b4,EK⟩;rw[Tryz.letters_take ds j d HD2.out,Lib.byteCells_append];have:=HB2.out;have hl:letter d % 256=letter d:=Nat.mod_eq_of_lt (letter_lt d);simpa [Lib.byteCells,hl]using this
   case measure=>simp[intOf];omega
  ·have A7:j=kl:=by omega
   subst A7;rw[Gs (by omega)]at HI
   go_wp2_with (go_at_call 212;refine(Tryz.BString _ _ _ _ HI.out BL).mono ?_)
   rintro e W1 ⟨rfl,b1⟩
   go_wp2
   go_ret
   exact⟨rfl,Py.trans (b1.mono (by omega))⟩
end Go.Proofs
namespace Go.Cm
theorem sortsL (t:Tr)(x:Nd)(hx:x.Fit)(hn:∀y∈t.nodes,y.k<256)(hk:∀k∈x.kids,0<=k/\k<t.nodes.length):Fn Ga 193 [.agg [.rslc 5 (ndz t.nodes) none,.rslc 1 (iz t.items) none],.agg x.cv] (S (lets t.nodes x)):=by
 intro E H;refine KZ λm w vs hs hv=>?_
 simp only[JY,rel,Nd.cv]at hv;obtain⟨_,_,e0,⟨t1,rfl,r1,_,e1,Ru,r2,_,rfl,M3,rfl⟩,_,_,rfl,⟨t2,rfl,s0,_,e2,EM,s1,_,rfl,EE,s2,_,rfl,Im,s3,_,rfl,Bz,s4,_,rfl,Ph,rfl⟩,rfl⟩:=hv;have fA:t1=#[r1,r2]:=by cases t1;simp_all
 have Ud:t2=#[s0,s1,s2,s3,s4]:=by cases t2;simp_all
 have BF:vs=#[.agg t1,.agg t2]:=by cases vs;simp_all
 subst fA Ud BF;have Rt:∃np nl nc,r1=.slice np nl nc/\∀(k:Nat),k<t.nodes.length->k<nl/\∃B o,np=some ⟨B,o,none⟩/\w.cell? ⟨B,o+k*5,none⟩=some (.int .u8 (Jv t.nodes k:Nat)):=by
  rcases Ru with ⟨_,h0,b,rfl⟩|⟨B,o,c,rfl,_,_,E8⟩
  ·refine⟨b,0,0,rfl,λk hk=>?_⟩;have:=congrArg Gr h0;rw[Ja]at this;simp at this;rw[this]at hk;simp at hk
  ·refine⟨_,_,_,rfl,λk hk=>⟨by rw[Ja];exact hk,B,o,rfl,?_⟩⟩;have hg:(ndz t.nodes)[k]? = some (t.nodes.getD k default).cv:=by simp[ndz,Gc,Gb hk]
   have h1:=((Qr _ o).1 E8 k _ hg).2;obtain⟨r,hr,Cu⟩:=h1 0 _ rfl;simp only[rel]at Cu;subst Cu;exact hs.imm _ _ _ hr
 obtain⟨np,nl,nc,rfl,hN⟩:=Rt;have OO:∃kp kc,s3=.slice kp x.kids.length kc/\∀(j:Nat) k,x.kids[j]? = some k->∃B o,kp=some ⟨B,o,none⟩/\w.cell? ⟨B,o+j,none⟩=some (.int .i64 k):=by
  rcases Bz with ⟨_,he,b,rfl⟩|⟨B,o,c,rfl,_,_,R9⟩
  ·have BM:x.kids=[]:=by have:=congrArg Gr he;rw[Jf]at this;simpa using this
   exact⟨b,0,by rw[BM];rfl,λj k hj=>by simp[BM]at hj⟩
  ·refine⟨_,c,by rw[Jf],λj k hj=>⟨B,o,rfl,?_⟩⟩;have DZ:(iz x.kids)[j]? = some [CV.int .i64 k]:=by simp[iz,hj]
   have h1:=((Qr _ o).1 R9 j _ DZ).2;obtain⟨r,hr,Cu⟩:=h1 0 _ rfl;simp only[rel]at Cu;subst Cu;have:=hs.imm _ _ _ hr;simpa using this
 obtain⟨kp,kc,rfl,hK⟩:=OO;have Bh:=hx.kidn;refine⟨_,Tryz.sorts_walk np kp nl nc x.kids.length kc r2 s0 s1 s2 s4 (x.kids.map (Jv t.nodes)) w hs.gl.1 sM (λd hd=>?_) om (λj d hj=>?_),?_⟩
 ·obtain⟨k,Du,rfl⟩:=List.mem_map.1 hd;have:=hk k Du;refine hn _ ?_;have Ab:k.toNat<t.nodes.length:=om
  rw[Gc,Gb Ab];exact Gt Ab
 ·rw[List.getElem?_map]at hj
  cases El:x.kids[j]? with
  |none=>rw[El]at hj;cases hj
  |some k=>
   rw[El]at hj;simp only[Option.map_some,Option.some.injEq]at hj;subst hj;have hr:=hk k (Gp El);obtain⟨h3,B,o,h4,h5⟩:=hN k.toNat om;obtain⟨B',o',h6,h7⟩:=hK j k El;refine⟨B,o,B',o',k.toNat,h4,h6,h3,?_,?_⟩
   ·rw[h7,show ((k.toNat:Nat):Int)=k by omega]
   ·rw[h5];simp only[Jv,Int.toNat_natCast]
 ·simp only[rel,lets,Tryz.letters,JdF,List.map_map];rfl
end Go.Cm
end
section
open Go.Proofs
namespace Go.Cm
variable {d ks o xs:Lu}{f i:Nat}{K:LP}{a b m:Int}{F:IFunc}
def bks (xs:Lu):LM:=(List.range xs.length).map λ(s:Nat)=>[.int .i64 ((xs.length:Int)-1-s),.int .i64 (xs.reverse.getD s 0)]
theorem bks_get{s:Nat}(h:s<xs.length):(bks xs)[s]? = some [.int .i64 ((xs.length:Int)-1-s),.int .i64 (xs.reverse.getD s 0)]:=by simp[bks,h]
theorem Jfl:(bks xs).length=xs.length:=by simp[bks]
theorem backward1 (xs:Lu)(Ad:xs.length<=100000):Iter Ga 87 [] [.rptr [.rslc 1 (iz xs) none]] (bks xs):=by
 intro E l hy;refine Ke c87_ok λN=>?_
 simp +contextual only[c87,go_sem,Jf];refine⟨Jg,?_⟩;refine JL (I:=λs:Nat=>s<=xs.length) (inv:=λs=>gp [(0,.yld l),(0,.rptr [.rslc 1 (iz xs) none]),(1,.int .i64 ((xs.length:Int)-1-s))] 15) (hp:=λs=>[.ext s true]) (μ:=λs=>xs.length-s) 0 om ?_ rfl ?_
 ·simp[forget,gp]
 ·intro s hs;simp +contextual only[go_sem,Jf];refine⟨λh1=>?_,λh1=>?_⟩
  ·have Ab:s<xs.length:=om
   have hi:((xs.length:Int)-1-s).toNat=xs.length-1-s:=om
   have hg:(iz xs).getD (xs.length-1-s) []=[.int .i64 (xs.reverse.getD s 0)]:=by
    have h2:xs.length-1-s<xs.length:=om
    simp[iz,Gc,Gb h2,List.getElem?_reverse Ab]
   rw[hi,hg];refine anO ?_;simp +contextual only[go_sem];refine vr_yield (i:=0) (s:=s) (.inl rfl) rfl hy rfl (λk s b hk=>?_) ?_ rfl λc=>?_
   ·rcases k with _|k
    ·rfl
    ·simp at hk
   ·simp only[go_sem,bks_get Ab]
   ·cases c
    ·simp +contextual only[go_sem];exact .inr ⟨_,rfl⟩
    ·simp +contextual only[go_sem];refine⟨Jg,s+1,om,om,?_⟩;simp[forget];omega
  ·have:s=xs.length:=om
   refine .inl ?_;simp[Jfl,this]
theorem backward (xs:Lu):Fn Ga 52 [.rslc 1 (iz xs) none] (.fn 87 [] [.rptr [.rslc 1 (iz xs) none]]):=by
 have main:CallsC Ga Env.none 52 [.rslc 1 (iz xs) none] [] λv H'=>v=.fn 87 [] [.ptr 0 0 0]/\H'=[.arr 1 [[.rslc 1 (iz xs) none]]]:=by
  refine Ke c52_ok λN=>?_
  simp +contextual only[c52,go_sem]
 exact Jhz (main.freeze λv H' ⟨h1,h2⟩=>⟨0,1,[[.rslc 1 (iz xs) none]],by rw[h2];rfl,rfl,by rw[h1];simp[frz,JM]⟩) rfl rfl
def JN (l:LC):LP:=l.map Nd.kids
theorem Km {l:LC}(h:i<l.length):(JN l)[i]? = some (l.getD i default).kids:=by simp[JN,Gc,Gb h]
theorem Jdz(h:JB (K.take i) []=some o)(hk:K[i]? = some ks):JB (K.take (i+1)) []=(Jel o ks).map (λf=>o++[f])/\o.length=i:=by
 have Ab:=(Gg.1 hk).1;have hl:=QQ _ _ _ h;rw[Gi Ab,(Gg.1 hk).2,JaF,h];refine⟨?_,by simpa [GZ (Gh Ab)]using hl⟩;simp only[GD,JB]
 cases Jel o ks <;> rfl
theorem JdA(h:JB (K.take i) []=none):JB K []=none:=by rw[<-Gv i K,JaF,h];rfl
theorem stepF_none{s:Nat}(h:Xy o (ks.reverse.take s) ((o.length:Int)-1)=none):Jel o ks=none:=by unfold Jel;rw[<-Gv s ks.reverse,JcN,h];rfl
def Jb6 (t:Tr)(v:CV)(H':Lt):Prop:=match JB (JN t.nodes) []with
 |some o=>∃id,v=.tup [Qq id (iz o),.bool true]/\H'[id]? = some (Xj 1 (iz o))
 |none=>v=.tup [.nils,.bool false]
theorem firstsW (t:Tr)(ht:t.Fit):CallsC Ga Env.none 190 [t.cv] [] (Jb6 t):=by
 have Ag:=ht.many;refine Ke c190_ok λN=>?_
 simp +contextual only[c190,go_sem,Tr.cv,Tr.row];refine YD ?_;simp only[go_sem,Ja];refine Jr (σ:=Nat×Lu) (I:=λs=>s.1<=t.nodes.length/\JB ((JN t.nodes).take s.1) []=some s.2)
  (inv:=λs=>gp [(2,.ptr 0 0 0),(0,.ptr 1 0 0),(6,.rslc 5 (ndz t.nodes) none),(0,.int .i64 t.nodes.length),(0,.int .i64 s.1)] 30)
  (hp:=λs=>[.arr 1 [[Qq 2 (iz s.2)]],.arr 1 [[.bool false]],Xj 1 (iz s.2)]) (μ:=λs=>t.nodes.length-s.1) (0,[]) [1,2,3] ⟨om,rfl⟩ rfl ?_ rfl ?_
 ·simp[forget,JG,ren,Jk,gp]
 ·rintro⟨i,o⟩ ⟨hi,ho⟩
  dsimp only at hi ho
  simp +contextual only[go_sem,Ja];refine⟨λh=>?_,λh=>?_⟩
  ·have Ab:i<t.nodes.length:=om
   have hx:=ht.nodes _ (Gt Ab);have hg:t.nodes.getD i default=t.nodes[i]:=by rw[Gc,Gb Ab];rfl
   obtain⟨Ar,Ba⟩:=Jdz ho (Km Ab);have Ao:=QU _ _ _ Xf.nil ho;rw[QC Ab];generalize t.nodes.getD i default=x at Ar hg|-;rw[<-hg]at hx;refine⟨om,by simp[Nd.cv],?_⟩;simp +contextual only[go_sem,Nd.cv];refine⟨Jg,?_⟩;refine J3 (backward x.kids) ?_;simp +contextual only[go_sem];have Bh:=hx.kidn;refine vr_rfuncJ (xs:=bks x.kids) (Γ:=Int) (λs a=>Xy o (x.kids.reverse.take s) ((i:Int)-1)=some a) (λs a=>[.arr 1 [[Qq 2 (iz o)]],.arr 1 [[.bool false]],Xj 1 (iz o),.arr 5 [x.cv],.arr 1 [[.int .i64 a]]]) ((i:Int)-1) rfl rfl rfl rfl rfl c87_ok nm (backward1 _ om) (by simp[bks]) rfl ?_ ?_
   ·intro s a c ha hc;have Dn:s<x.kids.length:=by have:=(Gg.1 hc).1;rwa [Jfl]at this
    rw[bks_get Dn]at hc
    cases hc
    have Ed:s<x.kids.reverse.length:=by rw[List.length_reverse];exact Dn
    have Al:x.kids.reverse.take (s+1)=x.kids.reverse.take s++[x.kids.reverse.getD s 0]:=by rw[Gi Ed,Gc,Gb Ed];rfl
    generalize x.kids.reverse.getD s 0=k at Al|-;have hr:=JcM Ao _ _ a om om ha;have Dl:Xy o (x.kids.reverse.take (s+1)) ((i:Int)-1)=if a<0\/k≠a then none else some (o.getD k.toNat 0-1):=by rw[Al,JcN,ha];simp only[GD,Xy]
    by_cases hc:a<0\/k≠a
    ·rw[if_pos hc]at Dl;have CL:JB (JN t.nodes) []=none:=by refine JdA (i:=i+1) ?_;rw[Ar,stepF_none (s:=s+1) (by rw[Ba];exact Dl)];rfl
     by_cases h0:a<0
     ·have d0:(a<0)=True:=eq_true h0;simp +contextual only[go_sem,d0];simp only[Jb6,CL]
     ·have d0:(a<0)=False:=eq_false h0;have d1:(k == a)=false:=beq_eq_false_iff_ne.2 om;have d2:(k != a)=true:=by rw[bne,d1];rfl
      simp +contextual only[go_sem,d0,d2];simp only[Jb6,CL]
    ·rw[if_neg hc]at Dl;have De:k=a:=om
     subst De;have Ai:iz o≠[]:=by intro e;have:=congrArg Gr e;rw[Jf]at this;simp at this;rw[this]at Ba;simp at Ba;omega
     have d0:(k<0)=False:=J7;have d2:(k != k)=false:=sM
     rw[Y4 Ai,YF Ai];have Dc:k.toNat<o.length:=om
     have hv:=Ao k.toNat o[k.toNat] (Gb Dc);have e:o.getD k.toNat 0=o[k.toNat]:=by simp[Gc,Gb Dc]
     simp +contextual only[go_sem,d0,d2,Jf];rw[JF Dc];refine⟨om,⟨om,sM⟩,?_⟩;simp +contextual only[go_sem];refine⟨inr64 (by rw[e];omega) (by rw[e];omega),_,Dl,?_⟩;rfl
   ·intro a ha;rw[Jfl]at ha;rw[Gs sM]at ha;have hr:=JcM Ao _ _ a om om ha;have fH:Jel o x.kids=some (a+1):=by unfold Jel;rw[Ba,ha];rfl
    rw[fH]at Ar;simp +contextual only[go_sem,JA,Jf];refine⟨Jg,⟨om,om⟩,Jg,(i+1,o++[a+1]),[0,1,6],⟨by simp only;omega,Ar⟩,by simp only;omega,rfl,?_,?_⟩
    ·rw[Qo,KJ,KL];simp only[KD,Gj,Gu,go_sem,Jo];simp[JG,ren,Jk,Jf,Jb (Jh o)]
    ·simp[forget,JG,ren,Jk]
  ·have:i=t.nodes.length:=om
   subst this;rw[Gs (by simp[JN])]at ho
   cases o with
   |nil=>simp only[iz,Gu,X5,Jau,go_sem];simp only[Jb6,ho];exact⟨2,rfl,rfl⟩
   |cons y o=>simp only[iz,Gj,YE,Ja0,go_sem];simp only[Jb6,ho];exact⟨2,rfl,rfl⟩
theorem firstsS (t:Tr)(ht:t.Fit)(h:JB (JN t.nodes) []=some o):Fn Ga 190 [t.cv] (.tup [.rslc 1 (iz o) none,.bool true]):=by
 refine fn_of_rowT ?_ rfl (Jh o) rfl;have:=firstsW t ht;refine this.mono λv H' hv=>?_
 simpa only[Jb6,h]using hv
theorem firstsN (t:Tr)(ht:t.Fit)(h:JB (JN t.nodes) []=none):Fn Ga 190 [t.cv] (.tup [.nils,.bool false]):=by
 refine Jhz ?_ rfl rfl;have:=firstsW t ht;refine this.mono λv H' hv=>?_
 simpa only[Jb6,h]using hv
theorem rowg {t:Tr}(h:i<t.nodes.length):t.nodes.getD i default=t.nodes[i]:=by rw[Gc,Gb h];rfl
theorem areItems (t:Tr)(ht:t.Fit)(o:Lu)(ho:Xf o)(hl:o.length=t.nodes.length):Fn Ga 191 [t.cv,.rslc 1 (iz o) none] (.bool (YZ o (λi=>Jv t.nodes i == 65) t.nodes.length t.items 0)):=by
 have Ag:=ht.many;have M3:=ht.items;refine Jc c191_ok rfl rfl λN=>?_
 simp +contextual only[c191,go_sem,Tr.cv,Tr.row,Jf];generalize hD:(λi=>Jv t.nodes i == 65)=isD;refine JL (σ:=Nat×Int) (I:=λs=>s.1<=t.items.length/\0<=s.2/\s.2<=t.nodes.length/\YZ o isD t.nodes.length t.items 0=YZ o isD t.nodes.length (t.items.drop s.1) s.2)
  (inv:=λs=>gp [(1,.rslc 1 (iz o) none),(0,.ptr 0 0 0),(2,.int .i64 s.2),(3,.rslc 1 (iz t.items) none),(0,.int .i64 t.items.length),(0,.int .i64 s.1)] 36)
  (hp:=λ_=>[.arr 2 [t.row]]) (μ:=λs=>t.items.length-s.1) (0,0) ⟨om,sM,sM,sM⟩ ?_ rfl ?_
 ·simp[forget,gp]
 ·rintro⟨j,a⟩ ⟨hj,h0,h1,Aa⟩;simp only at hj h0 h1 Aa;simp +contextual only[go_sem,Tr.row,Jf,Ja];refine⟨λh=>?_,λh=>?_⟩
  ·have Ab:j<t.items.length:=om
   rw[Gn Ab,YZ]at Aa;rw[JF Ab,show t.items.getD j 0=t.items[j] by rw[Gc,Gb Ab];rfl];generalize t.items[j]=i at Aa|-;refine anO ?_;simp +contextual only[go_sem,Ja];refine⟨Jg,?_⟩;refine J3 (within _ _ _) ?_;simp +contextual only[go_sem]
   cases b1:inI a ((t.nodes.length:Int)-1) i with
   |false=>rw[b1]at Aa;simp +contextual only[go_sem];rw[Aa];rfl
   |true=>
    rw[b1]at Aa;have hi:a<=i/\i<=(t.nodes.length:Int)-1:=by simp only[inI,Gm,decide_eq_true_eq]at b1;exact b1
    have Af:i.toNat<t.nodes.length:=om
    simp +contextual only[go_sem,Ja];rw[QC Af];refine anO ?_;simp +contextual only[go_sem,Nd.cv];have hk:isD i=((t.nodes.getD i.toNat default).k == 65):=by rw[<-hD];rfl
    have Au:(((t.nodes.getD i.toNat default).k:Int) == 65)=isD i:=by rw[hk,Gf];simp;omega
    have F9:(((t.nodes.getD i.toNat default).k:Int) != 65) = !isD i:=by rw[bne,Au]
    rw[F9]
    cases b2:isD i with
    |false=>rw[b2]at Aa;simp +contextual only[go_sem];rw[Aa];rfl
    |true=>
     rw[b2]at Aa;simp +contextual only[go_sem,Jf];rw[JF om];refine anO ?_;simp +contextual only[go_sem];have Ai:(o.getD i.toNat 0 != a) = !(o.getD i.toNat 0 == a):=rfl;rw[Ai]
     cases b3:(o.getD i.toNat 0 == a) with
     |false=>rw[b3]at Aa;simp +contextual only[go_sem];rw[Aa];rfl
     |true=>
      rw[b3]at Aa;simp +contextual only[go_sem];refine⟨Jg,Jg,(j+1,i+1),⟨by simp only;omega,by simp only;omega,by simp only;omega,?_⟩,by simp only;omega,?_⟩
      ·simpa using Aa
      ·simp[forget]
  ·have:j=t.items.length:=om
   subst this;rw[Aa];simp[YZ]
theorem isGreat (t:Tr):Fn Ga 169 [t.cv] (.bool (decide (700<t.nodes.length\/20<t.items.length))):=by
 refine Jc c169_ok rfl rfl λN=>?_
 simp +contextual only[c169,go_sem,Tr.cv,Tr.row,Jf,Ja];refine⟨λh=>?_,λh=>?_⟩
 ·congr 1
  exact decide_eq_decide.2 om
 ·congr 1
  symm
  rw[decide_eq_true_eq];omega
def mx (a b:Int):Int:=if b > a then b else a
def ownD (deep:Lu)(ks:Lu):Int:=ks.foldl (λa k=>mx a (deep.getD k.toNat 0+1)) 1
def QS:LP->Lu->Lu
 |[],d=>d
 |ks::K,d=>QS K (d++[ownD d ks])
theorem Jfd:∀(x y:LP) (d:Lu),QS (x++y) d=QS y (QS x d)
 |[],_,_=>rfl
 |k::x,y,d=>by simp only[List.cons_append,QS];exact Jfd x y _
theorem JcG:∀(K:LP) (d:Lu),(QS K d).length=d.length+K.length
 |[],d=>by simp[QS]
 |k::K,d=>by simp only[QS];rw[JcG K];simp;omega
def DOk (d:Lu):Prop:=∀v∈d,1<=v/\v<=d.length
theorem mx_le{c:Int}(h1:a<=c)(h2:b<=c):mx a b<=c:=by unfold mx;split <;> omega
theorem mx_ge{c:Int}(h1:c<=a):c<=mx a b:=by unfold mx;split <;> omega
theorem Jht(h:∀v∈d,1<=v/\v<=m)(hm:0<=m)(k:Nat):0<=d.getD k 0/\d.getD k 0<=m:=by
 rw[Gc]
 cases hk:d[k]? with
 |none=>simp;omega
 |some v=>have:=h v (Gp hk);simp;omega
theorem Jhf(h:∀v∈d,1<=v/\v<=m)(hm:0<=m):∀(ks:Lu) (a:Int),1<=a->a<=m+1->1<=ks.foldl (λa k=>mx a (d.getD k.toNat 0+1)) a/\ks.foldl (λa k=>mx a (d.getD k.toNat 0+1)) a<=m+1
 |[],a,h1,h2=>⟨h1,h2⟩
 |k::ks,a,h1,h2=>by have:=Jht h hm k.toNat;exact Jhf h hm ks _ (mx_ge h1) (mx_le h2 om)
theorem JhK:∀(K:LP) (d:Lu),DOk d->DOk (QS K d)
 |[],d,h=>h
 |k::K,d,h=>by
  refine JhK K _ λv hv=>?_
  rcases List.mem_append.1 hv with hv|hv
  ·have:=h v hv;simp;omega
  ·simp at hv;have:=Jhf (m:=d.length) (λv hv=>h v hv) om k 1 om om;rw[hv];simp only[List.length_append,Gx,Gy];unfold ownD;omega
theorem maxL (x:Int)(l:Lu)(hl:l.length<=100000):Fn Ga 200 [.rslc 1 (iz (x::l)) none] (.int .i64 (l.foldl mx x)):=by
 refine Jc c200_ok rfl rfl λN=>?_
 have d0:(((l.length+1:Nat):Int)<1)=False:=J7;simp +contextual only[c200,go_sem,Jf,d0];rw[JF sM];refine anO ?_;simp +contextual only[go_sem];refine JL (I:=λi:Nat=>i<=l.length) (inv:=λi=>gp [(0,.rslc 1 (iz (x::l)) none),(2,.int .i64 ((l.take i).foldl mx x)),(0,.int .i64 (i+1:Nat))] 20) (hp:=λ_=>[]) (μ:=λi=>l.length-i) 0 om ?_ rfl ?_
 ·simp[forget,gp]
 ·intro i hi;simp +contextual only[go_sem,Jf,Gx];refine⟨λh=>?_,λh=>?_⟩
  ·have Ab:i<l.length:=om
   rw[JF (by simp;omega)];refine anO ?_;simp +contextual only[go_sem];refine⟨Jg,i+1,om,om,?_⟩;have hs:(l.take (i+1)).foldl mx x=mx ((l.take i).foldl mx x) (l.getD i 0):=by rw[Gi Ab,GQ,Gc,Gb Ab];rfl
   rw[hs];simp[forget,mx]
  ·have:i=l.length:=om
   subst this;rw[Gq]
def Jbj (t:Tr):Bool:=(QS (JN t.nodes) []).any λv=>decide (30<v)
theorem mx_any (c:Int):∀(l:Lu) (x:Int),c<l.foldl mx x↔(c<x\/(l.any λv=>decide (c<v))=true)
 |[],x=>sM
 |y::l,x=>by
  rw[List.foldl_cons,mx_any c l (mx x y),GX,Bool.or_eq_true,decide_eq_true_eq,<-or_assoc];refine or_congr ?_ Iff.rfl;unfold mx
  split <;> omega
theorem Jgm(h:K[i]? = some ks):QS (K.take (i+1)) []=QS (K.take i) []++[ownD (QS (K.take i) []) ks]:=by have Ab:=(Gg.1 h).1;rw[Gi Ab,(Gg.1 h).2,Jfd];rfl
theorem isDeep (t:Tr)(ht:t.Fit)(ho:JB (JN t.nodes) []=some o):Fn Ga 171 [t.cv] (.bool (Jbj t)):=by
 have Ag:=ht.many;refine Jc c171_ok rfl rfl λN=>?_
 simp +contextual only[c171,go_sem,Tr.cv,Tr.row];refine YD ?_;simp only[go_sem,Ja];refine Jr (I:=λi:Nat=>i<=t.nodes.length) (inv:=λi=>gp [(3,Qq 0 (iz (QS ((JN t.nodes).take i) []))),(6,.rslc 5 (ndz t.nodes) none),(0,.int .i64 t.nodes.length),(0,.int .i64 i)] 31)
  (hp:=λi=>[Xj 1 (iz (QS ((JN t.nodes).take i) []))]) (μ:=λi=>t.nodes.length-i) 0 [1] om rfl ?_ rfl ?_
 ·simp[forget,JG,ren,Jk,gp,QS,iz,Qq]
 ·intro i hi;have Be:(QS ((JN t.nodes).take i) []).length=i:=by rw[JcG,GR];simp[JN];omega
  have E9:=JhK ((JN t.nodes).take i) [] (by intro v hv;simp at hv);by_cases Ab:i<t.nodes.length
  ·have Ar:=Jgm (Km Ab);have IP:=XL ho (Km Ab);have hx:=ht.nodes _ (Gt Ab);rw[<-rowg Ab]at hx;have Ct:=Be;clear Be;generalize QS ((JN t.nodes).take i) []=d at Ar Ct E9|-;have d1:=dtT i t.nodes.length;simp +contextual only[go_sem,Ja,d1];rw[QC Ab];generalize t.nodes.getD i default=x at Ar IP hx|-;refine⟨om,by simp[Nd.cv],?_⟩;simp +contextual only[go_sem,Nd.cv,Jf];have Bh:=hx.kidn;have F5:∀v∈d,1<=v/\v<=i:=λv hv=>by have:=E9 v hv;omega
   refine JL (I:=λj:Nat=>j<=x.kids.length) (inv:=λj=>gp [(3,Qq 0 (iz d)),(2,.int .i64 (ownD d (x.kids.take j))),(3,.rslc 5 (ndz t.nodes) none),(0,.int .i64 t.nodes.length),(0,.int .i64 i),(4,.rslc 1 (iz x.kids) none),(0,.int .i64 x.kids.length),(0,.int .i64 j)] 24)
    (hp:=λ_=>[Xj 1 (iz d),.arr 5 [x.cv]]) (μ:=λj=>x.kids.length-j) 0 om ?_ rfl ?_
   ·simp[forget,gp,ownD]
   ·intro j hj;by_cases A7:j<x.kids.length
    ·have d2:=dtT j x.kids.length;have AO:x.kids.getD j 0∈x.kids:=by rw[Gc,Gb A7];exact Gt A7
     have hb:=IP _ AO;have Ai:iz d≠[]:=by intro e;have:=congrArg Gr e;rw[Jf]at this;simp at this;rw[this]at Ct;simp at Ct;omega
     have Al:ownD d (x.kids.take (j+1))=mx (ownD d (x.kids.take j)) (d.getD (x.kids.getD j 0).toNat 0+1):=by
      have Dz:x.kids.getD j 0=x.kids[j]:=by rw[Gc,Gb A7];rfl
      unfold ownD;rw[Gi A7,GQ,Dz];rfl
     rw[Y4 Ai,YF Ai];simp +contextual only[go_sem,Jf,d2];rw[JF A7];generalize x.kids.getD j 0=k at hb Al|-;refine anO ?_;simp +contextual only[go_sem,Jf];rw[JF om];have Pq:=Jht (m:=i) (λv hv=>by have:=F5 v hv;omega) om k.toNat;refine⟨om,⟨om,sM⟩,?_⟩;simp +contextual only[go_sem];refine⟨Jg,Jg,j+1,om,om,?_⟩;rw[Al];simp[forget,mx]
    ·have Cf:j=x.kids.length:=om
     subst Cf;have d2:=dfF x.kids.length x.kids.length;rw[Gq];have Ro:=Jhf (m:=i) F5 om x.kids 1 om om;simp +contextual only[go_sem,d2,JA,Jf];refine⟨⟨om,om⟩,Jg,i+1,[3],om,om,rfl,?_,?_⟩
     ·rw[Ar,Qo,KL];simp only[KD,Gj,Gu,go_sem,Jo];rw[<-Qo,Jb (Jh _)]
     ·rw[Ar,Qo,KJ];simp[forget,JG,ren,Jk,Jf]
  ·have Cy:i=t.nodes.length:=om
   subst Cy;have d1:=dfF t.nodes.length t.nodes.length;have hB:Jbj t=(QS ((JN t.nodes).take t.nodes.length) []).any λv=>decide (30<v):=by rw[Jbj,Gs (by simp[JN])]
   rw[hB];generalize QS ((JN t.nodes).take t.nodes.length) []=d at Be E9|-;have az:d.length<=100000:=om
   cases d with
   |nil=>simp +contextual only[go_sem,d1,iz,Gu,X5,Jau];rfl
   |cons y d=>
    have d3:((0:Int)<((iz (y::d)).length:Nat))=True:=eq_true (by rw[Jf];simp only[Gx];omega);rw[Y4 (by simp[iz]),YF (by simp[iz])];simp +contextual only[go_sem,d1,d3];refine Je (id:=0) (z:=1) (els:=iz (y::d)) rfl (Jh _) ?_;simp only[go_sem,JM,KA,frz,Kn,Gq];refine Kk (gok rfl) (maxL y d (by simp at az;omega)) ?_;simp +contextual only[go_sem]
    congr 1
    rw[Gf,decide_eq_true_eq,mx_any];simp
theorem indexN{l1 l2:Ls}(l:LC)(q:Nd->Bool)(cap:Option Nat)(hF:Jd Ga f=some F)(CY:Jl l1=true)(Dg:Jl l2=true)
  (hq:∀p∈l,Fn Ga f (l1++[.agg p.cv]++l2) (.bool (q p))) (Ad:l.length<=100000):Fn Ga 219 [.rslc 5 (ndz l) cap,.fn f l1 l2] (.int .i64 (XT q l 0)):=by
 refine Jc c219_ok (by simp[Jl,CV.closed,CY,Dg]) rfl λN=>?_
 simp +contextual only[c219,go_sem,Ja];refine JL (I:=λi:Nat=>i<=l.length/\XT q l 0=XT q (l.drop i) i) (inv:=λi=>gp [(0,.rslc 5 (ndz l) cap),(0,.fn f l1 l2),(5,.int .i64 l.length),(0,.int .i64 i)] 10) (hp:=λ_=>[]) (μ:=λi=>l.length-i) 0 ?_ ?_ rfl ?_
 ·simp
 ·simp[forget,gp]
 ·rintro i ⟨hi,Aa⟩;simp +contextual only[go_sem,Ja];refine⟨λh=>?_,λh=>?_⟩
  ·have Ab:i<l.length:=om
   obtain⟨p,hp⟩:∃p,l[i]? = some p:=⟨_,Gb Ab⟩;rw[Xn hp]at Aa;rw[QC Ab,show l.getD i default=p by rw[Gc,hp];rfl];refine⟨om,by simp[Nd.cv],?_⟩;refine vr_fv (.inl rfl) rfl hF nm (hq p (Gp hp)) ?_;simp only[go_sem];refine⟨λh2=>?_,λh2=>?_⟩
   ·rw[Aa,if_pos h2]
   ·rw[h2]at Aa;refine⟨Jg,i+1,⟨om,by simpa using Aa⟩,om,?_⟩;simp[forget]
  ·have:i=l.length:=om
   subst this;rw[Aa];simp[XT]
theorem containsN{l1 l2:Ls}(l:LC)(q:Nd->Bool)(cap:Option Nat)(hF:Jd Ga f=some F)(CY:Jl l1=true)(Dg:Jl l2=true)
  (hq:∀p∈l,Fn Ga f (l1++[.agg p.cv]++l2) (.bool (q p))) (Ad:l.length<=100000):Fn Ga 199 [.rslc 5 (ndz l) cap,.fn f l1 l2] (.bool (l.any q)):=by
 refine Jc c199_ok (by simp[Jl,CV.closed,CY,Dg]) rfl λN=>?_
 simp +contextual only[c199,go_sem];refine J3 (indexN l q cap hF CY Dg hq Ad) ?_;simp +contextual only[go_sem,JaD]
def ndI (l:LC)(x:Nd):Bool:=Kg (JdH x.text) x.k x.text x.n x.pl (lets l x)
theorem isFormN (t:Tr)(x:Nd)(hx:x.Fit)(hn:∀y∈t.nodes,y.k<256)(hk:∀k∈x.kids,0<=k/\k<t.nodes.length):Fn Ga 192 [.agg x.cv,.rptr t.row] (.bool (!ndI t.nodes x)):=by
 have hl:(lets t.nodes x).length<=1000:=by rw[KG];have:=hx.kidn;omega
 refine Jc c192_ok rfl rfl λN=>?_
 simp +contextual only[c192,go_sem,Tr.row,Nd.cv];refine J3 (sortsL t x hx hn hk) ?_;simp +contextual only[go_sem];refine J3 (fnSort x.k hx.k) ?_;simp +contextual only[go_sem];have EE:((letter x.k:Int) == 32)=(letter x.k == 32):=by rw[Gf];simp;omega
 rw[EE]
 cases b1:(letter x.k == 32) with
 |true=>simp +contextual only[go_sem];simp[ndI,Kg,b1]
 |false=>
  simp +contextual only[go_sem];refine Kk (gok rfl) (expectedL x _ hl) ?_;simp +contextual only[go_sem]
  cases b2:(lets t.nodes x == Qi x.k (lets t.nodes x)) with
  |false=>simp +contextual only[go_sem];simp[ndI,Kg,b2]
  |true=>
   simp +contextual only[go_sem];refine Kk (gok rfl) (within 0 2500 x.pl) ?_;simp +contextual only[go_sem]
   cases b3:inI 0 2500 x.pl with
   |false=>simp +contextual only[go_sem];simp[ndI,Kg,b3]
   |true=>
    simp +contextual only[go_sem];refine Kk (gok rfl) (fieldsL x _ (JdH x.text) (isNameW x.text (by have:=hx.text;omega))) ?_;simp +contextual only[go_sem]
    cases b4:fldI (JdH x.text) x.k x.text x.n (lets t.nodes x) with
    |false=>simp +contextual only[go_sem];unfold fldI at b4;simp[ndI,Kg,b4]
    |true=>simp +contextual only[go_sem];refine Kk (gok rfl) (sizedL x _) ?_;simp +contextual only[go_sem];unfold fldI at b4;simp[ndI,Kg,b1,b2,b3,b4]
theorem isFormS (t:Tr)(ht:t.Fit)(h:JB (JN t.nodes) []=some o):Fn Ga 170 [t.cv] (.bool (YZ o (λi=>Jv t.nodes i == 65) t.nodes.length t.items 0 && t.nodes.all (ndI t.nodes))):=by
 have hl:=QQ _ _ _ h;simp[JN]at hl;refine Jc c170_ok rfl rfl λN=>?_
 simp +contextual only[c170,go_sem,Tr.cv,Tr.row];refine Je (id:=0) (z:=2) (els:=[t.row]) rfl rfl ?_;simp only[go_sem,JM,KA,frz,Kn];simp +contextual only[go_sem,Tr.row];refine J3 (firstsS t ht h) ?_;simp +contextual only[go_sem];refine Kk (gok rfl) (areItems t ht o (QU _ _ _ Xf.nil h) hl) ?_;simp +contextual only[go_sem]
 cases b1:YZ o (λi=>Jv t.nodes i == 65) t.nodes.length t.items 0 with
 |false=>simp +contextual only[go_sem]
 |true=>
  simp +contextual only[go_sem];refine J3 (containsN t.nodes (λx=>!ndI t.nodes x) none c192_ok rfl rfl (λx hx=>?_) (by have:=ht.many;omega)) ?_
  ·obtain⟨j,hj⟩:=List.getElem?_of_mem hx;have A7:=(Gg.1 hj).1;have El:(JN t.nodes)[j]? = some x.kids:=by simp[JN,hj]
   exact isFormN t x (ht.nodes x hx) (λy hy=>(ht.nodes y hy).k) (λk hk=>by have:=XL h El k hk;omega)
  ·simp +contextual only[go_sem]
   congr 1
   rw[Gf];simp
theorem isFormN0 (t:Tr)(ht:t.Fit)(h:JB (JN t.nodes) []=none):Fn Ga 170 [t.cv] (.bool false):=by
 refine Jc c170_ok rfl rfl λN=>?_
 simp +contextual only[c170,go_sem,Tr.cv,Tr.row];refine J3 (firstsN t ht h) ?_;simp +contextual only[go_sem]
def frm (t:Tr):Bool:=match JB (JN t.nodes) []with
 |some o=>YZ o (λi=>Jv t.nodes i == 65) t.nodes.length t.items 0 && t.nodes.all (ndI t.nodes)
 |none=>false
theorem isForm (t:Tr)(ht:t.Fit):Fn Ga 170 [t.cv] (.bool (frm t)):=by
 unfold frm
 cases h:JB (JN t.nodes) []with
 |none=>exact isFormN0 t ht h
 |some o=>exact isFormS t ht h
def chk (t:Tr):Int:=if 700<t.nodes.length\/20<t.items.length then 5 else if frm t=true then(if Jbj t=true then 5 else 0) else 4
theorem frm_some {t:Tr}(h:frm t=true):∃o,JB (JN t.nodes) []=some o:=by
 unfold frm at h
 cases ho:JB (JN t.nodes) []with
 |none=>rw[ho]at h;cases h
 |some o=>exact⟨o,rfl⟩
theorem JfW (t:Tr)(ht:t.Fit):Fn Ga 128 [t.cv] (.int .i64 (chk t)):=by
 refine Jc c128_ok rfl rfl λN=>?_
 simp +contextual only[c128,go_sem,Tr.cv,Tr.row];refine Je (id:=0) (z:=2) (els:=[t.row]) rfl rfl ?_;simp only[go_sem,JM,KA,frz,Kn];refine J3 (isGreat t) ?_;by_cases h1:700<t.nodes.length\/20<t.items.length
 ·have hc:chk t=5:=by unfold chk;rw[if_pos h1]
  rw[decide_eq_true h1,hc];simp +contextual only[go_sem]
 ·rw[decide_eq_false h1];simp +contextual only[go_sem,Tr.row];refine J3 (isForm t ht) ?_
  cases h2:frm t with
  |false=>
   have hc:chk t=4:=by unfold chk;rw[if_neg h1,if_neg (by rw[h2];simp)]
   rw[hc];simp +contextual only[go_sem]
  |true=>
   obtain⟨o,ho⟩:=frm_some h2;have hc:chk t=if Jbj t=true then 5 else 0:=by unfold chk;rw[if_neg h1,if_pos h2]
   rw[hc];simp +contextual only[go_sem];refine J3 (isDeep t ht ho) ?_
   cases h3:Jbj t with
   |false=>simp +contextual only[go_sem]
   |true=>simp +contextual only[go_sem]
end Go.Cm
end
section
open Go.Proofs
namespace Go.Cm
section
variable {K:LP}{o:Lu}(t:Ordd K o){d m:Nat}(Pv:d<=m)(hm:m<=K.length)(AR:∀j:Nat,d<=j->j<m->(d:Int)<=fs o j)
include t AR
include hm
end
theorem deepF_pre:∀(K:LP) (d:Lu),∃t,QS K d=d++t
 |[],d=>⟨[],by simp[QS]⟩
 |ks::K,d=>by obtain⟨t,ht⟩:=deepF_pre K (d++[ownD d ks]);exact⟨_,by rw[QS,ht,List.append_assoc]⟩
theorem deepF_take {K:LP}{m:Nat}(hm:m<=K.length):QS (K.take m) []=(QS K []).take m:=by
 have h:=Jfd (K.take m) (K.drop m) [];rw[Gv]at h;obtain⟨t,ht⟩:=deepF_pre (K.drop m) (QS (K.take m) []);have hl:=JcG (K.take m) [];simp only[Gy,GG,GR]at hl;have Eu:(QS (K.take m) []).length=m:=by rw[hl];exact GZ hm
 rw[h,ht,List.take_left' Eu]
def mvN (d:Int)(x:Nd):Nd:={ x with kids:=x.kids.map (· + d) }
structure GoodT (t:Tr)(o:Lu):Prop where
 many:t.nodes.length<=700
 items:t.items.length<=20
 ord:Ordd (JN t.nodes) o
 its:chain o t.nodes.length 0 t.items t.nodes.length
 defs:∀i∈t.items,Jv t.nodes i=65
 nds:∀x∈t.nodes,ndI t.nodes x=true
 deep:∀v∈QS (JN t.nodes) [],v<=30
theorem QD {l:LC}:(JN l).length=l.length:=by simp[JN]
theorem Jd7 (t:Tr):chk t=0↔∃o,GoodT t o:=by
 constructor
 ·intro h;unfold chk at h
  split at h
  ·simp at h
  ·rename_i h1
   split at h
   ·rename_i h2
    split at h
    ·simp at h
    ·rename_i h3;obtain⟨o,ho⟩:=frm_some h2;unfold frm at h2;rw[ho]at h2;simp only[Gm,GV]at h2;have Ao:=QU _ _ _ Xf.nil ho;have Ba:=QQ _ _ _ ho;simp only[Gy,GG,QD]at Ba;obtain⟨c1,c2⟩:=(X8 Ao Ba t.items 0 om).1 h2.1;refine⟨o,⟨om,om,⟨ho⟩,c1,λi hi=>by simpa using c2 i hi,h2.2,λv hv=>?_⟩⟩;by_cases EB:v<=30
     ·exact EB
     ·refine absurd ?_ h3;unfold Jbj;rw[GU];exact⟨v,hv,by simpa using Int.not_le.1 EB⟩
   ·simp at h
 ·rintro⟨o,g⟩;have h1:=g.many;have h2:=g.items;unfold chk;rw[iN7,if_pos,if_neg]
  ·unfold Jbj;rw[GU];rintro⟨v,hv,hd⟩;have:=g.deep v hv;simp only[decide_eq_true_eq]at hd;omega
  ·unfold frm;rw[g.ord.h];have Ba:=g.ord.len;rw[QD]at Ba;simp only[Gm,GV];refine⟨(X8 g.ord.ok Ba t.items 0 om).2 ⟨g.its,λi hi=>by simpa using g.defs i hi⟩,g.nds⟩
namespace GoodT
variable {t:Tr}{o:Lu}(g:GoodT t o)
include g
theorem olen:o.length=t.nodes.length:=by rw[g.ord.len,QD]
theorem kid {j:Nat}(hj:j<t.nodes.length){k:Int}(hk:k∈(t.nodes.getD j default).kids):0<=k/\k<j:=by have:=g.ord.kid_rng (Km hj) hk;omega
end GoodT
end Go.Cm
end
end
