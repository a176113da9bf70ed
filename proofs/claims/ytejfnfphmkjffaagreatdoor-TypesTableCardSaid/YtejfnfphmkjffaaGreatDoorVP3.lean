/-
  A part of the proof. Conditions: none.
-/
import Derived.Test.YtejfnfphmkjffaaGreatDoorVA6
import Derived.Test.YtejfnfphmkjffaaGreatDoorVI3
import Derived.Test.YtejfnfphmkjffaaGreatDoorVS1
import Derived.BigCall
import Derived.Shelf.Strings.Builder1
set_option linter.unusedSimpArgs false
set_option linter.unusedVariables false
open Go.Proofs.Tryz renaming prog->Ga
open Bool renaming eq_iff_iff->Gf,and_eq_true->Gm,eq_false_or_eq_true->GH,or_eq_false_iff->GI,false_and->GJ
open Int renaming cast_ofNat_Int->Gd
open List renaming getD_eq_getElem?_getD->Gc,getElem?_eq_getElem->Gb,getElem?_eq_some_iff->Gg,take_succ_eq_append_getElem->Gi,drop_eq_getElem_cons->Gn,mem_of_getElem?->Gp,take_of_length_le->Gs,take_length->Gq,map_cons->Gj,getElem_mem->Gt,take_append_drop->Gv,takeWhile_cons->Gw,length->Gr,map_nil->Gu,length_cons->Gx,length_nil->Gy,replicate->Gz,prefix_iff_eq_take->GK,mem_cons->GA,takeWhile_prefix->GL,mem_singleton->GM,all_takeWhile->GN,foldl_append->GQ,length_take->GR,any_eq_true->GU,all_eq_true->GV,any_cons->GX
open Option renaming bind_some->GD,getD_some->GY
open Nat renaming le_of_lt->Gh,le_refl->Gl,zero_add->GG,min_eq_left->GZ,le_trans->G5
noncomputable section
section
open Go.Proofs
namespace Go.Cm
section
theorem nm {f:Nat}:(Ga.funcs[f]?.map (·.name))≠some "runtime.NumGoroutine" :=Jck pNames f
def isLt (c:UInt8):Bool:=decide (97<=c.toNat) && decide (c.toNat<=122)
def isBk (c:UInt8):Bool:=c == 32 || c == 10
def isGp (c:UInt8):Bool:=isBk c || c == 126
theorem dle (a:Nat)(c:UInt8):decide ((a:Int)<=(c.toNat:Int))=decide (a<=c.toNat):=decide_eq_decide.2 (by omega)
theorem dge (a:Nat)(c:UInt8):decide ((c.toNat:Int)<=(a:Int))=decide (c.toNat<=a):=decide_eq_decide.2 (by omega)
theorem deq (a:Nat)(ha:a<256)(c:UInt8):((c.toNat:Int) == (a:Int))=(c == UInt8.ofNat a):=by
 rw[Gf];simp only[beq_iff_eq]
 constructor
 ·intro h;apply UInt8.toNat_inj.1;simp;omega
 ·intro h;rw[h];simp;omega
theorem JeB (c:UInt8):Fn Ga 233 [.int .u8 c.toNat] (.bool (isLt c)):=by
 refine Ja c233_ok rfl rfl λN=>?_
 have h1:=dle 97 c;have h2:=dge 122 c;simp only[Gd]at h1 h2;simp +contextual only[c233,go_sem,h1,h2,isLt]
theorem Jc4 (c:UInt8):Fn Ga 235 [.int .u8 c.toNat] (.bool (Xp c)):=by
 refine Ja c235_ok rfl rfl λN=>?_
 have h1:=dle 48 c;have h2:=dge 57 c;simp only[Gd]at h1 h2;simp +contextual only[c235,go_sem,h1,h2,Xp]
theorem lexIsBlank (c:UInt8):Fn Ga 232 [.int .u8 c.toNat] (.bool (isBk c)):=by
 refine Ja c232_ok rfl rfl λN=>?_
 have h1:=deq 32 (by decide) c;have h2:=deq 10 (by decide) c;simp only[Gd]at h1 h2;simp +contextual only[c232,go_sem,h1,h2];show ((c == 32)=false->CV.bool (c == 10)=CV.bool ((c == 32) || (c == 10)))/\((c == 32)=true->CV.bool true=CV.bool ((c == 32) || (c == 10)))
 cases (c == 32) <;> simp
theorem lexIsGap (c:UInt8):Fn Ga 222 [.int .u8 c.toNat] (.bool (isGp c)):=by
 refine Ja c222_ok rfl rfl λN=>?_
 have h1:=deq 126 (by decide) c;simp only[Gd]at h1;simp +contextual only[c222,go_sem];refine JV (lexIsBlank c) ?_;simp +contextual only[go_sem,h1]
 cases h:isBk c with
 |true=>simp[isGp,h]
 |false=>simp[isGp,h]
def Xk {α:Type}(q:α->Bool):List α->Nat->Int
 |[],_=>-1
 |p::l,i=>if q p then i else Xk q l (i+1)
theorem QX {α:Type}{q:α->Bool}{l:List α}{i:Nat}{p:α}(h:l[i]? = some p):Xk q (l.drop i) i=if q p then(i:Int) else Xk q (l.drop (i+1)) (i+1):=by
 have Ab:=(Gg.1 h).1;have hp:=(Gg.1 h).2;rw[Gn Ab,hp];rfl
theorem fixA_neg {α:Type}{q:α->Bool}:∀(l:List α) (i:Nat),Xk q l i<0↔l.any q=false
 |[],_=>by simp[Xk]
 |p::l,i=>by
  have:=fixA_neg (q:=q) l (i+1);simp only[Xk,GX,GI];by_cases h:q p=true
  ·simp only[h,if_true,Bool.true_eq_false,false_and,iff_false];omega
  ·have h':q p=false:=by simpa using h
   rw[if_neg h,this];simp[h']
theorem Jav {α:Type}{q:α->Bool}(l:List α):decide (0<=Xk q l 0)=l.any q:=by
 have h:=fixA_neg (q:=q) l 0
 cases h2:l.any q with
 |true=>
  rw[decide_eq_true_eq];rw[h2]at h;simp at h;exact h
 |false=>
  rw[decide_eq_false_iff_not];have:=h.2 h2;omega
structure FnQ where
 f:Nat
 q:UInt8->Bool
def Jhe (p:FnQ):Prop:=(∃F,Je Ga p.f=some F)/\∀c:UInt8,Fn Ga p.f [.int .u8 c.toNat] (.bool (p.q c))
def qLt:FnQ:=⟨233,isLt⟩
def qDg:FnQ:=⟨235,Xp⟩
theorem qLt_ok:Jhe qLt:=⟨⟨_,c233_ok⟩,JeB⟩
theorem qDg_ok:Jhe qDg:=⟨⟨_,c235_ok⟩,Jc4⟩
def fnz (l:List FnQ):List (List CV):=l.map λp=>[.fn p.f [] []]
theorem fnz_len {l:List FnQ}:(fnz l).length=l.length:=by simp[fnz]
theorem fnz_get {l:List FnQ}{i:Nat}{p:FnQ}(h:l[i]? = some p):(fnz l).getD i []=[.fn p.f [] []]:=by
 simp[fnz,Gc,h]
section
variable {E:Env}{H:List CObj}{id:Nat}{l:List UInt8}{at_:Nat}
theorem run1 (hH:H[id]? = some (.arr 1 [[.int .i64 (at_:Int)]]))(Ab:at_<l.length)(p:FnQ)(hp:Jhe p):Pure Ga E 242 [.fn p.f [] [],.rptr [S l],.ptr id 0 0] H (.bool (p.q (l.getD at_ 0))):=by
 obtain⟨⟨F,hF⟩,hq⟩:=hp;refine Kc c242_ok λN=>?_
 simp +contextual only[c242,go_sem,hH];refine⟨⟨by omega,by omega⟩,?_⟩;refine vr_fv (.inl rfl) rfl hF nm (hq _) ?_;simp +contextual only[go_sem]
theorem vr_pcallv {P:Program}{n0:Nat}{N:Fr}{Q:Exit->List CV->List CObj->Prop}{T:List CV}{k:List KItem}{d:Option Nat}{g:Option (Nat×Bool)}{x:IArg}{f:Nat}{l1 l2:List CV}{xs:List IArg}{l:List IOper}{v:CV}{F:IFunc}(hg:GOk T g) (hx:Ka T x=.fn f l1 l2) (hF:Je P f=some F) (EM:(P.funcs[f]?.map (·.name))≠some "runtime.NumGoroutine")
  (Ah:Pure P E f (l1++xs.map (Ka T)++l2) H v) (h:Ko P E n0 N Q (.ops l::k) (put T d v) H):Ok P E n0 N Q (.ops (⟨d,.callv x xs,g⟩::l)::k) T H:=by
 have Bn:∃fn,P.funcs[f]? = some fn/\fn.body.isSome=true:=by
  unfold Je at hF
  split at hF
  ·rename_i fn Bn
   split at hF
   ·rename_i c hb;exact⟨fn,Bn,by rw[hb];rfl⟩
   ·cases hF
  ·cases hF
 obtain⟨fn,Bn,Dy⟩:=Bn;exact JgV hg hx Bn Dy (λe=>EM (by rw[Bn,<-e];rfl)) Ah λv' H' ⟨h1,h2⟩=>by rw[h1,h2];exact JA _ _ _ h
theorem indexF (hH:H[id]? = some (.arr 1 [[.int .i64 (at_:Int)]]))(Ab:at_<l.length)(fs:List FnQ)(cap:Option Nat)(Fw:∀p∈fs,Jhe p)(hl:fs.length<=1000) :
  Pure Ga E 249 [.rslc 1 (fnz fs) cap,.fn 242 [] [.rptr [S l],.ptr id 0 0]] H (.int .i64 (Xk (λp=>p.q (l.getD at_ 0)) fs 0)):=by
 generalize hQ:(λp:FnQ=>p.q (l.getD at_ 0))=q;refine Kc c249_ok λN=>?_
 simp +contextual only[c249,go_sem,fnz_len];refine JE (I:=λi:Nat=>i<=fs.length/\Xk q fs 0=Xk q (fs.drop i) i) (inv:=λi=>gp [(0,.rslc 1 (fnz fs) cap),(0,.fn 242 [] [.rptr [S l],.ptr id 0 0]),(5,.int .i64 fs.length),(0,.int .i64 i)] 10) (hp:=λ_=>H) (μ:=λi=>fs.length-i) 0 ?_ ?_ rfl ?_
 ·simp
 ·simp[forget,gp]
 ·rintro i ⟨hi,Aa⟩;simp +contextual only[go_sem,fnz_len];refine⟨λh=>?_,λh=>?_⟩
  ·have D6:i<fs.length:=by omega
   obtain⟨p,hp⟩:∃p,fs[i]? = some p:=⟨_,Gb D6⟩;rw[QX hp]at Aa;rw[fnz_get hp];refine anO ?_;simp +contextual only[go_sem];refine vr_pcallv (.inl rfl) rfl c242_ok nm (run1 hH Ab p (Fw p (Gp hp))) ?_;have Iy:p.q (l.getD at_ 0)=q p:=by rw[<-hQ]
   rw[Iy];simp only[go_sem];refine⟨λh2=>?_,λh2=>?_⟩
   ·rw[Aa,if_pos h2]
   ·rw[h2]at Aa;refine⟨Jh,i+1,⟨by omega,by simpa using Aa⟩,by omega,?_⟩;simp[forget]
  ·have:i=fs.length:=by omega
   subst this;rw[Aa];simp[Xk]
theorem containsF (hH:H[id]? = some (.arr 1 [[.int .i64 (at_:Int)]]))(Ab:at_<l.length)(fs:List FnQ)(cap:Option Nat)(Fw:∀p∈fs,Jhe p)(hl:fs.length<=1000) :
  Pure Ga E 245 [.rslc 1 (fnz fs) cap,.fn 242 [] [.rptr [S l],.ptr id 0 0]] H (.bool (fs.any λp=>p.q (l.getD at_ 0))):=by
 refine Kc c245_ok λN=>?_
 simp +contextual only[c245,go_sem];refine JaI (indexF hH Ab fs cap Fw hl) ?_;simp +contextual only[go_sem,Jav]
theorem noneF (hH:H[id]? = some (.arr 1 [[.int .i64 (at_:Int)]]))(Ab:at_<l.length)(fs:List FnQ)(cap:Option Nat)(Fw:∀p∈fs,Jhe p)(hl:fs.length<=1000) :
  Pure Ga E 241 [.rslc 1 (fnz fs) cap,.fn 242 [] [.rptr [S l],.ptr id 0 0]] H (.bool (!fs.any λp=>p.q (l.getD at_ 0))):=by
 refine Kc c241_ok λN=>?_
 simp +contextual only[c241,go_sem];refine JaI (containsF hH Ab fs cap Fw hl) ?_;simp +contextual only[go_sem]
end
def Q6 (q:UInt8->Bool)(l:List UInt8)(a:Nat):Nat:=a+((l.drop a).takeWhile q).length
theorem YO {q:UInt8->Bool}{l:List UInt8}{a:Nat}(h:a<=l.length):Q6 q l a<=l.length:=by
 unfold Q6;have:=(List.takeWhile_sublist (l:=l.drop a) q).length_le;simp at this;omega
theorem runE_end {q:UInt8->Bool}{l:List UInt8}{a:Nat}(h:l.length<=a):Q6 q l a=a:=by
 unfold Q6;rw[List.drop_eq_nil_of_le h];rfl
theorem JdI {q:UInt8->Bool}{l:List UInt8}{a:Nat}(h:a<l.length)(hq:q (l.getD a 0)=true):Q6 q l a=Q6 q l (a+1):=by
 unfold Q6;rw[Gc,Gb h]at hq;simp only[GY]at hq;rw[Gn h,Gw,if_pos hq];simp;omega
theorem Jei {q:UInt8->Bool}{l:List UInt8}{a:Nat}(h:a<l.length)(hq:q (l.getD a 0)=false):Q6 q l a=a:=by
 unfold Q6;rw[Gc,Gb h]at hq;simp only[GY]at hq;rw[Gn h,Gw,hq];simp
theorem lexRun (l:List UInt8)(a:Nat)(fs:List FnQ)(cap:Option Nat)(Fw:∀p∈fs,Jhe p)(hl:fs.length<=1000)(CJ:l.length<=1000000)(ha:a<=l.length) :
  Fn Ga 234 [S l,.int .i64 (a:Int),.rslc 1 (fnz fs) cap] (.int .i64 (Q6 (λc=>fs.any λp=>p.q c) l a:Nat)):=by
 generalize hQ:(λc=>fs.any λp:FnQ=>p.q c)=q;refine Ja c234_ok rfl rfl λN=>?_
 simp +contextual only[c234,go_sem];refine Jd (id:=0) (z:=1) (els:=[[S l]]) rfl rfl ?_;simp only[go_sem,JY,Ky,frz,Qc];refine JE (I:=λi:Nat=>i<=l.length/\Q6 q l a=Q6 q l i) (inv:=λi=>gp [(2,.rslc 1 (fnz fs) cap),(0,.rptr [S l]),(0,.ptr 1 0 0)] 15) (hp:=λi=>[.dead,.arr 1 [[.int .i64 (i:Int)]]]) (μ:=λi=>l.length-i) a ⟨ha,rfl⟩ ?_ rfl ?_
 ·simp[forget,gp]
 ·rintro i ⟨hi,Aa⟩;simp +contextual only[go_sem];by_cases Ab:i<l.length
  ·have d1:=dtT i l.length;simp +contextual only[go_sem,d1];refine vr_pureg (gok rfl) (noneF (id:=1) (l:=l) (at_:=i) rfl Ab fs cap Fw hl) ?_;have hq:(fs.any λp=>p.q (l.getD i 0))=q (l.getD i 0):=by rw[<-hQ]
   rw[hq]
   cases CZ:q (l.getD i 0) with
   |true=>
    simp +contextual only[go_sem];refine⟨Jh,i+1,⟨by omega,by rw[Aa,JdI Ab CZ]⟩,by omega,by simp,?_⟩;simp[forget]
   |false=>
    simp +contextual only[go_sem];rw[Aa,Jei Ab CZ]
  ·have d1:=dfF i l.length;simp +contextual only[go_sem,d1];rw[Aa,runE_end (by omega)]
end
end Go.Cm
end
section
open Go.Proofs Go.RowKit
namespace Go.Cm
theorem repL_eq (c:UInt8):∀n,Lib.repeatL [c] n=Gz n c
 |0=>rfl
 |n+1=>by
  have:=repL_eq c n;simp[Lib.repeatL,List.replicate_succ]at this|-
  first|exact this|(rw[this])
theorem cntL_eq (c:UInt8)(l:List UInt8):Lib.countByte l c=Qo c l:=rfl
theorem cntB_le (c:UInt8)(l:List UInt8):Qo c l<=l.length:=List.count_le_length
theorem repeatL (c:UInt8)(n:Nat)(hn:n<=1000000):Fn Ga 180 [S [c],.int .i64 n] (S (Gz n c)):=by
 intro E H;refine KP λm w vs hs hv=>?_
 simp only[JS,rel]at hv;obtain⟨r,rs,e,rfl,r2,rs2,rfl,rfl,rfl⟩:=hv;have BI:vs=#[.string ⟨⟨[c]⟩⟩,.int .i64 n]:=by cases vs;simp_all
 subst BI;refine⟨_,Tryz.strings_Repeat ⟨⟨[c]⟩⟩ n w (by omega) ?_,?_⟩
 ·simp[S_size];omega
 ·rw[repL_eq];rfl
theorem countL (l:List UInt8)(c:UInt8):Fn Ga 181 [S l,S [c]] (.int .i64 (Qo c l)):=by
 intro E H;refine KP λm w vs hs hv=>?_
 simp only[JS,rel]at hv;obtain⟨r,rs,e,rfl,r2,rs2,rfl,rfl,rfl⟩:=hv;have BI:vs=#[.string ⟨⟨l⟩⟩,.string ⟨#[c]⟩]:=by cases vs;simp_all
 subst BI;refine⟨_,(Tryz.strings_Count_one ⟨⟨l⟩⟩ c w).mono λe w' ⟨h1,h2⟩=>⟨h1,by rw[h2];exact Below.refl _ _⟩,?_⟩;rw[cntL_eq];rfl
end Go.Cm
end
section
open Go.Shelf Go.RowKit Go.Proofs
namespace Go.Proofs
theorem Tryz.tab_of {w:World}(h:Go.Cm.GLw w):Lib.TabIs Ga w "internal/strconv.uint64pow10" .u64 Lib.pow10Tab:=by
 obtain⟨_,⟨e,q,h1⟩,_⟩:=h
 have hg:Ga.globalNamed "internal/strconv.uint64pow10" = some Go.Cm.gTab:=by kernel_rfl
 simp only[show Go.Cm.gTab<Go.Cm.gN by decide,if_true]at h1;simp only[Lib.TabIs,World.var?,hg,GD,h1]
theorem Tryz.err_of {w:World}(h:Go.Cm.GLw w){B:Nat}(hB:B∈Go.Cm.gErr):∃te pe,w.cell? ⟨B,0,none⟩=some (.iface te pe):=by
 obtain⟨te,pe,e,q,h1⟩:=h.2.2 B hB;have Ab:B<Go.Cm.gN:=by
  have:∀x∈Go.Cm.gErr,x<Go.Cm.gN:=by decide
  exact this B hB
 simp only[if_pos Ab]at h1;exact⟨te,pe,by simp[World.cell?,h1]⟩
theorem Tryz.GLw_below {w w':World}(h:Go.Cm.GLw w)(hb:Below w.heap.size w w'):Go.Cm.GLw w':=h.mono λB hB=>hb.block B (h.lt hB)
open Go.Cm in
set_option maxHeartbeats 4000000 in
set_option maxRecDepth 100000 in
theorem Tryz.isNumber_walk (l:List UInt8)(hd:l.all Xp=true)(Ai:l≠[])(hl:l.length<=1000000)(w:World)(hg:GLw w) :
  Calls Ga 237 #[.string ⟨⟨l⟩⟩] w λe w'=>e=.returned (.bool (JbV l))/\Below w.heap.size w w':=by
 have hat:=atoi_digits l hd Ai;have gM:=digits_back _ l rfl hd Ai;by_cases hr:JcD l<9223372036854775808
 ·rw[if_pos hr]at hat;have Ap:JbV l=(decide (JcD l<=1000000000) && (Lib.decDigits (JcD l) == l)):=by
   unfold JbV
   congr 1
   rw[Gf];simp only[decide_eq_true_eq,beq_iff_eq];exact gM.symm
  rw[Ap];generalize JcD l=v at hat hr;have grow_below:∀(w:World) (k:Nat) (os:Array Obj),Below w.heap.size w (Go.Sort.grow (w.drewN k) os):=λw k os=>
   ⟨rfl,rfl,rfl,by simp[Go.Sort.grow,World.drewN],λi hi=>by
    simp only[Go.Sort.grow,World.drewN];rw[Array.getElem?_append_left hi]⟩
  by_cases hv:v<=1000000000
  ·rw[decide_eq_true hv,Bool.true_and];have d2:((v:Int)<=1000000000):=by omega
   go_enter Tryz.func237,Tryz.ntmps237
   go_wp2_with (go_at_call 243;refine(Tryz.strconv_Atoi_ok ⟨⟨l⟩⟩ (by simp[ByteArray.size];omega) v hat _).mono ?_;rintro e W1 ⟨rfl,hW⟩)
   have Ep:Below w.heap.size w W1:=by
    rcases hW with rfl|⟨t,rfl⟩
    ·exact Below.refl _ _
    ·exact Lib.bytesWorld_below _ _ _
   have F3:=Tryz.GLw_below hg Ep;clear hW
   go_wp2_with (go_at_call 244;refine(Tryz.strconv_Itoa (v:Int) (by omega) (by omega) _ (Tryz.tab_of F3)).mono ?_;rintro e W2 ⟨rfl,k,os,rfl⟩)
   rw[Lib.itoa_nonneg];have Cr:=grow_below W1 k os;generalize Go.Sort.grow (W1.drewN k) os=W2 at Cr|-
   go_wp2
   go_ret
   refine⟨?_,Ep.trans (Cr.mono Ep.size)⟩
   congr 2
  ·rw[decide_eq_false hv,GJ];have d2:¬((v:Int)<=1000000000):=by omega
   go_enter Tryz.func237,Tryz.ntmps237
   go_wp2_with (go_at_call 243;refine(Tryz.strconv_Atoi_ok ⟨⟨l⟩⟩ (by simp[ByteArray.size];omega) v hat _).mono ?_;rintro e W1 ⟨rfl,hW⟩)
   have Ep:Below w.heap.size w W1:=by
    rcases hW with rfl|⟨t,rfl⟩
    ·exact Below.refl _ _
    ·exact Lib.bytesWorld_below _ _ _
   clear hW
   go_wp2
   go_ret
   exact⟨rfl,Ep⟩
 ·rw[if_neg hr]at hat;have Ap:JbV l=false:=by
   unfold JbV;rw[decide_eq_false (by omega)];rfl
  rw[Ap];obtain⟨te,pe,gJ⟩:=Tryz.err_of hg (B:=2) (by decide)
  go_enter Tryz.func237,Tryz.ntmps237
  go_wp2_with (go_at_call 243;refine(Tryz.strconv_Atoi_range ⟨⟨l⟩⟩ (by simp[ByteArray.size];omega) hat _ _ gJ (.inr ⟨te,pe,rfl⟩)).mono ?_;rintro e W1 ⟨N,rfl,Uv,jF,Ep⟩)
  go_wp2
  go_ret
  exact⟨rfl,Ep⟩
end Go.Proofs
namespace Go.Cm
theorem isNumberL (l:List UInt8)(hd:l.all Xp=true)(Ai:l≠[])(hl:l.length<=1000000):Fn Ga 237 [S l] (.bool (JbV l)):=by
 intro E H;refine KP λm w vs hs hv=>?_
 simp only[JS,rel]at hv;obtain⟨r,rs,e,rfl,rfl⟩:=hv;have BI:vs=#[.string ⟨⟨l⟩⟩]:=by cases vs;simp_all
 subst BI;exact⟨_,Tryz.isNumber_walk l hd Ai hl w hs.gl.1,rfl⟩
end Go.Cm
end
section
set_option maxRecDepth 100000
set_option maxHeartbeats 20000000
open Go.Proofs
namespace Go.Cm
def K8 (c:UInt8):Bool:=isLt c || Xp c
theorem any_ld:(λc:UInt8=>[qLt,qDg].any λp=>p.q c)=K8:=by funext c;simp[qLt,qDg,K8]
theorem any_d:(λc:UInt8=>[qDg].any λp=>p.q c)=Xp:=by funext c;simp[qDg]
def kws:List (List UInt8):=[[97,110,100],[97,114,114,97,121],[98,111,111,108],[98,121],[100,101,102],[100,111],[101,108,115,101],[101,109,112,116,121],[102,97,108,115,101],[103,105,118,101],[104,101,97,100],[105,102],[105,110],[105,110,116],[108,111,111,112],[110,101,120,116],[110,105,108],[110,111,116],[111,114],[115,105,122,101],[115,116,114,101,97,109],[116,97,105,108],[116,114,117,101],[119,104,105,108,101]]
def sgs:List (List UInt8):=[[58,58],[58,61],[45,62],[46,46],[61,61],[33,61],[60,61],[62,61],[60],[62],[61],[43],[45],[42],[47],[37],[35],[40],[41],[91],[93],[123],[125],[44],[59],[58]]
def sz (l:List (List UInt8)):List (List CV):=l.map λs=>[S s]
theorem JbH {l:List (List UInt8)}:(sz l).length=l.length:=by simp[sz]
theorem sz_get {l:List (List UInt8)}{i:Nat}(h:i<l.length):(sz l).getD i []=[S (l.getD i [])]:=by
 simp[sz,Gc,Gb h]
theorem Jfd:Fn Ga 105 [] (.rslc 1 (sz kws) none):=by
 refine Jf1 (Kc c105_ok λN=>?_) rfl;simp -implicitDefEqProofs only[c105,go_sem];exact⟨_,_,_,_,_,rfl,rfl,by decide,rfl,by decide +kernel⟩
theorem apiSigns:Fn Ga 135 [] (.rslc 1 (sz sgs) none):=by
 refine Jf1 (Kc c135_ok λN=>?_) rfl;simp -implicitDefEqProofs only[c135,go_sem];exact⟨_,_,_,_,_,rfl,rfl,by decide,rfl,by decide +kernel⟩
theorem JfX (l p:List UInt8):Fn Ga 132 [S l,S p] (.bool (l.take p.length == p)):=by
 refine Ja c132_ok rfl rfl λN=>?_
 simp +contextual only[c132,go_sem];refine⟨λh=>by omega,λh=>?_⟩
 congr 1
 symm
 rw[beq_eq_false_iff_ne];intro e;have:=congrArg Gr e;simp at this;omega
theorem hasPrefix (l p:List UInt8):Fn Ga 201 [S l,S p] (.bool (l.take p.length == p)):=by
 refine Ja c201_ok rfl rfl λN=>?_
 simp +contextual only[c201,go_sem];refine JV (JfX _ _) ?_;simp +contextual only[go_sem]
theorem S_beq (l m:List UInt8):((⟨⟨l⟩⟩:ByteArray) == ⟨⟨m⟩⟩)=(l == m):=by
 rw[beq_toListBytes];simp
def kwm (l:List (List UInt8)):List (CV×CV):=l.map λs=>(S s,.bool true)
theorem kw_new {l:List (List UInt8)}{s:List UInt8}(h:s∉l):∀i,QL .str (S s) (kwm l) i=some none:=by
 induction l with
 |nil=>intro i;rfl
 |cons a l ih=>
  intro i;simp only[GA,not_or]at h;have e:YE .str (S s) (S a)=some false:=by
   simp only[YE,S_beq]
   congr 1
   rw[beq_eq_false_iff_ne];exact h.1
  simp only[kwm,Gj,QL,e];exact ih h.2 (i+1)
theorem kw_old {l:List (List UInt8)}{s:List UInt8}(h:s∈l):∀i,∃j,QL .str (S s) (kwm l) i=some (some (j,.bool true)):=by
 induction l with
 |nil=>cases h
 |cons a l ih=>
  intro i;by_cases ha:s=a
  ·subst ha;have e:YE .str (S s) (S s)=some true:=by simp[YE,S_beq]
   exact⟨i,by simp only[kwm,Gj,QL,e]⟩
  ·have hm:s∈l:=
    (GA.1 h).elim (λh=>absurd h ha) id
   have e:YE .str (S s) (S a)=some false:=by
    simp only[YE,S_beq]
    congr 1
    rw[beq_eq_false_iff_ne];exact ha
   obtain⟨j,hj⟩:=ih hm (i+1);exact⟨j,by simp only[kwm,Gj,QL,e];exact hj⟩
theorem kw_take_all:∀i:Fin 24,kws.getD i []∉kws.take i:=by decide +kernel
theorem kw_take {i:Nat}(h:i<kws.length):kws.getD i []∉kws.take i:=kw_take_all ⟨i,h⟩
theorem keywords {E:Env}{H:List CObj}:CallsC Ga E 236 [] H λv H'=>v=.map H.length/\H'=H++[.map (kwm kws)]:=by
 refine Kc c236_ok λN=>?_
 simp +contextual only[c236,go_sem];refine JV Jfd ?_;simp +contextual only[go_sem,JbH];refine JE (I:=λi:Nat=>i<=kws.length) (inv:=λi=>gp [(1,.map H.length),(3,.rslc 1 (sz kws) none),(0,.int .i64 kws.length),(0,.int .i64 i)] 7) (hp:=λi=>H++[.map (kwm (kws.take i))]) (μ:=λi=>kws.length-i) 0 (by omega) ?_ rfl ?_
 ·simp[forget,gp]
 ·intro i hi;simp +contextual only[go_sem,JbH];refine⟨λh=>?_,λh=>?_⟩
  ·have Ab:i<kws.length:=by omega
   rw[sz_get Ab];have hn:=kw_new (kw_take Ab) 0;have hs:kws.take (i+1)=kws.take i++[kws.getD i []]:=by
    rw[Gi Ab,Gc,Gb Ab];rfl
   refine anO ?_;simp +contextual only[go_sem,hn];have Aw:kws.length=24:=rfl;refine⟨Jh,i+1,by omega,by omega,?_,?_⟩
   ·rw[hs];simp[kwm]
   ·simp[forget]
  ·have:i=kws.length:=by omega
   subst this;rw[Gq]
def sgnF (r:List UInt8):List (List UInt8)->List UInt8->List UInt8
 |[],b=>b
 |s::l,b=>sgnF r l (if r.take s.length=s/\b.length<s.length then s else b)
def sgnL (r:List UInt8):List UInt8:=sgnF r sgs []
def cut (l:List UInt8)(a b:Nat):List UInt8:=(l.take b).drop a
def tkL (l:List UInt8)(a:Nat):Nat×List UInt8×Bool:=
 if isLt (l.getD a 0)=true then
  (if kws.contains (cut l a (Q6 K8 l a))=true then(1,cut l a (Q6 K8 l a),true) else(2,cut l a (Q6 K8 l a),decide ((cut l a (Q6 K8 l a)).length<=12)))
 else if Xp (l.getD a 0)=true then(3,cut l a (Q6 Xp l a),JbV (cut l a (Q6 Xp l a)))
 else(4,sgnL (l.drop a),!(sgnL (l.drop a) == []))
def lxz (k:Nat)(x:List UInt8)(a:Int):List CV:=[.int .u8 k,S x,.int .i64 a]
def tkV (a:Nat)(t:Nat×List UInt8×Bool):CV:=.tup [.agg (lxz t.1 t.2.1 a),.bool t.2.2]
theorem Jbb {l:List UInt8}{a b:Nat}(h1:a<=b)(h2:b<=l.length):(cut l a b).length=b-a:=by simp[cut];omega
theorem JbR {q:UInt8->Bool}{l:List UInt8}{a:Nat}(h:a<l.length)(hq:q (l.getD a 0)=true):a<Q6 q l a:=by
 rw[JdI h hq];unfold Q6;omega
theorem run_all {q:UInt8->Bool}{l:List UInt8}{a:Nat}(ha:a<=l.length):(cut l a (Q6 q l a)).all q=true:=by
 have e:cut l a (Q6 q l a)=(l.drop a).takeWhile q:=by
  unfold cut Q6;rw[List.drop_take,Nat.add_sub_cancel_left];exact(GK.1 (GL q)).symm
 rw[e];exact GN
theorem sgnF_len {r:List UInt8}:∀(L:List (List UInt8)) (b:List UInt8),b.length<=2->(∀s∈L,s.length<=2)->(sgnF r L b).length<=2
 |[],b,h,_=>h
 |s::L,b,h,hL=>by
  simp only[sgnF];refine sgnF_len L _ ?_ (λx hx=>hL x (by simp[hx]))
  split
  ·exact hL s (by simp)
  ·exact h
theorem sgs_len:∀s∈sgs,s.length<=2:=by decide +kernel
theorem tokenL (l:List UInt8)(a:Nat)(ha:a<l.length)(hl:l.length<=1000000):Fn Ga 223 [S l,.int .i64 (a:Int)] (tkV a (tkL l a)):=by
 refine Ja c223_ok rfl rfl λN=>?_
 simp +contextual only[c223,go_sem];refine anO ?_;refine JV (JeB _) ?_;by_cases h1:isLt (l.getD a 0)=true
 ·have hE:=YO (q:=K8) (Gh ha);have Cb:a<=Q6 K8 l a:=by unfold Q6;omega
  simp +contextual only[go_sem,h1];refine Jd (id:=1) (z:=1) (els:=[[.fn 233 [] []],[.fn 235 [] []]]) rfl rfl ?_;simp only[go_sem,JY,Ky,frz,Qc];have Rh:∀p∈[qLt,qDg],Jhe p:=by
   intro p hp;rcases GA.1 hp with rfl|hp
   ·exact qLt_ok
   ·rw[GM.1 hp];exact qDg_ok
  have Ag:=lexRun l a [qLt,qDg] none Rh (by simp) hl (Gh ha);rw[any_ld,show fnz [qLt,qDg]=[[.fn 233 [] []],[.fn 235 [] []]] from rfl]at Ag;refine JV Ag ?_;simp +contextual only[go_sem];refine anO ?_;have Cx:(l.take (Q6 K8 l a)).drop a=cut l a (Q6 K8 l a):=rfl;simp only[Cx];have hT:tkL l a=if kws.contains (cut l a (Q6 K8 l a))=true then(1,cut l a (Q6 K8 l a),true) else(2,cut l a (Q6 K8 l a),decide ((cut l a (Q6 K8 l a)).length<=12)):=by
   unfold tkL;rw[if_pos h1]
  rw[hT];generalize cut l a (Q6 K8 l a)=x;obtain⟨r,hr,SV⟩:∃r,QL .str (S x) (kwm kws) 0=some r/\(match r with|some (_,v)=>v|none=>CV.bool false)=.bool (kws.contains x):=by
   by_cases hm:x∈kws
   ·obtain⟨j,hj⟩:=kw_old hm 0;exact⟨_,hj,by simp[hm]⟩
   ·exact⟨_,kw_new hm 0,by simp[hm]⟩
  refine Jbi [(.on [0],.on [0,3]),Foot.no,(.on [1],.on []),Foot.any] Jp (by decide +kernel) ?_;refine⟨_,_,hs_new (mk:=.map) rfl (λH2=>keywords),?_⟩;refine⟨_,_,YS rfl rfl trivial,?_⟩;refine⟨_,_,hs_ld (id:=0) (i:=0) (off:=1) rfl rfl (by simp[Cond.holds]),?_⟩;refine⟨.bool (kws.contains x),[CObj.arr 3 [[.int .u8 0,S x,.int .i64 a]],.dead,.map (kwm kws)],hs_any (c:=.tt) (.inl rfl) ?_ trivial,?_⟩
  ·simp only[go_sem,hr]
   cases r with
   |none=>simp only at SV|-;rw[SV]
   |some p=>simp only at SV|-;rw[SV]
  ·simp only[vdf,put_some]
   cases hk:kws.contains x with
   |true=>simp +contextual only[go_sem,tkV,lxz];rfl
   |false=>
    have e12:decide ((x.length:Int)<=12)=decide (x.length<=12):=decide_eq_decide.2 (by omega);simp +contextual only[go_sem,tkV,lxz,e12];rfl
 ·by_cases h2:Xp (l.getD a 0)=true
  ·have DI:isLt (l.getD a 0)=false:=by simpa using h1
   have hE:=YO (q:=Xp) (Gh ha);have Cb:=JbR (q:=Xp) ha h2;have Ak:=run_all (q:=Xp) (Gh ha);have Ay:=Jbb (Gh Cb) hE;have hT:tkL l a=(3,cut l a (Q6 Xp l a),JbV (cut l a (Q6 Xp l a))):=by
    unfold tkL;rw[if_neg h1,if_pos h2]
   rw[hT];simp +contextual only[go_sem,DI];refine anO ?_;refine JV (Jc4 _) ?_;simp +contextual only[go_sem,h2];have Rh:∀p∈[qDg],Jhe p:=by
    intro p hp;rw[GM.1 hp];exact qDg_ok
   have Ag:=lexRun l a [qDg] none Rh (by simp) hl (Gh ha);rw[any_d,show fnz [qDg]=[[.fn 235 [] []]] from rfl]at Ag;refine Jad [false,false,false,false,false,false,false,false,true,false,true] Jp (by decide +kernel) ?_;simp +contextual only[go_sem];refine vh_row [[.fn 235 [] []]] rfl rfl rfl rfl ?_;simp +contextual only[go_sem];refine vh_f Ag ?_;simp +contextual only[go_sem];refine vh_all (S (cut l a (Q6 Xp l a))) (λH2=>by simp only[go_sem];rfl) (by simp only[Cond.holds];exact⟨by omega,by omega,by show ((Q6 Xp l a:Nat):Int)<=((l.length:Nat):Int);omega⟩) ?_;simp +contextual only[go_sem];generalize hx:cut l a (Q6 Xp l a)=x at Ak Ay|-;have OB:=isNumberL x Ak (by intro e;rw[e]at Ay;simp at Ay;omega) (by omega);refine Jbi [(.on [1],.on []),Foot.no,(.on [1],.on []),Foot.no,Foot.any,Foot.no] Jp (by decide +kernel) ?_;refine⟨_,_,hs_ld (id:=0) (i:=0) (off:=0) rfl rfl ⟨Gl 1,Gl 3⟩,_,_,hs_all (λ_=>rfl) trivial,_,_,hs_ld (id:=0) (i:=0) (off:=1) rfl rfl ⟨Gl 1,(by decide:2<=3)⟩,_,_,hs_f (.inl rfl) OB,_,_,hs_any (.inl rfl) rfl ⟨Gl 1,Gl 3⟩,_,_,hs_all (λ_=>rfl) trivial,?_⟩;simp +contextual only[vdf,go_sem,tkV,lxz,splice];rfl
  ·have DI:isLt (l.getD a 0)=false:=by simpa using h1
   have FC:Xp (l.getD a 0)=false:=by simpa using h2
   have hT:tkL l a=(4,sgnL (l.drop a),!(sgnL (l.drop a) == [])):=by
    unfold tkL;rw[if_neg h1,if_neg h2]
   rw[hT];simp +contextual only[go_sem,DI];refine anO ?_;refine JV (Jc4 _) ?_;simp +contextual only[go_sem,FC];refine JV apiSigns ?_;simp +contextual only[go_sem,JbH];have DU:sgs.length=26:=rfl;refine JE (σ:=Nat×List UInt8) (I:=λs=>s.1<=sgs.length/\sgnL (l.drop a)=sgnF (l.drop a) (sgs.drop s.1) s.2) (inv:=λs=>gp [(0,S l),(0,.int .i64 (a:Int)),(2,.ptr 0 0 0),(49,.rslc 1 (sz sgs) none),(0,.int .i64 sgs.length),(0,.int .i64 s.1)] 23) (hp:=λs=>[.arr 3 [lxz 4 s.2 a]]) (μ:=λs=>sgs.length-s.1) (0,[]) ⟨by omega,rfl⟩ ?_ rfl ?_
   ·simp[forget,gp]
   ·rintro⟨i,b⟩ ⟨hi,Aa⟩;simp only at hi Aa;simp +contextual only[go_sem,JbH,lxz];refine⟨λh=>?_,λh=>?_⟩
    ·have Ab:i<sgs.length:=by omega
     rw[sz_get Ab];rw[Gn Ab,sgnF]at Aa;rw[show sgs.getD i []=sgs[i] by rw[Gc,Gb Ab];rfl];generalize sgs[i]=s at Aa|-;refine anO ?_;simp +contextual only[go_sem];refine anO ?_;have Iw:(l.take l.length).drop a=l.drop a:=by rw[Gq]
     simp only[Iw];refine JV (hasPrefix (l.drop a) s) ?_;simp +contextual only[go_sem];by_cases hp:(l.drop a).take s.length=s
     ·have e1:((l.drop a).take s.length == s)=true:=beq_iff_eq.2 hp;by_cases hb:b.length<s.length
      ·have d1:=dtT b.length s.length;rw[if_pos ⟨hp,hb⟩]at Aa;simp +contextual only[go_sem,e1,d1];refine⟨Jh,(i+1,s),⟨by simp only;omega,Aa⟩,by simp only;omega,rfl,?_⟩;simp[forget]
      ·have d1:=dfF b.length s.length;rw[if_neg (λh=>hb h.2)]at Aa;simp +contextual only[go_sem,e1,d1];refine⟨Jh,(i+1,b),⟨by simp only;omega,Aa⟩,by simp only;omega,rfl,?_⟩;simp[forget]
     ·have e1:((l.drop a).take s.length == s)=false:=beq_eq_false_iff_ne.2 hp;rw[if_neg (λh=>hp h.1)]at Aa;simp +contextual only[go_sem,e1];refine⟨Jh,(i+1,b),⟨by simp only;omega,Aa⟩,by simp only;omega,rfl,?_⟩;simp[forget]
    ·have:i=sgs.length:=by omega
     subst this;rw[List.drop_length]at Aa;rw[Aa];simp +contextual only[go_sem,tkV,lxz,sgnF]
def knd (l:List UInt8):Option Nat:=
 if l=[] then none else if isGp (l.getD 0 0)=true then none
 else if (tkL l 0).2.2=true/\(tkL l 0).2.1=l then some (tkL l 0).1 else none
def kndV:Option Nat->CV
 |some k=>.tup [.int .u8 k,.int .i64 0]
 |none=>.tup [.int .u8 0,.int .i64 4]
theorem lexKind (l:List UInt8)(hl:l.length<=1000000):Fn Ga 208 [S l] (kndV (knd l)):=by
 refine Ja c208_ok rfl (by unfold kndV;split <;> rfl) λN=>?_
 by_cases h0:l=[]
 ·have e0:(l == [])=true:=beq_iff_eq.2 h0;have hk:knd l=none:=by unfold knd;rw[if_pos h0]
  rw[hk];simp +contextual only[c208,go_sem,e0,kndV]
 ·have e0:(l == [])=false:=beq_eq_false_iff_ne.2 h0;have D5:0<l.length:=List.length_pos_iff.2 h0;simp +contextual only[c208,go_sem,e0];refine anO ?_;refine Kh (gok rfl) (lexIsGap _) ?_
  cases h1:isGp (l.getD 0 0) with
  |true=>
   have hk:knd l=none:=by unfold knd;rw[if_neg h0,if_pos h1]
   rw[hk];simp +contextual only[go_sem,kndV]
  |false=>
   simp +contextual only[go_sem];refine JV (tokenL l 0 D5 hl) ?_;unfold tkV;have hk:knd l=if (tkL l 0).2.2=true/\(tkL l 0).2.1=l then some (tkL l 0).1 else none:=by
    unfold knd;rw[if_neg h0,if_neg (by rw[h1];simp)]
   rw[hk];obtain⟨k,x,b⟩:=tkL l 0;simp +contextual only[go_sem,lxz,splice]
   cases b with
   |false=>
    simp +contextual only[go_sem];simp[kndV]
   |true=>
    by_cases hx:x=l
    ·have ex:(x == l)=true:=beq_iff_eq.2 hx;simp +contextual only[go_sem,ex];simp[kndV,hx]
    ·have ex:(x == l)=false:=beq_eq_false_iff_ne.2 hx;simp +contextual only[go_sem,ex];simp[kndV,hx]
def JdB (l:List UInt8):Bool:=isLt (l.getD 0 0) && l.all K8 && !kws.contains l && decide (l.length<=12) && !(l == [])
theorem Jce {q:UInt8->Bool}{l:List UInt8}:cut l 0 (Q6 q l 0)=l↔l.all q=true:=by
 have e:cut l 0 (Q6 q l 0)=l.takeWhile q:=by
  unfold cut Q6;simp only[List.drop_zero,GG];exact(GK.1 (GL q)).symm
 rw[e]
 constructor
 ·intro h;rw[<-h];exact GN
 ·intro h;have:∀l:List UInt8,l.all q=true->l.takeWhile q=l:=by
   intro l
   induction l with
   |nil=>intro _;rfl
   |cons a l ih=>
    intro h;simp only[List.all_cons,Gm]at h;rw[Gw,if_pos h.1,ih h.2]
  exact this l h
theorem lt_gp {c:UInt8}(h:isLt c=true):isGp c=false:=by
 simp only[isLt,Gm,decide_eq_true_eq]at h;simp only[isGp,isBk,GI,beq_eq_false_iff_ne];refine⟨⟨?_,?_⟩,?_⟩ <;> (rintro rfl;revert h;decide)
theorem knd_name (l:List UInt8):(knd l == some 2)=JdB l:=by
 rw[Gf,beq_iff_eq];unfold knd JdB;by_cases h0:l=[]
 ·simp[h0]
 rw[if_neg h0];by_cases h1:isLt (l.getD 0 0)=true
 ·have hg:=lt_gp h1;rw[if_neg (by rw[hg];simp)];have hT:tkL l 0=if kws.contains (cut l 0 (Q6 K8 l 0))=true then(1,cut l 0 (Q6 K8 l 0),true) else(2,cut l 0 (Q6 K8 l 0),decide ((cut l 0 (Q6 K8 l 0)).length<=12)):=by
   unfold tkL;rw[if_pos h1]
  by_cases hf:cut l 0 (Q6 K8 l 0)=l
  ·rw[hf]at hT;have ha:=Jce.1 hf;rw[hT,h1]
   cases hk:kws.contains l <;> simp[h0,ha]
  ·have ha:l.all K8=false:=by
    cases h:l.all K8 with
    |false=>rfl
    |true=>exact absurd (Jce.2 h) hf
   rw[hT]
   cases hk:kws.contains (cut l 0 (Q6 K8 l 0)) <;> simp[hf,ha]
 ·have DI:isLt (l.getD 0 0)=false:=by simpa using h1
  rw[DI];simp only[GJ,Bool.false_eq_true,iff_false]
  split
  ·simp
  ·split
   ·unfold tkL;rw[if_neg h1]
    split <;> simp
   ·simp
theorem isNameW (l:List UInt8)(hl:l.length<=1000000):Fn Ga 182 [S l] (.bool (JdB l)):=by
 refine Ja c182_ok rfl rfl λN=>?_
 simp +contextual only[c182,go_sem];refine JV (lexKind l hl) ?_;rw[<-knd_name]
 cases h:knd l with
 |none=>simp +contextual only[go_sem,kndV];rfl
 |some k=>
  simp +contextual only[go_sem,kndV]
  congr 1
  rw[Gf];simp;omega
theorem within (a b n:Int):Fn Ga 163 [.int .i64 a,.int .i64 b,.int .i64 n] (.bool (inI a b n)):=by
 refine Ja c163_ok rfl rfl λN=>?_
 simp +contextual only[c163,go_sem,inI]
def cntdV (k:Nat):CV:=if k=40 then .tup [S [83],.bool true] else if k=41 then .tup [S [98],.bool true] else if k=28 then .tup [S [73],.bool true] else if k=65 then .tup [S [80],.bool true] else .tup [S [],.bool false]
theorem counted (k:Nat):Fn Ga 183 [.int .u8 k] (cntdV k):=by
 unfold cntdV
 split
 ·subst_vars
  refine Ja c183_ok rfl rfl λN=>?_
  simp +contextual only[c183,go_sem,Gd]
 ·rename_i Ec;have e40:=kb (m:=40) Ec;simp only[Gd]at e40
  split
  ·subst_vars
   refine Ja c183_ok rfl rfl λN=>?_
   simp +contextual only[c183,go_sem,Gd]
  ·rename_i Bg;have e41:=kb (m:=41) Bg;simp only[Gd]at e41
   split
   ·subst_vars
    refine Ja c183_ok rfl rfl λN=>?_
    simp +contextual only[c183,go_sem,Gd]
   ·rename_i DZ;have e28:=kb (m:=28) DZ;simp only[Gd]at e28
    split
    ·subst_vars
     refine Ja c183_ok rfl rfl λN=>?_
     simp +contextual only[c183,go_sem,Gd]
    ·rename_i BG;have e65:=kb (m:=65) BG;simp only[Gd]at e65;refine Ja c183_ok rfl rfl λN=>?_
     simp +contextual only[c183,go_sem,e40,e41,e28,e65]
theorem many1 (c:UInt8)(hv:List UInt8)(hl:hv.length<=1000):Fn Ga 179 [S [c],.rptr [S hv]] (S (Gz (Qo c hv) c)):=by
 refine Ja c179_ok rfl rfl λN=>?_
 simp +contextual only[c179,go_sem];refine JV (countL hv c) ?_;simp +contextual only[go_sem];refine JV (repeatL c (Qo c hv) (by have:=cntB_le c hv;omega)) ?_;simp +contextual only[go_sem]
theorem many2 (c:UInt8)(a b:Int)(hv:List UInt8):Fn Ga 184 [S [c],.int .i64 a,.int .i64 b,.rptr [S hv]] (.bool (inI a b (Qo c hv))):=by
 refine Ja c184_ok rfl rfl λN=>?_
 simp +contextual only[c184,go_sem];refine JV (countL hv c) ?_;simp +contextual only[go_sem];refine JV (within _ _ _) ?_;simp +contextual only[go_sem]
theorem expectedL (x:Nd)(hv:List UInt8)(hl:hv.length<=1000):Fn Ga 162 [.agg x.cv,S hv] (S (K7 x.k hv)):=by
 obtain⟨k,text,n,kids,pl⟩:=x;have En:=λc=>cntB_le c hv
 simp only[Nd.cv];by_cases hA:4<=k/\k<=24
 ·have f1:((4:Int)<=(k:Int))=True:=Kl;by_cases hB:k<=18
  ·have f2:((k:Int)<=18)=True:=Kl;rw[show K7 k hv=[101,101] by simp only[K7];rw[if_pos (by omega)]];refine fcS c162_ok λN=>?_
   simp (maxSteps:=2000000) -implicitDefEqProofs only[c162,go_sem,f1,f2]
  ·have f2:((k:Int)<=18)=False:=Ki;have f3:((19:Int)<=(k:Int))=True:=Kl;have f4:((k:Int)<=24)=True:=Kl;rw[show K7 k hv=[101] by simp only[K7];rw[if_neg (by omega),iP7]];refine fcS c162_ok λN=>?_
   simp (maxSteps:=2000000) -implicitDefEqProofs only[c162,go_sem,f1,f2,f3,f4]
 by_cases hC:k=42
 ·subst hC;have e1:(([]:List UInt8) == [])=true:=rfl;have e2:∀(a:UInt8) l,(a::l == [])=false:=λ_ _=>rfl
  cases hv <;> (refine fcS c162_ok λN=>?_;simp (maxSteps:=2000000) -implicitDefEqProofs only[c162,go_sem,Gd,e1,e2];simp[K7])
 by_cases hD:k=43\/k=44\/k=25\/k=62\/k=63\/k=64\/k=26\/k=45\/k=27\/k=28\/k=29\/k=40\/k=41\/k=46\/k=47\/k=65
 rotate_left
 ·simp only[not_or]at hD;rw[show K7 k hv=[] by simp only[K7];repeat rw[if_neg (by first|omega|exact λh=>hC h.1)]];have f2:((k:Int)<=18)=(k<4):=propext (by omega);have f3:((4:Int)<=(k:Int))=¬k<4:=propext (by omega);have f4:((19:Int)<=(k:Int))=¬k<4:=propext (by omega);have f5:((k:Int)<=24)=(k<4):=propext (by omega);by_cases h4:k<4 <;> (refine fcS c162_ok λN=>?_;simp (maxSteps:=2000000) -implicitDefEqProofs only[c162,go_sem,f2,f3,f4,f5,h4,kbo,hD,hC,not_true_eq_false,not_false_eq_true])
 rcases hD with rfl|rfl|rfl|rfl|rfl|rfl|rfl|rfl|rfl|rfl|rfl|rfl|rfl|rfl|rfl|rfl <;> (
  refine fcS c162_ok λN=>?_
  repeat first
   |refine Jd (id:=1) (z:=1) (els:=[[S hv]]) rfl rfl ?_;simp only[go_sem,Ky,frz,JY,Qc]
   |refine vr_fvS (l1:=[]) (l2:=[.rptr [S hv]]) (args:=[S [_]]) c179_ok nm (many1 _ hv hl) rfl rfl JeJ ?_
   |refine⟨by have h1:=En 73;have h2:=En 83;have h3:=En 78;have h4:=En 99;have h5:=En 101;have h6:=En 98;have h7:=En 80;have h8:=En 116;simp;omega,?_⟩
   |simp (maxSteps:=2000000) -implicitDefEqProofs only[c162,go_sem,Gd,List.length_replicate]
  all_goals first|rfl|simp[K7])
theorem sizedL (x:Nd)(hv:List UInt8):Fn Ga 165 [.agg x.cv,S hv] (.bool (QN x.k x.n hv)):=by
 obtain⟨k,text,n,kids,pl⟩:=x;simp only[Nd.cv];by_cases hD:k=65\/k=26\/k=40\/k=45\/k=41\/k=28\/k=29\/k=48\/k=47
 rotate_left
 ·simp only[not_or]at hD;rw[show QN k n hv=true by simp only[QN];repeat rw[if_neg (by omega)]];refine fcS c165_ok λN=>?_
  simp (maxSteps:=2000000) -implicitDefEqProofs only[c165,go_sem,kbo,hD,not_false_eq_true]
 rcases hD with rfl|rfl|rfl|rfl|rfl|rfl|rfl|rfl|rfl <;> (
  refine fcS c165_ok λN=>?_
  simp only[QN]
  repeat first
   |refine Jd (id:=1) (z:=1) (els:=[[S hv]]) rfl rfl ?_;simp only[go_sem,Ky,frz,JY,Qc]
   |refine vr_fvSB (l1:=[]) (l2:=[.rptr [S hv]]) (args:=[S [_],.int .i64 _,.int .i64 _]) c184_ok nm (many2 _ _ _ hv) rfl rfl (by first|exact JeJ|exact gokS rfl) (λB hb=>?_);try simp only[hb];clear hb;cases B
   |refine YN (within 0 100 n) rfl (by first|exact JeJ|exact gokS rfl) ?_
   |refine YN (within 1 9 n) rfl JeJ ?_
   |simp (maxSteps:=2000000) -implicitDefEqProofs only[c165,go_sem,Gd]
  all_goals simp)
def fldI (nmd:Bool)(k:Nat)(text:List UInt8)(n:Int)(hv:List UInt8):Bool:=QZ nmd k text && QS k n hv
theorem fieldsL (x:Nd)(hv:List UInt8)(nmd:Bool)(hn:Fn Ga 182 [S x.text] (.bool nmd)):Fn Ga 164 [.agg x.cv,S hv] (.bool (fldI nmd x.k x.text x.n hv)):=by
 obtain⟨k,text,n,kids,pl⟩:=x;simp only at hn;simp only[Nd.cv];by_cases hC:(k=3\/k=26\/k=42\/k=43\/k=44\/k=47\/k=64\/k=65\/k=48\/k=40\/k=41\/k=28\/k=1\/k=2\/k=29)
 rotate_left
 ·rw[show fldI nmd k text n hv=(text == [] && n == 0) by simp only[fldI,QZ,QS];repeat rw[if_neg (by omega)]];have hE:=counted k;rw[show cntdV k=.tup [S [],.bool false] by simp only[cntdV];repeat rw[if_neg (by omega)]]at hE;simp only[not_or]at hC;refine fcS c164_ok λN=>?_
  cases t1:text == [] <;> repeat first
   |simp (maxSteps:=2000000) -implicitDefEqProofs only[c164,go_sem,t1,kbo,hC,not_false_eq_true]
   |refine YN hE rfl JeJ ?_
 rcases hC with rfl|rfl|rfl|rfl|rfl|rfl|rfl|rfl|rfl|rfl|rfl|rfl|rfl|rfl|rfl <;> (
  refine fcS c164_ok λN=>?_
  simp only[fldI,QZ,QS]
  repeat first
   |refine YN hn rfl JeJ ?_;cases nmd
   |refine YN (within 0 1000000000 n) rfl JeJ ?_
   |refine YN (within 0 1 n) rfl JeJ ?_
   |refine JW Jp (by decide) ?_
   |refine Kb (.inl rfl) (countL hv _) ?_
   |simp (maxSteps:=2000000) -implicitDefEqProofs only[c164,go_sem,Gd,cntdV,Nat.reduceEqDiff,if_true,if_false]
   |rcases GH (text == []) with hb|hb <;> rw[hb]
   |rcases GH (text == [35]) with hb|hb <;> rw[hb]
   |refine YN (counted 3) rfl JeJ ?_
   |refine YN (counted 26) rfl JeJ ?_
   |refine YN (counted 42) rfl JeJ ?_
   |refine YN (counted 43) rfl JeJ ?_
   |refine YN (counted 44) rfl JeJ ?_
   |refine YN (counted 47) rfl JeJ ?_
   |refine YN (counted 64) rfl JeJ ?_
   |refine YN (counted 65) rfl JeJ ?_
   |refine YN (counted 48) rfl JeJ ?_
   |refine YN (counted 40) rfl JeJ ?_
   |refine YN (counted 41) rfl JeJ ?_
   |refine YN (counted 28) rfl JeJ ?_
   |refine YN (counted 1) rfl JeJ ?_
   |refine YN (counted 2) rfl JeJ ?_
   |refine YN (counted 29) rfl JeJ ?_
  all_goals first|simp|simp_all)
end Go.Cm
end
section
open Go.Shelf Go.RowKit Go.Proofs
namespace Go.Cm
theorem letter_lt (k:Nat):letter k<256:=by
 unfold letter
 repeat' split
 all_goals omega
theorem fnSort (k:Nat)(hk:k<256):Fn Ga 161 [.int .u8 k] (.int .u8 (letter k)):=by
 refine Ja c161_ok rfl rfl λN=>?_
 rcases (show (1<=k/\k<=29)\/(60<=k/\k<=63)\/(30<=k/\k<=39)\/(49<=k/\k<=59)\/66<=k\/k=0\/k=46\/k=47\/k=40\/k=41\/k=42\/k=43\/k=44\/k=45\/k=48\/k=64\/k=65 by omega) with h|h|h|h|h|rfl|rfl|rfl|rfl|rfl|rfl|rfl|rfl|rfl|rfl|rfl|rfl
 ·have e:letter k=101:=by unfold letter;rw[if_pos h]
  simp only[c161,go_sem,e,show decide ((1:Int)<=(k:Int))=true from decide_eq_true (by omega),show decide ((k:Int)<=29)=true from decide_eq_true (by omega)]
  first|done|rfl
 ·have e:letter k=116:=by unfold letter;rw[iN7,if_pos h]
  simp only[c161,go_sem,e,show decide ((1:Int)<=(k:Int))=true from decide_eq_true (by omega),show decide ((k:Int)<=29)=false from decide_eq_false (by omega),show decide ((60:Int)<=(k:Int))=true from decide_eq_true (by omega),show decide ((k:Int)<=63)=true from decide_eq_true (by omega)]
  first|done|rfl
 ·have e:letter k=32:=by unfold letter;repeat rw[iN7]
  simp only[c161,go_sem,e,show decide ((1:Int)<=(k:Int))=true from decide_eq_true (by omega),show decide ((k:Int)<=29)=false from decide_eq_false (by omega),show decide ((60:Int)<=(k:Int))=false from decide_eq_false (by omega),show decide ((40:Int)<=(k:Int))=false from decide_eq_false (by omega),kbo (show ¬k=46 by omega),kbo (show ¬k=47 by omega),kbo (show ¬k=64 by omega),kbo (show ¬k=65 by omega)]
  first|done|rfl
 ·have e:letter k=32:=by unfold letter;repeat rw[iN7]
  simp only[c161,go_sem,e,show decide ((1:Int)<=(k:Int))=true from decide_eq_true (by omega),show decide ((k:Int)<=29)=false from decide_eq_false (by omega),show decide ((60:Int)<=(k:Int))=false from decide_eq_false (by omega),show decide ((40:Int)<=(k:Int))=true from decide_eq_true (by omega),show decide ((k:Int)<=48)=false from decide_eq_false (by omega),kbo (show ¬k=46 by omega),kbo (show ¬k=47 by omega),kbo (show ¬k=64 by omega),kbo (show ¬k=65 by omega)]
  first|done|rfl
 ·have e:letter k=32:=by unfold letter;repeat rw[iN7]
  simp only[c161,go_sem,e,show decide ((1:Int)<=(k:Int))=true from decide_eq_true (by omega),show decide ((k:Int)<=29)=false from decide_eq_false (by omega),show decide ((60:Int)<=(k:Int))=true from decide_eq_true (by omega),show decide ((k:Int)<=63)=false from decide_eq_false (by omega),show decide ((40:Int)<=(k:Int))=true from decide_eq_true (by omega),show decide ((k:Int)<=48)=false from decide_eq_false (by omega),kbo (show ¬k=46 by omega),kbo (show ¬k=47 by omega),kbo (show ¬k=64 by omega),kbo (show ¬k=65 by omega)]
  first|done|rfl
 all_goals simp (config:={implicitDefEqProofs:=false}) [c161,go_sem,letter] <;> exact⟨by decide,by decide⟩
theorem calls_of_fn {P:Program}{f:Nat}{args:List CV}{v:CV}(h:Fn P f args v)(hv:v.closed=true){w:World}{imm:Nat->Nat->Option Value}(MF:∀B i x,imm B i=some x->w.cell? ⟨B,i,none⟩=some x)(Bo:∀B i x,imm B i=some x->x.oneCell'=true){vs:Array Value}(BI:JS [] imm args vs.toList)(A7:GLw w) :
  Calls P f vs w λe w'=>(∃r imm',Kw imm imm'/\rel [] imm' v r/\e=.returned r)/\Below w.heap.size w w':=by
 have hs:Sim Env.none { own:=[],imm:=imm,ext:=λ_=>False } [] w:=⟨rfl,by simp,MF,Bo,by simp,by simp,by simp,by simp,λB h=>A7.lt (h.resolve_left id),A7,by simp⟩;refine((h Env.none [] _ w vs hs BI).calls λk=>Jej none k).mono ?_;rintro e w' ⟨r,m',v',H',rfl,Ae,Az,Ao,rfl,rfl⟩;have BJ:∀B,¬owned { own:=[],imm:=imm,ext:=λ_=>False } [] B:=by
  rintro B (h|⟨k,o,x,hk,_⟩)
  ·exact h
  ·simp at hk
 exact⟨⟨r,m'.imm,Ae.imm,Qi _ _ hv Ao,rfl⟩,Ae.same.1,Ae.same.2.2,Ae.same.2.1,Ae.size,λk hk=>Ae.frame k hk (BJ k)⟩
end Go.Cm
namespace Go.Proofs
def Tryz.bRen:Go.Shelf.Ren:=⟨λn=>if n=167 then 177 else Tryz.lays105_ren.f n,Tryz.lays105_ren.t,Tryz.lays105_ren.g⟩
theorem Tryz.bLays167:Lays.n167 Ga Tryz.bRen:={ Tryz.lays105 with f167:=Tryz.func177.trans (congrArg some (by kernel_rfl)) }
theorem Tryz.bLays169:Lays.n169 Ga Tryz.bRen:={ Tryz.lays105 with }
theorem Tryz.bExtra:Builder.Extra Ga Tryz.bRen:={
 sizeBuilder:=by kernel_rfl
 liesBuilder:=by kernel_rfl
 t5:=Tryz.underlying5
 a5:=Tryz.isAgg5
 z5:=Tryz.sizeOf5
 v5:=Tryz.zeroValue5
 infoByte:=by kernel_rfl
 cellsByte:=by kernel_rfl
 sizeByte:=by kernel_rfl
 neB5:=by decide }
theorem Tryz.WriteByte (B b:Nat)(bs:List Value)(c:Int)(w:World)(h:Lib.IsBuilder 187 5 B b bs w)(Ad:bs.length+1<=140737488355328)(aS:B<=w.heap.size) :
  Calls Ga 177 #[.pointer (some ⟨b,0,none⟩),.int .u8 c] w λe w'=>e=.returned .nilIface/\(Lib.BuilderAt 187 5 B b (.pointer (some ⟨b,0,none⟩)) (bs++[.int .u8 c]) w'/\Below B w w'):=
 Any.Builder_WriteByte Tryz.bLays167 Tryz.bExtra B b bs c w h Ad aS
theorem Tryz.BString (B b:Nat)(l:List UInt8)(w:World)(h:Lib.IsBuilder 187 5 B b (Lib.byteCells l) w)(aS:B<=w.heap.size) :
  Calls Ga 178 #[.pointer (some ⟨b,0,none⟩)] w λe w'=>e=.returned (.string ⟨l.toArray⟩)/\Below B w w':=
 Any.Builder_String_any Tryz.bLays169 Tryz.bExtra B b l w h aS
theorem Tryz.bat_below {T e:TypeId}{B b:Nat}{p:Value}{bs:List Value}{W W':World}(h:Lib.BuilderAt T e B b p bs W)(hb:Below W.heap.size W W'):Lib.BuilderAt T e B b p bs W':=by
 obtain⟨hB,v,hv,CG,Ai⟩:=h;have Ab:b<W.heap.size:=(Array.getElem?_eq_some_iff.1 hv).1;exact⟨hB,v,(hb.block b Ab).trans hv,CG.kept (row:=none) ⟨hb.os,hb.tape,hb.output,hb.size,λk hk _=>hb.block k hk⟩ (Classical.em _),Ai⟩
theorem Tryz.isb_below {T e:TypeId}{B b:Nat}{bs:List Value}{W W':World}(h:Lib.IsBuilder T e B b bs W)(hb:Below W.heap.size W W'):Lib.IsBuilder T e B b bs W':=
 h.elim (λx=>.inl (Tryz.bat_below x hb)) (λx=>.inr (Tryz.bat_below x hb))
theorem Tryz.cell_lt {w:World}{a:Addr}{v:Value}(h:w.cell? a=some v):a.block<w.heap.size:=by
 rcases Nat.lt_or_ge a.block w.heap.size with h'|h'
 ·exact h'
 ·rw[World.cell?,Array.getElem?_eq_none h']at h;simp at h
def Tryz.letters (ds:List Nat):List UInt8:=ds.map λd=>UInt8.ofNat (Go.Cm.letter d)
theorem Tryz.letters_take (ds:List Nat)(j d:Nat)(h:ds[j]? = some d):Tryz.letters (ds.take (j+1))=Tryz.letters (ds.take j)++[UInt8.ofNat (Go.Cm.letter d)]:=by
 rw[List.take_add_one,h];simp[Tryz.letters]
open Go.Cm in
set_option maxHeartbeats 4000000 in
set_option maxRecDepth 100000 in
theorem Tryz.sorts_walk (np kp:Option Addr)(nl nc kl kc:Nat)(items n0 n1 n2 n4:Value)(ds:List Nat)(w:World)(gG:GLw w)(Bq:ds.length=kl)(MC:∀k∈ds,k<256)
  (De:kl<140737488355328)
  (BH:∀j d,ds[j]? = some d->∃bn no bk ko k,np=some ⟨bn,no,none⟩/\kp=some ⟨bk,ko,none⟩/\k<nl/\w.cell? ⟨bk,ko+j,none⟩=some (.int .i64 (k:Nat))/\w.cell? ⟨bn,no+k*5,none⟩=some (.int .u8 (d:Nat))) :
  Calls Ga 160 #[.agg #[.slice np nl nc,items],.agg #[n0,n1,n2,.slice kp kl kc,n4]] w λe w'=>e=.returned (.string ⟨(Tryz.letters ds).toArray⟩)/\Below w.heap.size w w':=by
 have HK:Hid (∀j d,ds[j]? = some d->∃bn no bk ko k,np=some ⟨bn,no,none⟩/\kp=some ⟨bk,ko,none⟩/\k<nl/\w.cell? ⟨bk,ko+j,none⟩=some (.int .i64 (k:Nat))/\w.cell? ⟨bn,no+k*5,none⟩=some (.int .u8 (d:Nat))):=BH;have HD:Hid (∀k∈ds,k<256):=MC;clear BH MC
 go_enter Tryz.func160,Tryz.ntmps160
 go_wp2
 go_loopw [11] (λv wr=>∃j:Nat,j<=kl/\v=.int .i64 j/\Lib.IsBuilder 187 5 (w.heap.size+2) (w.heap.size+2) (Lib.byteCells (Tryz.letters (ds.take j))) wr/\wr.cell? ⟨w.heap.size,0,none⟩=some (.slice np nl nc)/\Below w.heap.size w wr/\w.heap.size+2<=wr.heap.size) (λi _=>kl-(intOf i).toNat)
 case atStart=>
  refine⟨0,Nat.zero_le _,rfl,?_,?_,?_,?_⟩
  ·simpa [Tryz.letters,Lib.byteCells]using Lib.fresh_isBuilder 187 5 ((w.alloc (.cells #[.slice np nl nc,items] 25)).alloc (.cells #[n0,n1,n2,.slice kp kl kc,n4] 35))
  ·simp[go_sem]
  ·exact(((Below.refl _ w).alloc (Gl _) _).alloc (by simp) _).alloc (by simp;omega) _
  ·simp
 case round=>
  obtain⟨j,hj,rfl,hI,hT,Pv,BA⟩:=hrel;have HI:Hid (Lib.IsBuilder 187 5 (w.heap.size+2) (w.heap.size+2) (Lib.byteCells (Tryz.letters (ds.take j))) wr):=hI;clear hI;by_cases Ab:j<kl
  ·obtain⟨d,hd⟩:∃d,ds[j]? = some d:=⟨ds[j],Gb (by omega)⟩;have R6:=HD.out d (Gp hd);obtain⟨bn,no,bk,ko,k,rfl,rfl,hk,h1,h2⟩:=HK.out j d hd;have DI:wr.cell? ⟨bk,ko+j,none⟩=some (.int .i64 (k:Nat)):=(Pv.cell (Tryz.cell_lt h1)).trans h1;have FC:wr.cell? ⟨bn,no+k*5,none⟩=some (.int .u8 (d:Nat)):=(Pv.cell (Tryz.cell_lt h2)).trans h2;clear h1 h2;have HD2:Hid (ds[j]? = some d):=hd;clear hd
   go_wp2_with (go_at_call 161;refine(calls_of_fn (imm:=λ_ _=>none) (fnSort d R6) rfl (by simp) (by simp) (by simp[JS,rel]) (Tryz.GLw_below gG Pv)).mono ?_)
   rintro e W1 ⟨⟨r,imm',_,hr,rfl⟩,b1⟩;simp[rel]at hr;subst hr;have HI1:=HI.out;have b2:=Pv.trans (b1.mono Pv.size);have HB:Hid (Lib.IsBuilder 187 5 (w.heap.size+2) (w.heap.size+2) (Lib.byteCells (Tryz.letters (ds.take j))) W1):=Tryz.isb_below HI1 b1;have iA:W1.cell? ⟨w.heap.size,0,none⟩=some (.slice (some ⟨bn,no,none⟩) nl nc):=(b1.cell (by simp;omega)).trans hT;have Ad:(Lib.byteCells (Tryz.letters (ds.take j))).length+1<=140737488355328:=by rw[Lib.byteCells_length];simp[Tryz.letters];omega
   have FH:=G5 BA b1.size;clear HI1
   go_wp2_with (go_at_call 177;refine(Tryz.WriteByte _ _ _ _ _ HB.out Ad FH).mono ?_)
   rintro e W2 ⟨rfl,dK,b3⟩;have iw:W2.cell? ⟨w.heap.size,0,none⟩=some (.slice (some ⟨bn,no,none⟩) nl nc):=(b3.cell (by simp)).trans iA;have HB2:Hid (Lib.IsBuilder 187 5 (w.heap.size+2) (w.heap.size+2) (Lib.byteCells (Tryz.letters (ds.take j))++[Value.int IntKind.u8 (letter d:Nat)]) W2):=Or.inr dK;have b4:=b2.trans (b3.mono (by omega));have EG:=G5 FH b3.size;clear dK b1 b2 b3
   go_wp2
   go_roundw
   case rel=>
    refine⟨j+1,by omega,by go_num,?_,iw,b4,EG⟩;rw[Tryz.letters_take ds j d HD2.out,Lib.byteCells_append];have:=HB2.out;have hl:letter d % 256=letter d:=Nat.mod_eq_of_lt (letter_lt d);simpa [Lib.byteCells,hl]using this
   case measure=>
    simp[intOf];omega
  ·have Bc:j=kl:=by omega
   subst Bc;rw[Gs (by omega)]at HI
   go_wp2_with (go_at_call 178;refine(Tryz.BString _ _ _ _ HI.out BA).mono ?_)
   rintro e W1 ⟨rfl,b1⟩
   go_wp2
   go_ret
   exact⟨rfl,Pv.trans (b1.mono (by omega))⟩
end Go.Proofs
namespace Go.Cm
theorem sortsL (t:Tr)(x:Nd)(hx:x.Fit)(hn:∀y∈t.nodes,y.k<256)(hk:∀k∈x.kids,0<=k/\k<t.nodes.length):Fn Ga 160 [.agg [.rslc 5 (ndz t.nodes) none,.rslc 1 (iz t.items) none],.agg x.cv] (S (lets t.nodes x)):=by
 intro E H;refine KP λm w vs hs hv=>?_
 simp only[JS,rel,Nd.cv]at hv;obtain⟨_,_,e0,⟨t1,rfl,r1,_,e1,OC,r2,_,rfl,M5,rfl⟩,_,_,rfl,⟨t2,rfl,s0,_,e2,EI,s1,_,rfl,EA,s2,_,rfl,Iw,s3,_,rfl,BL,s4,_,rfl,Pj,rfl⟩,rfl⟩:=hv;have eD:t1=#[r1,r2]:=by cases t1;simp_all
 have SQ:t2=#[s0,s1,s2,s3,s4]:=by cases t2;simp_all
 have BI:vs=#[.agg t1,.agg t2]:=by cases vs;simp_all
 subst eD SQ BI;have Rp:∃np nl nc,r1=.slice np nl nc/\∀(k:Nat),k<t.nodes.length->k<nl/\∃B o,np=some ⟨B,o,none⟩/\w.cell? ⟨B,o+k*5,none⟩=some (.int .u8 (Jt t.nodes k:Nat)):=by
  rcases OC with ⟨_,h0,b,rfl⟩|⟨B,o,c,rfl,_,_,EY⟩
  ·refine⟨b,0,0,rfl,λk hk=>?_⟩;have:=congrArg Gr h0;rw[Jb]at this;simp at this;rw[this]at hk;simp at hk
  ·refine⟨_,_,_,rfl,λk hk=>⟨by rw[Jb];exact hk,B,o,rfl,?_⟩⟩;have hg:(ndz t.nodes)[k]? = some (t.nodes.getD k default).cv:=by
    simp[ndz,Gc,Gb hk]
   have h1:=((Qh _ o).1 EY k _ hg).2;obtain⟨r,hr,Bf⟩:=h1 0 _ rfl;simp only[rel]at Bf;subst Bf;exact hs.imm _ _ _ hr
 obtain⟨np,nl,nc,rfl,hN⟩:=Rp;have AJ:∃kp kc,s3=.slice kp x.kids.length kc/\∀(j:Nat) k,x.kids[j]? = some k->∃B o,kp=some ⟨B,o,none⟩/\w.cell? ⟨B,o+j,none⟩=some (.int .i64 k):=by
  rcases BL with ⟨_,he,b,rfl⟩|⟨B,o,c,rfl,_,_,RZ⟩
  ·have BH:x.kids=[]:=by
    have:=congrArg Gr he;rw[Jg]at this;simpa using this
   exact⟨b,0,by rw[BH];rfl,λj k hj=>by simp[BH]at hj⟩
  ·refine⟨_,c,by rw[Jg],λj k hj=>⟨B,o,rfl,?_⟩⟩;have Ea:(iz x.kids)[j]? = some [CV.int .i64 k]:=by simp[iz,hj]
   have h1:=((Qh _ o).1 RZ j _ Ea).2;obtain⟨r,hr,Bf⟩:=h1 0 _ rfl;simp only[rel]at Bf;subst Bf;have:=hs.imm _ _ _ hr;simpa using this
 obtain⟨kp,kc,rfl,hK⟩:=AJ;have BK:=hx.kidn;refine⟨_,Tryz.sorts_walk np kp nl nc x.kids.length kc r2 s0 s1 s2 s4 (x.kids.map (Jt t.nodes)) w hs.gl.1 (by simp) (λd hd=>?_) (by omega) (λj d hj=>?_),?_⟩
 ·obtain⟨k,Du,rfl⟩:=List.mem_map.1 hd;have:=hk k Du;refine hn _ ?_;have Ab:k.toNat<t.nodes.length:=by omega
  rw[Gc,Gb Ab];exact Gt Ab
 ·rw[List.getElem?_map]at hj
  cases EO:x.kids[j]? with
  |none=>rw[EO]at hj;cases hj
  |some k=>
   rw[EO]at hj;simp only[Option.map_some,Option.some.injEq]at hj;subst hj;have hr:=hk k (Gp EO);obtain⟨h3,B,o,h4,h5⟩:=hN k.toNat (by omega);obtain⟨B',o',h6,h7⟩:=hK j k EO;refine⟨B,o,B',o',k.toNat,h4,h6,h3,?_,?_⟩
   ·rw[h7,show ((k.toNat:Nat):Int)=k by omega]
   ·rw[h5];simp only[Jt,Int.toNat_natCast]
 ·simp only[rel,lets,Tryz.letters,Jdz,List.map_map];rfl
end Go.Cm
end
section
open Go.Proofs
namespace Go.Cm
def bks (xs:List Int):List (List CV):=(List.range xs.length).map λ(s:Nat)=>[.int .i64 ((xs.length:Int)-1-s),.int .i64 (xs.reverse.getD s 0)]
theorem bks_get {xs:List Int}{s:Nat}(h:s<xs.length):(bks xs)[s]? = some [.int .i64 ((xs.length:Int)-1-s),.int .i64 (xs.reverse.getD s 0)]:=by
 simp[bks,h]
theorem Je8 {xs:List Int}:(bks xs).length=xs.length:=by simp[bks]
theorem backward1 (xs:List Int)(Ad:xs.length<=100000):Iter Ga 73 [] [.rptr [.rslc 1 (iz xs) none]] (bks xs):=by
 intro E l hy;refine Kc c73_ok λN=>?_
 simp +contextual only[c73,go_sem,Jg];refine⟨Jh,?_⟩;refine JE (I:=λs:Nat=>s<=xs.length) (inv:=λs=>gp [(0,.yld l),(0,.rptr [.rslc 1 (iz xs) none]),(1,.int .i64 ((xs.length:Int)-1-s))] 15) (hp:=λs=>[.ext s true]) (μ:=λs=>xs.length-s) 0 (by omega) ?_ rfl ?_
 ·simp[forget,gp]
 ·intro s hs;simp +contextual only[go_sem,Jg];refine⟨λh1=>?_,λh1=>?_⟩
  ·have Ab:s<xs.length:=by omega
   have hi:((xs.length:Int)-1-s).toNat=xs.length-1-s:=by omega
   have hg:(iz xs).getD (xs.length-1-s) []=[.int .i64 (xs.reverse.getD s 0)]:=by
    have h2:xs.length-1-s<xs.length:=by omega
    simp[iz,Gc,Gb h2,List.getElem?_reverse Ab]
   rw[hi,hg];refine anO ?_;simp +contextual only[go_sem];refine vr_yield (i:=0) (s:=s) (.inl rfl) rfl hy rfl (λk s b hk=>?_) ?_ rfl λc=>?_
   ·rcases k with _|k
    ·rfl
    ·simp at hk
   ·simp only[go_sem,bks_get Ab]
   ·cases c
    ·simp +contextual only[go_sem];exact .inr ⟨_,rfl⟩
    ·simp +contextual only[go_sem];refine⟨Jh,s+1,by omega,by omega,?_⟩;simp[forget];omega
  ·have:s=xs.length:=by omega
   refine .inl ?_;simp[Je8,this]
theorem backward (xs:List Int):Fn Ga 57 [.rslc 1 (iz xs) none] (.fn 73 [] [.rptr [.rslc 1 (iz xs) none]]):=by
 have main:CallsC Ga Env.none 57 [.rslc 1 (iz xs) none] [] λv H'=>v=.fn 73 [] [.ptr 0 0 0]/\H'=[.arr 1 [[.rslc 1 (iz xs) none]]]:=by
  refine Kc c57_ok λN=>?_
  simp +contextual only[c57,go_sem]
 exact Jhf (main.freeze λv H' ⟨h1,h2⟩=>⟨0,1,[[.rslc 1 (iz xs) none]],by rw[h2];rfl,rfl,by rw[h1];simp[frz,JY]⟩) rfl rfl
def JF (l:List Nd):List (List Int):=l.map Nd.kids
theorem Kg {l:List Nd}{i:Nat}(h:i<l.length):(JF l)[i]? = some (l.getD i default).kids:=by
 simp[JF,Gc,Gb h]
theorem Jds {K:List (List Int)}{i:Nat}{o:List Int}{ks:List Int}(h:Jw (K.take i) []=some o)(hk:K[i]? = some ks):Jw (K.take (i+1)) []=(Jec o ks).map (λf=>o++[f])/\o.length=i:=by
 have Ab:=(Gg.1 hk).1;have hl:=QC _ _ _ h;rw[Gi Ab,(Gg.1 hk).2,Jax,h];refine⟨?_,by simpa [GZ (Gh Ab)]using hl⟩;simp only[GD,Jw]
 cases Jec o ks <;> rfl
theorem Jdt {K:List (List Int)}{i:Nat}(h:Jw (K.take i) []=none):Jw K []=none:=by
 rw[<-Gv i K,Jax,h];rfl
theorem stepF_none {o ks:List Int}{s:Nat}(h:Xq o (ks.reverse.take s) ((o.length:Int)-1)=none):Jec o ks=none:=by
 unfold Jec;rw[<-Gv s ks.reverse,JcH,h];rfl
def Jb0 (t:Tr)(v:CV)(H':List CObj):Prop:=match Jw (JF t.nodes) []with
 |some o=>∃id,v=.tup [Qg id (iz o),.bool true]/\H'[id]? = some (Q7 1 (iz o))
 |none=>v=.tup [.nils,.bool false]
theorem firstsW (t:Tr)(ht:t.Fit):CallsC Ga Env.none 157 [t.cv] [] (Jb0 t):=by
 have Aj:=ht.many;refine Kc c157_ok λN=>?_
 simp +contextual only[c157,go_sem,Tr.cv,Tr.row];refine Yn ?_;simp only[go_sem,Jb];refine Jv (σ:=Nat×List Int) (I:=λs=>s.1<=t.nodes.length/\Jw ((JF t.nodes).take s.1) []=some s.2)
  (inv:=λs=>gp [(2,.ptr 0 0 0),(0,.ptr 1 0 0),(6,.rslc 5 (ndz t.nodes) none),(0,.int .i64 t.nodes.length),(0,.int .i64 s.1)] 30)
  (hp:=λs=>[.arr 1 [[Qg 2 (iz s.2)]],.arr 1 [[.bool false]],Q7 1 (iz s.2)]) (μ:=λs=>t.nodes.length-s.1) (0,[]) [1,2,3] ⟨by omega,rfl⟩ rfl ?_ rfl ?_
 ·simp[forget,JB,ren,Jn,gp]
 ·rintro⟨i,o⟩ ⟨hi,ho⟩
  dsimp only at hi ho
  simp +contextual only[go_sem,Jb];refine⟨λh=>?_,λh=>?_⟩
  ·have Ab:i<t.nodes.length:=by omega
   have hx:=ht.nodes _ (Gt Ab);have hg:t.nodes.getD i default=t.nodes[i]:=by rw[Gc,Gb Ab];rfl
   obtain⟨Au,Bb⟩:=Jds ho (Kg Ab);have Ap:=QH _ _ _ Q3.nil ho;rw[QT Ab];generalize t.nodes.getD i default=x at Au hg|-;rw[<-hg]at hx;refine⟨by omega,by simp[Nd.cv],?_⟩;simp +contextual only[go_sem,Nd.cv];refine⟨Jh,?_⟩;refine JV (backward x.kids) ?_;simp +contextual only[go_sem];have BK:=hx.kidn;refine vr_rfuncJ (xs:=bks x.kids) (Γ:=Int) (λs a=>Xq o (x.kids.reverse.take s) ((i:Int)-1)=some a) (λs a=>[.arr 1 [[Qg 2 (iz o)]],.arr 1 [[.bool false]],Q7 1 (iz o),.arr 5 [x.cv],.arr 1 [[.int .i64 a]]]) ((i:Int)-1) rfl rfl rfl rfl rfl c73_ok nm (backward1 _ (by omega)) (by simp[bks]) rfl ?_ ?_
   ·intro s a c ha hc;have Dr:s<x.kids.length:=by
     have:=(Gg.1 hc).1;rwa [Je8]at this
    rw[bks_get Dr]at hc
    cases hc
    have D6:s<x.kids.reverse.length:=by rw[List.length_reverse];exact Dr
    have Al:x.kids.reverse.take (s+1)=x.kids.reverse.take s++[x.kids.reverse.getD s 0]:=by
     rw[Gi D6,Gc,Gb D6];rfl
    generalize x.kids.reverse.getD s 0=k at Al|-;have hr:=JcG Ap _ _ a (by omega) (by omega) ha;have Dp:Xq o (x.kids.reverse.take (s+1)) ((i:Int)-1)=if a<0\/k≠a then none else some (o.getD k.toNat 0-1):=by
     rw[Al,JcH,ha];simp only[GD,Xq]
    by_cases hc:a<0\/k≠a
    ·rw[if_pos hc]at Dp;have BX:Jw (JF t.nodes) []=none:=by
      refine Jdt (i:=i+1) ?_;rw[Au,stepF_none (s:=s+1) (by rw[Bb];exact Dp)];rfl
     by_cases h0:a<0
     ·have d0:(a<0)=True:=eq_true h0;simp +contextual only[go_sem,d0];simp only[Jb0,BX]
     ·have d0:(a<0)=False:=eq_false h0;have d1:(k == a)=false:=beq_eq_false_iff_ne.2 (by omega);have d2:(k != a)=true:=by rw[bne,d1];rfl
      simp +contextual only[go_sem,d0,d2];simp only[Jb0,BX]
    ·rw[if_neg hc]at Dp;have DD:k=a:=by omega
     subst DD;have Ai:iz o≠[]:=by
      intro e;have:=congrArg Gr e;rw[Jg]at this;simp at this;rw[this]at Bb;simp at Bb;omega
     have d0:(k<0)=False:=Ki;have d2:(k != k)=false:=by simp
     rw[YP Ai,Yp Ai];have CK:k.toNat<o.length:=by omega
     have hv:=Ap k.toNat o[k.toNat] (Gb CK);have e:o.getD k.toNat 0=o[k.toNat]:=by simp[Gc,Gb CK]
     simp +contextual only[go_sem,d0,d2,Jg];rw[JH CK];refine⟨by omega,⟨by omega,by simp⟩,?_⟩;simp +contextual only[go_sem];refine⟨inr64 (by rw[e];omega) (by rw[e];omega),_,Dp,?_⟩;rfl
   ·intro a ha;rw[Je8]at ha;rw[Gs (by simp)]at ha;have hr:=JcG Ap _ _ a (by omega) (by omega) ha;have eU:Jec o x.kids=some (a+1):=by unfold Jec;rw[Bb,ha];rfl
    rw[eU]at Au;simp +contextual only[go_sem,Jy,Jg];refine⟨Jh,⟨by omega,by omega⟩,Jh,(i+1,o++[a+1]),[0,1,6],⟨by simp only;omega,Au⟩,by simp only;omega,rfl,?_,?_⟩
    ·rw[Qe,Kz,KA];simp only[Kq,Gj,Gu,go_sem,Jo];simp[JB,ren,Jn,Jg,Jc (Jf o)]
    ·simp[forget,JB,ren,Jn]
  ·have:i=t.nodes.length:=by omega
   subst this;rw[Gs (by simp[JF])]at ho
   cases o with
   |nil=>
    simp only[iz,Gu,XV,Jah,go_sem];simp only[Jb0,ho];exact⟨2,rfl,rfl⟩
   |cons y o=>
    simp only[iz,Gj,Yo,JaS,go_sem];simp only[Jb0,ho];exact⟨2,rfl,rfl⟩
theorem firstsS (t:Tr)(ht:t.Fit){o:List Int}(h:Jw (JF t.nodes) []=some o):Fn Ga 157 [t.cv] (.tup [.rslc 1 (iz o) none,.bool true]):=by
 refine fn_of_rowT ?_ rfl (Jf o) rfl;have:=firstsW t ht;refine this.mono λv H' hv=>?_
 simpa only[Jb0,h]using hv
theorem firstsN (t:Tr)(ht:t.Fit)(h:Jw (JF t.nodes) []=none):Fn Ga 157 [t.cv] (.tup [.nils,.bool false]):=by
 refine Jhf ?_ rfl rfl;have:=firstsW t ht;refine this.mono λv H' hv=>?_
 simpa only[Jb0,h]using hv
theorem rowg {t:Tr}{i:Nat}(h:i<t.nodes.length):t.nodes.getD i default=t.nodes[i]:=by rw[Gc,Gb h];rfl
theorem areItems (t:Tr)(ht:t.Fit)(o:List Int)(ho:Q3 o)(hl:o.length=t.nodes.length):Fn Ga 158 [t.cv,.rslc 1 (iz o) none] (.bool (YL o (λi=>Jt t.nodes i == 65) t.nodes.length t.items 0)):=by
 have Aj:=ht.many;have M5:=ht.items;refine Ja c158_ok rfl rfl λN=>?_
 simp +contextual only[c158,go_sem,Tr.cv,Tr.row,Jg];generalize hD:(λi=>Jt t.nodes i == 65)=isD;refine JE (σ:=Nat×Int) (I:=λs=>s.1<=t.items.length/\0<=s.2/\s.2<=t.nodes.length/\YL o isD t.nodes.length t.items 0=YL o isD t.nodes.length (t.items.drop s.1) s.2)
  (inv:=λs=>gp [(1,.rslc 1 (iz o) none),(0,.ptr 0 0 0),(2,.int .i64 s.2),(3,.rslc 1 (iz t.items) none),(0,.int .i64 t.items.length),(0,.int .i64 s.1)] 36)
  (hp:=λ_=>[.arr 2 [t.row]]) (μ:=λs=>t.items.length-s.1) (0,0) ⟨by omega,by simp,by simp,by simp⟩ ?_ rfl ?_
 ·simp[forget,gp]
 ·rintro⟨j,a⟩ ⟨hj,h0,h1,Aa⟩;simp only at hj h0 h1 Aa;simp +contextual only[go_sem,Tr.row,Jg,Jb];refine⟨λh=>?_,λh=>?_⟩
  ·have Ab:j<t.items.length:=by omega
   rw[Gn Ab,YL]at Aa;rw[JH Ab,show t.items.getD j 0=t.items[j] by rw[Gc,Gb Ab];rfl];generalize t.items[j]=i at Aa|-;refine anO ?_;simp +contextual only[go_sem,Jb];refine⟨Jh,?_⟩;refine JV (within _ _ _) ?_;simp +contextual only[go_sem]
   cases b1:inI a ((t.nodes.length:Int)-1) i with
   |false=>
    rw[b1]at Aa;simp +contextual only[go_sem];rw[Aa];rfl
   |true=>
    rw[b1]at Aa;have hi:a<=i/\i<=(t.nodes.length:Int)-1:=by
     simp only[inI,Gm,decide_eq_true_eq]at b1;exact b1
    have Af:i.toNat<t.nodes.length:=by omega
    simp +contextual only[go_sem,Jb];rw[QT Af];refine anO ?_;simp +contextual only[go_sem,Nd.cv];have hk:isD i=((t.nodes.getD i.toNat default).k == 65):=by rw[<-hD];rfl
    have Av:(((t.nodes.getD i.toNat default).k:Int) == 65)=isD i:=by
     rw[hk,Gf];simp;omega
    have EB:(((t.nodes.getD i.toNat default).k:Int) != 65) = !isD i:=by rw[bne,Av]
    rw[EB]
    cases b2:isD i with
    |false=>
     rw[b2]at Aa;simp +contextual only[go_sem];rw[Aa];rfl
    |true=>
     rw[b2]at Aa;simp +contextual only[go_sem,Jg];rw[JH (by omega)];refine anO ?_;simp +contextual only[go_sem];have Ai:(o.getD i.toNat 0 != a) = !(o.getD i.toNat 0 == a):=rfl;rw[Ai]
     cases b3:(o.getD i.toNat 0 == a) with
     |false=>
      rw[b3]at Aa;simp +contextual only[go_sem];rw[Aa];rfl
     |true=>
      rw[b3]at Aa;simp +contextual only[go_sem];refine⟨Jh,Jh,(j+1,i+1),⟨by simp only;omega,by simp only;omega,by simp only;omega,?_⟩,by simp only;omega,?_⟩
      ·simpa using Aa
      ·simp[forget]
  ·have:j=t.items.length:=by omega
   subst this;rw[Aa];simp[YL]
theorem isGreat (t:Tr):Fn Ga 138 [t.cv] (.bool (decide (700<t.nodes.length\/20<t.items.length))):=by
 refine Ja c138_ok rfl rfl λN=>?_
 simp +contextual only[c138,go_sem,Tr.cv,Tr.row,Jg,Jb];refine⟨λh=>?_,λh=>?_⟩
 ·congr 1
  exact decide_eq_decide.2 (by omega)
 ·congr 1
  symm
  rw[decide_eq_true_eq];omega
def mx (a b:Int):Int:=if b > a then b else a
def ownD (deep:List Int)(ks:List Int):Int:=ks.foldl (λa k=>mx a (deep.getD k.toNat 0+1)) 1
def QF:List (List Int)->List Int->List Int
 |[],d=>d
 |ks::K,d=>QF K (d++[ownD d ks])
theorem Je0:∀(x y:List (List Int)) (d:List Int),QF (x++y) d=QF y (QF x d)
 |[],_,_=>rfl
 |k::x,y,d=>by simp only[List.cons_append,QF];exact Je0 x y _
theorem JcB:∀(K:List (List Int)) (d:List Int),(QF K d).length=d.length+K.length
 |[],d=>by simp[QF]
 |k::K,d=>by simp only[QF];rw[JcB K];simp;omega
def DOk (d:List Int):Prop:=∀v∈d,1<=v/\v<=d.length
theorem mx_le {a b c:Int}(h1:a<=c)(h2:b<=c):mx a b<=c:=by unfold mx;split <;> omega
theorem mx_ge {a b c:Int}(h1:c<=a):c<=mx a b:=by unfold mx;split <;> omega
theorem Jg9 {d:List Int}{m:Int}(h:∀v∈d,1<=v/\v<=m)(hm:0<=m)(k:Nat):0<=d.getD k 0/\d.getD k 0<=m:=by
 rw[Gc]
 cases hk:d[k]? with
 |none=>simp;omega
 |some v=>
  have:=h v (Gp hk);simp;omega
theorem JgT {d:List Int}{m:Int}(h:∀v∈d,1<=v/\v<=m)(hm:0<=m):∀(ks:List Int) (a:Int),1<=a->a<=m+1->1<=ks.foldl (λa k=>mx a (d.getD k.toNat 0+1)) a/\ks.foldl (λa k=>mx a (d.getD k.toNat 0+1)) a<=m+1
 |[],a,h1,h2=>⟨h1,h2⟩
 |k::ks,a,h1,h2=>by
  have:=Jg9 h hm k.toNat;exact JgT h hm ks _ (mx_ge h1) (mx_le h2 (by omega))
theorem Jhv:∀(K:List (List Int)) (d:List Int),DOk d->DOk (QF K d)
 |[],d,h=>h
 |k::K,d,h=>by
  refine Jhv K _ λv hv=>?_
  rcases List.mem_append.1 hv with hv|hv
  ·have:=h v hv;simp;omega
  ·simp at hv;have:=JgT (m:=d.length) (λv hv=>h v hv) (by omega) k 1 (by omega) (by omega);rw[hv];simp only[List.length_append,Gx,Gy];unfold ownD;omega
theorem maxL (x:Int)(l:List Int)(hl:l.length<=100000):Fn Ga 167 [.rslc 1 (iz (x::l)) none] (.int .i64 (l.foldl mx x)):=by
 refine Ja c167_ok rfl rfl λN=>?_
 have d0:(((l.length+1:Nat):Int)<1)=False:=Ki;simp +contextual only[c167,go_sem,Jg,d0];rw[JH (by simp)];refine anO ?_;simp +contextual only[go_sem];refine JE (I:=λi:Nat=>i<=l.length) (inv:=λi=>gp [(0,.rslc 1 (iz (x::l)) none),(2,.int .i64 ((l.take i).foldl mx x)),(0,.int .i64 (i+1:Nat))] 20) (hp:=λ_=>[]) (μ:=λi=>l.length-i) 0 (by omega) ?_ rfl ?_
 ·simp[forget,gp]
 ·intro i hi;simp +contextual only[go_sem,Jg,Gx];refine⟨λh=>?_,λh=>?_⟩
  ·have Ab:i<l.length:=by omega
   rw[JH (by simp;omega)];refine anO ?_;simp +contextual only[go_sem];refine⟨Jh,i+1,by omega,by omega,?_⟩;have hs:(l.take (i+1)).foldl mx x=mx ((l.take i).foldl mx x) (l.getD i 0):=by
    rw[Gi Ab,GQ,Gc,Gb Ab];rfl
   rw[hs];simp[forget,mx]
  ·have:i=l.length:=by omega
   subst this;rw[Gq]
def Ja9 (t:Tr):Bool:=(QF (JF t.nodes) []).any λv=>decide (30<v)
theorem mx_any (c:Int):∀(l:List Int) (x:Int),c<l.foldl mx x↔(c<x\/(l.any λv=>decide (c<v))=true)
 |[],x=>by simp
 |y::l,x=>by
  rw[List.foldl_cons,mx_any c l (mx x y),GX,Bool.or_eq_true,decide_eq_true_eq,<-or_assoc];refine or_congr ?_ Iff.rfl;unfold mx
  split <;> omega
theorem Jf8 {K:List (List Int)}{i:Nat}{ks:List Int}(h:K[i]? = some ks):QF (K.take (i+1)) []=QF (K.take i) []++[ownD (QF (K.take i) []) ks]:=by
 have Ab:=(Gg.1 h).1;rw[Gi Ab,(Gg.1 h).2,Je0];rfl
theorem isDeep (t:Tr)(ht:t.Fit){o:List Int}(ho:Jw (JF t.nodes) []=some o):Fn Ga 140 [t.cv] (.bool (Ja9 t)):=by
 have Aj:=ht.many;refine Ja c140_ok rfl rfl λN=>?_
 simp +contextual only[c140,go_sem,Tr.cv,Tr.row];refine Yn ?_;simp only[go_sem,Jb];refine Jv (I:=λi:Nat=>i<=t.nodes.length) (inv:=λi=>gp [(3,Qg 0 (iz (QF ((JF t.nodes).take i) []))),(6,.rslc 5 (ndz t.nodes) none),(0,.int .i64 t.nodes.length),(0,.int .i64 i)] 31)
  (hp:=λi=>[Q7 1 (iz (QF ((JF t.nodes).take i) []))]) (μ:=λi=>t.nodes.length-i) 0 [1] (by omega) rfl ?_ rfl ?_
 ·simp[forget,JB,ren,Jn,gp,QF,iz,Qg]
 ·intro i hi;have Bq:(QF ((JF t.nodes).take i) []).length=i:=by
   rw[JcB,GR];simp[JF];omega
  have EZ:=Jhv ((JF t.nodes).take i) [] (by intro v hv;simp at hv);by_cases Ab:i<t.nodes.length
  ·have Au:=Jf8 (Kg Ab);have IX:=XG ho (Kg Ab);have hx:=ht.nodes _ (Gt Ab);rw[<-rowg Ab]at hx;have CB:=Bq;clear Bq;generalize QF ((JF t.nodes).take i) []=d at Au CB EZ|-;have d1:=dtT i t.nodes.length;simp +contextual only[go_sem,Jb,d1];rw[QT Ab];generalize t.nodes.getD i default=x at Au IX hx|-;refine⟨by omega,by simp[Nd.cv],?_⟩;simp +contextual only[go_sem,Nd.cv,Jg];have BK:=hx.kidn;have F5:∀v∈d,1<=v/\v<=i:=λv hv=>by have:=EZ v hv;omega
   refine JE (I:=λj:Nat=>j<=x.kids.length) (inv:=λj=>gp [(3,Qg 0 (iz d)),(2,.int .i64 (ownD d (x.kids.take j))),(3,.rslc 5 (ndz t.nodes) none),(0,.int .i64 t.nodes.length),(0,.int .i64 i),(4,.rslc 1 (iz x.kids) none),(0,.int .i64 x.kids.length),(0,.int .i64 j)] 24)
    (hp:=λ_=>[Q7 1 (iz d),.arr 5 [x.cv]]) (μ:=λj=>x.kids.length-j) 0 (by omega) ?_ rfl ?_
   ·simp[forget,gp,ownD]
   ·intro j hj;by_cases Bc:j<x.kids.length
    ·have d2:=dtT j x.kids.length;have AC:x.kids.getD j 0∈x.kids:=by
      rw[Gc,Gb Bc];exact Gt Bc
     have hb:=IX _ AC;have Ai:iz d≠[]:=by
      intro e;have:=congrArg Gr e;rw[Jg]at this;simp at this;rw[this]at CB;simp at CB;omega
     have Al:ownD d (x.kids.take (j+1))=mx (ownD d (x.kids.take j)) (d.getD (x.kids.getD j 0).toNat 0+1):=by
      have CE:x.kids.getD j 0=x.kids[j]:=by rw[Gc,Gb Bc];rfl
      unfold ownD;rw[Gi Bc,GQ,CE];rfl
     rw[YP Ai,Yp Ai];simp +contextual only[go_sem,Jg,d2];rw[JH Bc];generalize x.kids.getD j 0=k at hb Al|-;refine anO ?_;simp +contextual only[go_sem,Jg];rw[JH (by omega)];have Ei:=Jg9 (m:=i) (λv hv=>by have:=F5 v hv;omega) (by omega) k.toNat;refine⟨by omega,⟨by omega,by simp⟩,?_⟩;simp +contextual only[go_sem];refine⟨Jh,Jh,j+1,by omega,by omega,?_⟩;rw[Al];simp[forget,mx]
    ·have Co:j=x.kids.length:=by omega
     subst Co;have d2:=dfF x.kids.length x.kids.length;rw[Gq];have Rl:=JgT (m:=i) F5 (by omega) x.kids 1 (by omega) (by omega);simp +contextual only[go_sem,d2,Jy,Jg];refine⟨⟨by omega,by omega⟩,Jh,i+1,[3],by omega,by omega,rfl,?_,?_⟩
     ·rw[Au,Qe,KA];simp only[Kq,Gj,Gu,go_sem,Jo];rw[<-Qe,Jc (Jf _)]
     ·rw[Au,Qe,Kz];simp[forget,JB,ren,Jn,Jg]
  ·have Di:i=t.nodes.length:=by omega
   subst Di;have d1:=dfF t.nodes.length t.nodes.length;have hB:Ja9 t=(QF ((JF t.nodes).take t.nodes.length) []).any λv=>decide (30<v):=by
    rw[Ja9,Gs (by simp[JF])]
   rw[hB];generalize QF ((JF t.nodes).take t.nodes.length) []=d at Bq EZ|-;have ak:d.length<=100000:=by omega
   cases d with
   |nil=>
    simp +contextual only[go_sem,d1,iz,Gu,XV,Jah];rfl
   |cons y d=>
    have d3:((0:Int)<((iz (y::d)).length:Nat))=True:=eq_true (by rw[Jg];simp only[Gx];omega);rw[YP (by simp[iz]),Yp (by simp[iz])];simp +contextual only[go_sem,d1,d3];refine Jd (id:=0) (z:=1) (els:=iz (y::d)) rfl (Jf _) ?_;simp only[go_sem,JY,Ky,frz,Qc,Gq];refine Kh (gok rfl) (maxL y d (by simp at ak;omega)) ?_;simp +contextual only[go_sem]
    congr 1
    rw[Gf,decide_eq_true_eq,mx_any];simp
theorem indexN {f:Nat}{l1 l2:List CV}{F:IFunc}(l:List Nd)(q:Nd->Bool)(cap:Option Nat)(hF:Je Ga f=some F)(Dc:Jm l1=true)(Dj:Jm l2=true)
  (hq:∀p∈l,Fn Ga f (l1++[.agg p.cv]++l2) (.bool (q p))) (Ad:l.length<=100000):Fn Ga 185 [.rslc 5 (ndz l) cap,.fn f l1 l2] (.int .i64 (Xk q l 0)):=by
 refine Ja c185_ok (by simp[Jm,CV.closed,Dc,Dj]) rfl λN=>?_
 simp +contextual only[c185,go_sem,Jb];refine JE (I:=λi:Nat=>i<=l.length/\Xk q l 0=Xk q (l.drop i) i) (inv:=λi=>gp [(0,.rslc 5 (ndz l) cap),(0,.fn f l1 l2),(5,.int .i64 l.length),(0,.int .i64 i)] 10) (hp:=λ_=>[]) (μ:=λi=>l.length-i) 0 ?_ ?_ rfl ?_
 ·simp
 ·simp[forget,gp]
 ·rintro i ⟨hi,Aa⟩;simp +contextual only[go_sem,Jb];refine⟨λh=>?_,λh=>?_⟩
  ·have Ab:i<l.length:=by omega
   obtain⟨p,hp⟩:∃p,l[i]? = some p:=⟨_,Gb Ab⟩;rw[QX hp]at Aa;rw[QT Ab,show l.getD i default=p by rw[Gc,hp];rfl];refine⟨by omega,by simp[Nd.cv],?_⟩;refine vr_fv (.inl rfl) rfl hF nm (hq p (Gp hp)) ?_;simp only[go_sem];refine⟨λh2=>?_,λh2=>?_⟩
   ·rw[Aa,if_pos h2]
   ·rw[h2]at Aa;refine⟨Jh,i+1,⟨by omega,by simpa using Aa⟩,by omega,?_⟩;simp[forget]
  ·have:i=l.length:=by omega
   subst this;rw[Aa];simp[Xk]
theorem containsN {f:Nat}{l1 l2:List CV}{F:IFunc}(l:List Nd)(q:Nd->Bool)(cap:Option Nat)(hF:Je Ga f=some F)(Dc:Jm l1=true)(Dj:Jm l2=true)
  (hq:∀p∈l,Fn Ga f (l1++[.agg p.cv]++l2) (.bool (q p))) (Ad:l.length<=100000):Fn Ga 166 [.rslc 5 (ndz l) cap,.fn f l1 l2] (.bool (l.any q)):=by
 refine Ja c166_ok (by simp[Jm,CV.closed,Dc,Dj]) rfl λN=>?_
 simp +contextual only[c166,go_sem];refine JV (indexN l q cap hF Dc Dj hq Ad) ?_;simp +contextual only[go_sem,Jav]
def ndI (l:List Nd)(x:Nd):Bool:=J6 (JdB x.text) x.k x.text x.n x.pl (lets l x)
theorem isFormN (t:Tr)(x:Nd)(hx:x.Fit)(hn:∀y∈t.nodes,y.k<256)(hk:∀k∈x.kids,0<=k/\k<t.nodes.length):Fn Ga 159 [.agg x.cv,.rptr t.row] (.bool (!ndI t.nodes x)):=by
 have hl:(lets t.nodes x).length<=1000:=by rw[Kv];have:=hx.kidn;omega
 refine Ja c159_ok rfl rfl λN=>?_
 simp +contextual only[c159,go_sem,Tr.row,Nd.cv];refine JV (sortsL t x hx hn hk) ?_;simp +contextual only[go_sem];refine JV (fnSort x.k hx.k) ?_;simp +contextual only[go_sem];have EA:((letter x.k:Int) == 32)=(letter x.k == 32):=by
  rw[Gf];simp;omega
 rw[EA]
 cases b1:(letter x.k == 32) with
 |true=>
  simp +contextual only[go_sem];simp[ndI,J6,b1]
 |false=>
  simp +contextual only[go_sem];refine Kh (gok rfl) (expectedL x _ hl) ?_;simp +contextual only[go_sem]
  cases b2:(lets t.nodes x == K7 x.k (lets t.nodes x)) with
  |false=>
   simp +contextual only[go_sem];simp[ndI,J6,b2]
  |true=>
   simp +contextual only[go_sem];refine Kh (gok rfl) (within 0 2500 x.pl) ?_;simp +contextual only[go_sem]
   cases b3:inI 0 2500 x.pl with
   |false=>
    simp +contextual only[go_sem];simp[ndI,J6,b3]
   |true=>
    simp +contextual only[go_sem];refine Kh (gok rfl) (fieldsL x _ (JdB x.text) (isNameW x.text (by have:=hx.text;omega))) ?_;simp +contextual only[go_sem]
    cases b4:fldI (JdB x.text) x.k x.text x.n (lets t.nodes x) with
    |false=>
     simp +contextual only[go_sem];unfold fldI at b4;simp[ndI,J6,b4]
    |true=>
     simp +contextual only[go_sem];refine Kh (gok rfl) (sizedL x _) ?_;simp +contextual only[go_sem];unfold fldI at b4;simp[ndI,J6,b1,b2,b3,b4]
theorem isFormS (t:Tr)(ht:t.Fit){o:List Int}(h:Jw (JF t.nodes) []=some o):Fn Ga 139 [t.cv] (.bool (YL o (λi=>Jt t.nodes i == 65) t.nodes.length t.items 0 && t.nodes.all (ndI t.nodes))):=by
 have hl:=QC _ _ _ h;simp[JF]at hl;refine Ja c139_ok rfl rfl λN=>?_
 simp +contextual only[c139,go_sem,Tr.cv,Tr.row];refine Jd (id:=0) (z:=2) (els:=[t.row]) rfl rfl ?_;simp only[go_sem,JY,Ky,frz,Qc];simp +contextual only[go_sem,Tr.row];refine JV (firstsS t ht h) ?_;simp +contextual only[go_sem];refine Kh (gok rfl) (areItems t ht o (QH _ _ _ Q3.nil h) hl) ?_;simp +contextual only[go_sem]
 cases b1:YL o (λi=>Jt t.nodes i == 65) t.nodes.length t.items 0 with
 |false=>simp +contextual only[go_sem]
 |true=>
  simp +contextual only[go_sem];refine JV (containsN t.nodes (λx=>!ndI t.nodes x) none c159_ok rfl rfl (λx hx=>?_) (by have:=ht.many;omega)) ?_
  ·obtain⟨j,hj⟩:=List.getElem?_of_mem hx;have Bc:=(Gg.1 hj).1;have EO:(JF t.nodes)[j]? = some x.kids:=by simp[JF,hj]
   exact isFormN t x (ht.nodes x hx) (λy hy=>(ht.nodes y hy).k) (λk hk=>by have:=XG h EO k hk;omega)
  ·simp +contextual only[go_sem]
   congr 1
   rw[Gf];simp
theorem isFormN0 (t:Tr)(ht:t.Fit)(h:Jw (JF t.nodes) []=none):Fn Ga 139 [t.cv] (.bool false):=by
 refine Ja c139_ok rfl rfl λN=>?_
 simp +contextual only[c139,go_sem,Tr.cv,Tr.row];refine JV (firstsN t ht h) ?_;simp +contextual only[go_sem]
def frm (t:Tr):Bool:=match Jw (JF t.nodes) []with
 |some o=>YL o (λi=>Jt t.nodes i == 65) t.nodes.length t.items 0 && t.nodes.all (ndI t.nodes)
 |none=>false
theorem isForm (t:Tr)(ht:t.Fit):Fn Ga 139 [t.cv] (.bool (frm t)):=by
 unfold frm
 cases h:Jw (JF t.nodes) []with
 |none=>exact isFormN0 t ht h
 |some o=>exact isFormS t ht h
def chk (t:Tr):Int:=if 700<t.nodes.length\/20<t.items.length then 5 else if frm t=true then(if Ja9 t=true then 5 else 0) else 4
theorem frm_some {t:Tr}(h:frm t=true):∃o,Jw (JF t.nodes) []=some o:=by
 unfold frm at h
 cases ho:Jw (JF t.nodes) []with
 |none=>rw[ho]at h;cases h
 |some o=>exact⟨o,rfl⟩
theorem parseCheck (t:Tr)(ht:t.Fit):Fn Ga 111 [t.cv] (.int .i64 (chk t)):=by
 refine Ja c111_ok rfl rfl λN=>?_
 simp +contextual only[c111,go_sem,Tr.cv,Tr.row];refine Jd (id:=0) (z:=2) (els:=[t.row]) rfl rfl ?_;simp only[go_sem,JY,Ky,frz,Qc];refine JV (isGreat t) ?_;by_cases h1:700<t.nodes.length\/20<t.items.length
 ·have hc:chk t=5:=by unfold chk;rw[if_pos h1]
  rw[decide_eq_true h1,hc];simp +contextual only[go_sem]
 ·rw[decide_eq_false h1];simp +contextual only[go_sem,Tr.row];refine JV (isForm t ht) ?_
  cases h2:frm t with
  |false=>
   have hc:chk t=4:=by unfold chk;rw[if_neg h1,if_neg (by rw[h2];simp)]
   rw[hc];simp +contextual only[go_sem]
  |true=>
   obtain⟨o,ho⟩:=frm_some h2;have hc:chk t=if Ja9 t=true then 5 else 0:=by unfold chk;rw[if_neg h1,if_pos h2]
   rw[hc];simp +contextual only[go_sem];refine JV (isDeep t ht ho) ?_
   cases h3:Ja9 t with
   |false=>simp +contextual only[go_sem]
   |true=>simp +contextual only[go_sem]
end Go.Cm
end
section
open Go.Proofs
namespace Go.Cm
section
variable {K:List (List Int)}{o:List Int}(t:Ordd K o){d m:Nat}(Ps:d<=m)(hm:m<=K.length)(AQ:∀j:Nat,d<=j->j<m->(d:Int)<=fs o j)
include t AQ
include hm
end
theorem deepF_pre:∀(K:List (List Int)) (d:List Int),∃t,QF K d=d++t
 |[],d=>⟨[],by simp[QF]⟩
 |ks::K,d=>by
  obtain⟨t,ht⟩:=deepF_pre K (d++[ownD d ks]);exact⟨_,by rw[QF,ht,List.append_assoc]⟩
theorem deepF_take {K:List (List Int)}{m:Nat}(hm:m<=K.length):QF (K.take m) []=(QF K []).take m:=by
 have h:=Je0 (K.take m) (K.drop m) [];rw[Gv]at h;obtain⟨t,ht⟩:=deepF_pre (K.drop m) (QF (K.take m) []);have hl:=JcB (K.take m) [];simp only[Gy,GG,GR]at hl;have Eg:(QF (K.take m) []).length=m:=by rw[hl];exact GZ hm
 rw[h,ht,List.take_left' Eg]
def mvN (d:Int)(x:Nd):Nd:={ x with kids:=x.kids.map (· + d) }
structure GoodT (t:Tr)(o:List Int):Prop where
 many:t.nodes.length<=700
 items:t.items.length<=20
 ord:Ordd (JF t.nodes) o
 its:chain o t.nodes.length 0 t.items t.nodes.length
 defs:∀i∈t.items,Jt t.nodes i=65
 nds:∀x∈t.nodes,ndI t.nodes x=true
 deep:∀v∈QF (JF t.nodes) [],v<=30
theorem Qs {l:List Nd}:(JF l).length=l.length:=by simp[JF]
theorem JdY (t:Tr):chk t=0↔∃o,GoodT t o:=by
 constructor
 ·intro h;unfold chk at h
  split at h
  ·simp at h
  ·rename_i h1
   split at h
   ·rename_i h2
    split at h
    ·simp at h
    ·rename_i h3;obtain⟨o,ho⟩:=frm_some h2;unfold frm at h2;rw[ho]at h2;simp only[Gm,GV]at h2;have Ap:=QH _ _ _ Q3.nil ho;have Bb:=QC _ _ _ ho;simp only[Gy,GG,Qs]at Bb;obtain⟨c1,c2⟩:=(X0 Ap Bb t.items 0 (by omega)).1 h2.1;refine⟨o,⟨by omega,by omega,⟨ho⟩,c1,λi hi=>by simpa using c2 i hi,h2.2,λv hv=>?_⟩⟩;by_cases Ew:v<=30
     ·exact Ew
     ·refine absurd ?_ h3;unfold Ja9;rw[GU];exact⟨v,hv,by simpa using Int.not_le.1 Ew⟩
   ·simp at h
 ·rintro⟨o,g⟩;have h1:=g.many;have h2:=g.items;unfold chk;rw[iN7,if_pos,if_neg]
  ·unfold Ja9;rw[GU];rintro⟨v,hv,hd⟩;have:=g.deep v hv;simp only[decide_eq_true_eq]at hd;omega
  ·unfold frm;rw[g.ord.h];have Bb:=g.ord.len;rw[Qs]at Bb;simp only[Gm,GV];refine⟨(X0 g.ord.ok Bb t.items 0 (by omega)).2 ⟨g.its,λi hi=>by simpa using g.defs i hi⟩,g.nds⟩
namespace GoodT
variable {t:Tr}{o:List Int}(g:GoodT t o)
include g
theorem olen:o.length=t.nodes.length:=by rw[g.ord.len,Qs]
theorem kid {j:Nat}(hj:j<t.nodes.length){k:Int}(hk:k∈(t.nodes.getD j default).kids):0<=k/\k<j:=by
 have:=g.ord.kid_rng (Kg hj) hk;omega
end GoodT
end Go.Cm
end
end
