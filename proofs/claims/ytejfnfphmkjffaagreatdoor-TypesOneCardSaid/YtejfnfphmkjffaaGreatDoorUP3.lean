/-
  A part of the proof. Conditions: none.
-/
import Derived.Test.YtejfnfphmkjffaaGreatDoorUA6
import Derived.Test.YtejfnfphmkjffaaGreatDoorUI3
import Derived.Test.YtejfnfphmkjffaaGreatDoorUS1
import Derived.BigCall
import Derived.Shelf.Strings.Builder1
set_option linter.unusedSimpArgs false
set_option linter.unusedVariables false
open Go.Proofs.Tryz renaming prog->Ga
open Bool renaming eq_iff_iff->Gf,and_eq_true->Gm,eq_false_or_eq_true->GH,or_eq_false_iff->GI,false_and->GJ
open Int renaming cast_ofNat_Int->Gd
open List renaming getD_eq_getElem?_getD->Gc,getElem?_eq_getElem->Gb,getElem?_eq_some_iff->Gg,take_succ_eq_append_getElem->Gi,drop_eq_getElem_cons->Gn,mem_of_getElem?->Gp,take_of_length_le->Gs,take_length->Gq,map_cons->Gj,getElem_mem->Gt,take_append_drop->Gv,takeWhile_cons->Gw,length->Gr,map_nil->Gu,length_cons->Gx,length_nil->Gy,replicate->Gz,prefix_iff_eq_take->GK,mem_cons->GA,takeWhile_prefix->GL,mem_singleton->GM,all_takeWhile->GN,foldl_append->GQ,length_take->GR,any_eq_true->GU,all_eq_true->GV,any_cons->GX
open Option renaming bind_some->GD,getD_some->GY
open Nat renaming le_of_lt->Gh,le_refl->Gl,zero_add->GG,min_eq_left->GZ,le_trans->G5
noncomputable section
section
open Go.Proofs
namespace Go.Cm
section
theorem nm {f:Nat}:(Ga.funcs[f]?.map (·.name))≠some "runtime.NumGoroutine" :=Jb9 pNames f
def isLt (c:UInt8):Bool:=decide (97<=c.toNat) && decide (c.toNat<=122)
def isBk (c:UInt8):Bool:=c == 32 || c == 10
def isGp (c:UInt8):Bool:=isBk c || c == 126
theorem dle (a:Nat)(c:UInt8):decide ((a:Int)<=(c.toNat:Int))=decide (a<=c.toNat):=decide_eq_decide.2 (by omega)
theorem dge (a:Nat)(c:UInt8):decide ((c.toNat:Int)<=(a:Int))=decide (c.toNat<=a):=decide_eq_decide.2 (by omega)
theorem deq (a:Nat)(ha:a<256)(c:UInt8):((c.toNat:Int) == (a:Int))=(c == UInt8.ofNat a):=by
 rw[Gf];simp only[beq_iff_eq]
 constructor
 ·intro h;apply UInt8.toNat_inj.1;simp;omega
 ·intro h;rw[h];simp;omega
theorem Jer (c:UInt8):Fn Ga 233 [.int .u8 c.toNat] (.bool (isLt c)):=by
 refine Jc c233_ok rfl rfl λN=>?_
 have h1:=dle 97 c;have h2:=dge 122 c;simp only[Gd]at h1 h2;simp +contextual only[c233,go_sem,h1,h2,isLt]
theorem JcS (c:UInt8):Fn Ga 235 [.int .u8 c.toNat] (.bool (Xg c)):=by
 refine Jc c235_ok rfl rfl λN=>?_
 have h1:=dle 48 c;have h2:=dge 57 c;simp only[Gd]at h1 h2;simp +contextual only[c235,go_sem,h1,h2,Xg]
theorem lexIsBlank (c:UInt8):Fn Ga 232 [.int .u8 c.toNat] (.bool (isBk c)):=by
 refine Jc c232_ok rfl rfl λN=>?_
 have h1:=deq 32 (by decide) c;have h2:=deq 10 (by decide) c;simp only[Gd]at h1 h2;simp +contextual only[c232,go_sem,h1,h2];show ((c == 32)=false->CV.bool (c == 10)=CV.bool ((c == 32) || (c == 10)))/\((c == 32)=true->CV.bool true=CV.bool ((c == 32) || (c == 10)))
 cases (c == 32) <;> simp
theorem lexIsGap (c:UInt8):Fn Ga 222 [.int .u8 c.toNat] (.bool (isGp c)):=by
 refine Jc c222_ok rfl rfl λN=>?_
 have h1:=deq 126 (by decide) c;simp only[Gd]at h1;simp +contextual only[c222,go_sem];refine J6 (lexIsBlank c) ?_;simp +contextual only[go_sem,h1]
 cases h:isBk c with
 |true=>simp[isGp,h]
 |false=>simp[isGp,h]
def XI {α:Type}(q:α->Bool):List α->Nat->Int
 |[],_=>-1
 |p::l,i=>if q p then i else XI q l (i+1)
theorem Q6 {α:Type}{q:α->Bool}{l:List α}{i:Nat}{p:α}(h:l[i]? = some p):XI q (l.drop i) i=if q p then(i:Int) else XI q (l.drop (i+1)) (i+1):=by
 have Ab:=(Gg.1 h).1;have hp:=(Gg.1 h).2;rw[Gn Ab,hp];rfl
theorem fixA_neg {α:Type}{q:α->Bool}:∀(l:List α) (i:Nat),XI q l i<0↔l.any q=false
 |[],_=>by simp[XI]
 |p::l,i=>by
  have:=fixA_neg (q:=q) l (i+1);simp only[XI,GX,GI];by_cases h:q p=true
  ·simp only[h,if_true,Bool.true_eq_false,false_and,iff_false];omega
  ·have h':q p=false:=by simpa using h
   rw[if_neg h,this];simp[h']
theorem Jaf {α:Type}{q:α->Bool}(l:List α):decide (0<=XI q l 0)=l.any q:=by
 have h:=fixA_neg (q:=q) l 0
 cases h2:l.any q with
 |true=>
  rw[decide_eq_true_eq];rw[h2]at h;simp at h;exact h
 |false=>
  rw[decide_eq_false_iff_not];have:=h.2 h2;omega
structure FnQ where
 f:Nat
 q:UInt8->Bool
def JgR (p:FnQ):Prop:=(∃F,Jf Ga p.f=some F)/\∀c:UInt8,Fn Ga p.f [.int .u8 c.toNat] (.bool (p.q c))
def qLt:FnQ:=⟨233,isLt⟩
def qDg:FnQ:=⟨235,Xg⟩
theorem qLt_ok:JgR qLt:=⟨⟨_,c233_ok⟩,Jer⟩
theorem qDg_ok:JgR qDg:=⟨⟨_,c235_ok⟩,JcS⟩
def fnz (l:List FnQ):List (List CV):=l.map λp=>[.fn p.f [] []]
theorem fnz_len {l:List FnQ}:(fnz l).length=l.length:=by simp[fnz]
theorem fnz_get {l:List FnQ}{i:Nat}{p:FnQ}(h:l[i]? = some p):(fnz l).getD i []=[.fn p.f [] []]:=by
 simp[fnz,Gc,h]
section
variable {E:Env}{H:List CObj}{id:Nat}{l:List UInt8}{at_:Nat}
theorem run1 (hH:H[id]? = some (.arr 1 [[.int .i64 (at_:Int)]]))(Ab:at_<l.length)(p:FnQ)(hp:JgR p):Pure Ga E 242 [.fn p.f [] [],.rptr [S l],.ptr id 0 0] H (.bool (p.q (l.getD at_ 0))):=by
 obtain⟨⟨F,hF⟩,hq⟩:=hp;refine J8 c242_ok λN=>?_
 simp +contextual only[c242,go_sem,hH];refine⟨⟨by omega,by omega⟩,?_⟩;refine vr_fv (.inl rfl) rfl hF nm (hq _) ?_;simp +contextual only[go_sem]
theorem vr_pcallv {P:Program}{n0:Nat}{N:Fr}{Q:Exit->List CV->List CObj->Prop}{T:List CV}{k:List KItem}{d:Option Nat}{g:Option (Nat×Bool)}{x:IArg}{f:Nat}{l1 l2:List CV}{xs:List IArg}{l:List IOper}{v:CV}{F:IFunc}(hg:GOk T g) (hx:J7 T x=.fn f l1 l2) (hF:Jf P f=some F) (EI:(P.funcs[f]?.map (·.name))≠some "runtime.NumGoroutine")
  (Ag:Pure P E f (l1++xs.map (J7 T)++l2) H v) (h:Kn P E n0 N Q (.ops l::k) (put T d v) H):Ok P E n0 N Q (.ops (⟨d,.callv x xs,g⟩::l)::k) T H:=by
 have Bg:∃fn,P.funcs[f]? = some fn/\fn.body.isSome=true:=by
  unfold Jf at hF
  split at hF
  ·rename_i fn Bg
   split at hF
   ·rename_i c hb;exact⟨fn,Bg,by rw[hb];rfl⟩
   ·cases hF
  ·cases hF
 obtain⟨fn,Bg,DL⟩:=Bg;exact JgA hg hx Bg DL (λe=>EI (by rw[Bg,<-e];rfl)) Ag λv' H' ⟨h1,h2⟩=>by rw[h1,h2];exact JA _ _ _ h
theorem indexF (hH:H[id]? = some (.arr 1 [[.int .i64 (at_:Int)]]))(Ab:at_<l.length)(fs:List FnQ)(cap:Option Nat)(Fh:∀p∈fs,JgR p)(hl:fs.length<=1000) :
  Pure Ga E 249 [.rslc 1 (fnz fs) cap,.fn 242 [] [.rptr [S l],.ptr id 0 0]] H (.int .i64 (XI (λp=>p.q (l.getD at_ 0)) fs 0)):=by
 generalize hQ:(λp:FnQ=>p.q (l.getD at_ 0))=q;refine J8 c249_ok λN=>?_
 simp +contextual only[c249,go_sem,fnz_len];refine JI (I:=λi:Nat=>i<=fs.length/\XI q fs 0=XI q (fs.drop i) i) (inv:=λi=>gp [(0,.rslc 1 (fnz fs) cap),(0,.fn 242 [] [.rptr [S l],.ptr id 0 0]),(5,.int .i64 fs.length),(0,.int .i64 i)] 10) (hp:=λ_=>H) (μ:=λi=>fs.length-i) 0 ?_ ?_ rfl ?_
 ·simp
 ·simp[forget,gp]
 ·rintro i ⟨hi,Aa⟩;simp +contextual only[go_sem,fnz_len];refine⟨λh=>?_,λh=>?_⟩
  ·have DY:i<fs.length:=by omega
   obtain⟨p,hp⟩:∃p,fs[i]? = some p:=⟨_,Gb DY⟩;rw[Q6 hp]at Aa;rw[fnz_get hp];refine anO ?_;simp +contextual only[go_sem];refine vr_pcallv (.inl rfl) rfl c242_ok nm (run1 hH Ab p (Fh p (Gp hp))) ?_;have Io:p.q (l.getD at_ 0)=q p:=by rw[<-hQ]
   rw[Io];simp only[go_sem];refine⟨λh2=>?_,λh2=>?_⟩
   ·rw[Aa,if_pos h2]
   ·rw[h2]at Aa;refine⟨Jh,i+1,⟨by omega,by simpa using Aa⟩,by omega,?_⟩;simp[forget]
  ·have:i=fs.length:=by omega
   subst this;rw[Aa];simp[XI]
theorem containsF (hH:H[id]? = some (.arr 1 [[.int .i64 (at_:Int)]]))(Ab:at_<l.length)(fs:List FnQ)(cap:Option Nat)(Fh:∀p∈fs,JgR p)(hl:fs.length<=1000) :
  Pure Ga E 245 [.rslc 1 (fnz fs) cap,.fn 242 [] [.rptr [S l],.ptr id 0 0]] H (.bool (fs.any λp=>p.q (l.getD at_ 0))):=by
 refine J8 c245_ok λN=>?_
 simp +contextual only[c245,go_sem];refine Jax (indexF hH Ab fs cap Fh hl) ?_;simp +contextual only[go_sem,Jaf]
theorem noneF (hH:H[id]? = some (.arr 1 [[.int .i64 (at_:Int)]]))(Ab:at_<l.length)(fs:List FnQ)(cap:Option Nat)(Fh:∀p∈fs,JgR p)(hl:fs.length<=1000) :
  Pure Ga E 241 [.rslc 1 (fnz fs) cap,.fn 242 [] [.rptr [S l],.ptr id 0 0]] H (.bool (!fs.any λp=>p.q (l.getD at_ 0))):=by
 refine J8 c241_ok λN=>?_
 simp +contextual only[c241,go_sem];refine Jax (containsF hH Ab fs cap Fh hl) ?_;simp +contextual only[go_sem]
end
def Q0 (q:UInt8->Bool)(l:List UInt8)(a:Nat):Nat:=a+((l.drop a).takeWhile q).length
theorem YH {q:UInt8->Bool}{l:List UInt8}{a:Nat}(h:a<=l.length):Q0 q l a<=l.length:=by
 unfold Q0;have:=(List.takeWhile_sublist (l:=l.drop a) q).length_le;simp at this;omega
theorem runE_end {q:UInt8->Bool}{l:List UInt8}{a:Nat}(h:l.length<=a):Q0 q l a=a:=by
 unfold Q0;rw[List.drop_eq_nil_of_le h];rfl
theorem Jdz {q:UInt8->Bool}{l:List UInt8}{a:Nat}(h:a<l.length)(hq:q (l.getD a 0)=true):Q0 q l a=Q0 q l (a+1):=by
 unfold Q0;rw[Gc,Gb h]at hq;simp only[GY]at hq;rw[Gn h,Gw,if_pos hq];simp;omega
theorem Jd5 {q:UInt8->Bool}{l:List UInt8}{a:Nat}(h:a<l.length)(hq:q (l.getD a 0)=false):Q0 q l a=a:=by
 unfold Q0;rw[Gc,Gb h]at hq;simp only[GY]at hq;rw[Gn h,Gw,hq];simp
theorem lexRun (l:List UInt8)(a:Nat)(fs:List FnQ)(cap:Option Nat)(Fh:∀p∈fs,JgR p)(hl:fs.length<=1000)(CG:l.length<=1000000)(ha:a<=l.length) :
  Fn Ga 234 [S l,.int .i64 (a:Int),.rslc 1 (fnz fs) cap] (.int .i64 (Q0 (λc=>fs.any λp=>p.q c) l a:Nat)):=by
 generalize hQ:(λc=>fs.any λp:FnQ=>p.q c)=q;refine Jc c234_ok rfl rfl λN=>?_
 simp +contextual only[c234,go_sem];refine Jd (id:=0) (z:=1) (els:=[[S l]]) rfl rfl ?_;simp only[go_sem,JX,Ku,frz,Qa];refine JI (I:=λi:Nat=>i<=l.length/\Q0 q l a=Q0 q l i) (inv:=λi=>gp [(2,.rslc 1 (fnz fs) cap),(0,.rptr [S l]),(0,.ptr 1 0 0)] 15) (hp:=λi=>[.dead,.arr 1 [[.int .i64 (i:Int)]]]) (μ:=λi=>l.length-i) a ⟨ha,rfl⟩ ?_ rfl ?_
 ·simp[forget,gp]
 ·rintro i ⟨hi,Aa⟩;simp +contextual only[go_sem];by_cases Ab:i<l.length
  ·have d1:((i:Int)<(l.length:Int))=True:=Jq;simp +contextual only[go_sem,d1];refine vr_pureg (gok rfl) (noneF (id:=1) (l:=l) (at_:=i) rfl Ab fs cap Fh hl) ?_;have hq:(fs.any λp=>p.q (l.getD i 0))=q (l.getD i 0):=by rw[<-hQ]
   rw[hq]
   cases CU:q (l.getD i 0) with
   |true=>
    simp +contextual only[go_sem];refine⟨Jh,i+1,⟨by omega,by rw[Aa,Jdz Ab CU]⟩,by omega,by simp,?_⟩;simp[forget]
   |false=>
    simp +contextual only[go_sem];rw[Aa,Jd5 Ab CU]
  ·have d1:((i:Int)<(l.length:Int))=False:=Jo;simp +contextual only[go_sem,d1];rw[Aa,runE_end (by omega)]
end
end Go.Cm
end
section
open Go.Proofs Go.RowKit
namespace Go.Cm
theorem repL_eq (c:UInt8):∀n,Lib.repeatL [c] n=Gz n c
 |0=>rfl
 |n+1=>by
  have:=repL_eq c n;simp[Lib.repeatL,List.replicate_succ]at this|-
  first|exact this|(rw[this])
theorem cntL_eq (c:UInt8)(l:List UInt8):Lib.countByte l c=Ql c l:=rfl
theorem cntB_le (c:UInt8)(l:List UInt8):Ql c l<=l.length:=List.count_le_length
theorem repeatL (c:UInt8)(n:Nat)(hn:n<=1000000):Fn Ga 180 [S [c],.int .i64 n] (S (Gz n c)):=by
 intro E H;refine KN λm w vs hs hv=>?_
 simp only[JP,rel]at hv;obtain⟨r,rs,e,rfl,r2,rs2,rfl,rfl,rfl⟩:=hv;have BA:vs=#[.string ⟨⟨[c]⟩⟩,.int .i64 n]:=by cases vs;simp_all
 subst BA;refine⟨_,Tryz.strings_Repeat ⟨⟨[c]⟩⟩ n w (by omega) ?_,?_⟩
 ·simp[S_size];omega
 ·rw[repL_eq];rfl
theorem countL (l:List UInt8)(c:UInt8):Fn Ga 181 [S l,S [c]] (.int .i64 (Ql c l)):=by
 intro E H;refine KN λm w vs hs hv=>?_
 simp only[JP,rel]at hv;obtain⟨r,rs,e,rfl,r2,rs2,rfl,rfl,rfl⟩:=hv;have BA:vs=#[.string ⟨⟨l⟩⟩,.string ⟨#[c]⟩]:=by cases vs;simp_all
 subst BA;refine⟨_,(Tryz.strings_Count_one ⟨⟨l⟩⟩ c w).mono λe w' ⟨h1,h2⟩=>⟨h1,by rw[h2];exact Below.refl _ _⟩,?_⟩;rw[cntL_eq];rfl
end Go.Cm
end
section
open Go.Shelf Go.RowKit Go.Proofs
namespace Go.Proofs
theorem Tryz.tab_of {w:World}(h:Go.Cm.GLw w):Lib.TabIs Ga w "internal/strconv.uint64pow10" .u64 Lib.pow10Tab:=by
 obtain⟨_,⟨e,q,h1⟩,_⟩:=h
 have hg:Ga.globalNamed "internal/strconv.uint64pow10" = some Go.Cm.gTab:=by kernel_rfl
 simp only[show Go.Cm.gTab<Go.Cm.gN by decide,if_true]at h1;simp only[Lib.TabIs,World.var?,hg,GD,h1]
theorem Tryz.err_of {w:World}(h:Go.Cm.GLw w){B:Nat}(hB:B∈Go.Cm.gErr):∃te pe,w.cell? ⟨B,0,none⟩=some (.iface te pe):=by
 obtain⟨te,pe,e,q,h1⟩:=h.2.2 B hB;have Ab:B<Go.Cm.gN:=by
  have:∀x∈Go.Cm.gErr,x<Go.Cm.gN:=by decide
  exact this B hB
 simp only[if_pos Ab]at h1;exact⟨te,pe,by simp[World.cell?,h1]⟩
theorem Tryz.GLw_below {w w':World}(h:Go.Cm.GLw w)(hb:Below w.heap.size w w'):Go.Cm.GLw w':=h.mono λB hB=>hb.block B (h.lt hB)
open Go.Cm in
set_option maxHeartbeats 4000000 in
set_option maxRecDepth 100000 in
theorem Tryz.isNumber_walk (l:List UInt8)(hd:l.all Xg=true)(Ah:l≠[])(hl:l.length<=1000000)(w:World)(hg:GLw w) :
  Calls Ga 237 #[.string ⟨⟨l⟩⟩] w λe w'=>e=.returned (.bool (JbK l))/\Below w.heap.size w w':=by
 have hat:=atoi_digits l hd Ah;have gF:=digits_back _ l rfl hd Ah;by_cases hr:Jcr l<9223372036854775808
 ·rw[if_pos hr]at hat;have Ap:JbK l=(decide (Jcr l<=1000000000) && (Lib.decDigits (Jcr l) == l)):=by
   unfold JbK
   congr 1
   rw[Gf];simp only[decide_eq_true_eq,beq_iff_eq];exact gF.symm
  rw[Ap];generalize Jcr l=v at hat hr;have grow_below:∀(w:World) (k:Nat) (os:Array Obj),Below w.heap.size w (Go.Sort.grow (w.drewN k) os):=λw k os=>
   ⟨rfl,rfl,rfl,by simp[Go.Sort.grow,World.drewN],λi hi=>by
    simp only[Go.Sort.grow,World.drewN];rw[Array.getElem?_append_left hi]⟩
  by_cases hv:v<=1000000000
  ·rw[decide_eq_true hv,Bool.true_and];have d2:((v:Int)<=1000000000):=by omega
   go_enter Tryz.func237,Tryz.ntmps237
   go_wp2_with (go_at_call 243;refine(Tryz.strconv_Atoi_ok ⟨⟨l⟩⟩ (by simp[ByteArray.size];omega) v hat _).mono ?_;rintro e W1 ⟨rfl,hW⟩)
   have Em:Below w.heap.size w W1:=by
    rcases hW with rfl|⟨t,rfl⟩
    ·exact Below.refl _ _
    ·exact Lib.bytesWorld_below _ _ _
   have FQ:=Tryz.GLw_below hg Em;clear hW
   go_wp2_with (go_at_call 244;refine(Tryz.strconv_Itoa (v:Int) (by omega) (by omega) _ (Tryz.tab_of FQ)).mono ?_;rintro e W2 ⟨rfl,k,os,rfl⟩)
   rw[Lib.itoa_nonneg];have Cg:=grow_below W1 k os;generalize Go.Sort.grow (W1.drewN k) os=W2 at Cg|-
   go_wp2
   go_ret
   refine⟨?_,Em.trans (Cg.mono Em.size)⟩
   congr 2
  ·rw[decide_eq_false hv,GJ];have d2:¬((v:Int)<=1000000000):=by omega
   go_enter Tryz.func237,Tryz.ntmps237
   go_wp2_with (go_at_call 243;refine(Tryz.strconv_Atoi_ok ⟨⟨l⟩⟩ (by simp[ByteArray.size];omega) v hat _).mono ?_;rintro e W1 ⟨rfl,hW⟩)
   have Em:Below w.heap.size w W1:=by
    rcases hW with rfl|⟨t,rfl⟩
    ·exact Below.refl _ _
    ·exact Lib.bytesWorld_below _ _ _
   clear hW
   go_wp2
   go_ret
   exact⟨rfl,Em⟩
 ·rw[if_neg hr]at hat;have Ap:JbK l=false:=by
   unfold JbK;rw[decide_eq_false (by omega)];rfl
  rw[Ap];obtain⟨te,pe,gB⟩:=Tryz.err_of hg (B:=2) (by decide)
  go_enter Tryz.func237,Tryz.ntmps237
  go_wp2_with (go_at_call 243;refine(Tryz.strconv_Atoi_range ⟨⟨l⟩⟩ (by simp[ByteArray.size];omega) hat _ _ gB (.inr ⟨te,pe,rfl⟩)).mono ?_;rintro e W1 ⟨N,rfl,Uk,jm,Em⟩)
  go_wp2
  go_ret
  exact⟨rfl,Em⟩
end Go.Proofs
namespace Go.Cm
theorem isNumberL (l:List UInt8)(hd:l.all Xg=true)(Ah:l≠[])(hl:l.length<=1000000):Fn Ga 237 [S l] (.bool (JbK l)):=by
 intro E H;refine KN λm w vs hs hv=>?_
 simp only[JP,rel]at hv;obtain⟨r,rs,e,rfl,rfl⟩:=hv;have BA:vs=#[.string ⟨⟨l⟩⟩]:=by cases vs;simp_all
 subst BA;exact⟨_,Tryz.isNumber_walk l hd Ah hl w hs.gl.1,rfl⟩
end Go.Cm
end
section
set_option maxRecDepth 100000
set_option maxHeartbeats 20000000
open Go.Proofs
namespace Go.Cm
def KZ (c:UInt8):Bool:=isLt c || Xg c
theorem any_ld:(λc:UInt8=>[qLt,qDg].any λp=>p.q c)=KZ:=by funext c;simp[qLt,qDg,KZ]
theorem any_d:(λc:UInt8=>[qDg].any λp=>p.q c)=Xg:=by funext c;simp[qDg]
def kws:List (List UInt8):=[[97,110,100],[97,114,114,97,121],[98,111,111,108],[98,121],[100,101,102],[100,111],[101,108,115,101],[101,109,112,116,121],[102,97,108,115,101],[103,105,118,101],[104,101,97,100],[105,102],[105,110],[105,110,116],[108,111,111,112],[110,101,120,116],[110,105,108],[110,111,116],[111,114],[115,105,122,101],[115,116,114,101,97,109],[116,97,105,108],[116,114,117,101],[119,104,105,108,101]]
def sgs:List (List UInt8):=[[58,58],[58,61],[45,62],[46,46],[61,61],[33,61],[60,61],[62,61],[60],[62],[61],[43],[45],[42],[47],[37],[35],[40],[41],[91],[93],[123],[125],[44],[59],[58]]
def sz (l:List (List UInt8)):List (List CV):=l.map λs=>[S s]
theorem Jbw {l:List (List UInt8)}:(sz l).length=l.length:=by simp[sz]
theorem sz_get {l:List (List UInt8)}{i:Nat}(h:i<l.length):(sz l).getD i []=[S (l.getD i [])]:=by
 simp[sz,Gc,Gb h]
theorem JeY:Fn Ga 105 [] (.rslc 1 (sz kws) none):=by
 refine JfP (J8 c105_ok λN=>?_) rfl;simp -implicitDefEqProofs only[c105,go_sem];exact⟨_,_,_,_,_,rfl,rfl,by decide,rfl,by decide +kernel⟩
theorem apiSigns:Fn Ga 135 [] (.rslc 1 (sz sgs) none):=by
 refine JfP (J8 c135_ok λN=>?_) rfl;simp -implicitDefEqProofs only[c135,go_sem];exact⟨_,_,_,_,_,rfl,rfl,by decide,rfl,by decide +kernel⟩
theorem JfL (l p:List UInt8):Fn Ga 132 [S l,S p] (.bool (l.take p.length == p)):=by
 refine Jc c132_ok rfl rfl λN=>?_
 simp +contextual only[c132,go_sem];refine⟨λh=>by omega,λh=>?_⟩
 congr 1
 symm
 rw[beq_eq_false_iff_ne];intro e;have:=congrArg Gr e;simp at this;omega
theorem hasPrefix (l p:List UInt8):Fn Ga 201 [S l,S p] (.bool (l.take p.length == p)):=by
 refine Jc c201_ok rfl rfl λN=>?_
 simp +contextual only[c201,go_sem];refine J6 (JfL _ _) ?_;simp +contextual only[go_sem]
theorem S_beq (l m:List UInt8):((⟨⟨l⟩⟩:ByteArray) == ⟨⟨m⟩⟩)=(l == m):=by
 rw[beq_toListBytes];simp
def kwm (l:List (List UInt8)):List (CV×CV):=l.map λs=>(S s,.bool true)
theorem kw_new {l:List (List UInt8)}{s:List UInt8}(h:s∉l):∀i,QK .str (S s) (kwm l) i=some none:=by
 induction l with
 |nil=>intro i;rfl
 |cons a l ih=>
  intro i;simp only[GA,not_or]at h;have e:Yx .str (S s) (S a)=some false:=by
   simp only[Yx,S_beq]
   congr 1
   rw[beq_eq_false_iff_ne];exact h.1
  simp only[kwm,Gj,QK,e];exact ih h.2 (i+1)
theorem kw_old {l:List (List UInt8)}{s:List UInt8}(h:s∈l):∀i,∃j,QK .str (S s) (kwm l) i=some (some (j,.bool true)):=by
 induction l with
 |nil=>cases h
 |cons a l ih=>
  intro i;by_cases ha:s=a
  ·subst ha;have e:Yx .str (S s) (S s)=some true:=by simp[Yx,S_beq]
   exact⟨i,by simp only[kwm,Gj,QK,e]⟩
  ·have hm:s∈l:=
    (GA.1 h).elim (λh=>absurd h ha) id
   have e:Yx .str (S s) (S a)=some false:=by
    simp only[Yx,S_beq]
    congr 1
    rw[beq_eq_false_iff_ne];exact ha
   obtain⟨j,hj⟩:=ih hm (i+1);exact⟨j,by simp only[kwm,Gj,QK,e];exact hj⟩
theorem kw_take_all:∀i:Fin 24,kws.getD i []∉kws.take i:=by decide +kernel
theorem kw_take {i:Nat}(h:i<kws.length):kws.getD i []∉kws.take i:=kw_take_all ⟨i,h⟩
theorem keywords {E:Env}{H:List CObj}:CallsC Ga E 236 [] H λv H'=>v=.map H.length/\H'=H++[.map (kwm kws)]:=by
 refine J8 c236_ok λN=>?_
 simp +contextual only[c236,go_sem];refine J6 JeY ?_;simp +contextual only[go_sem,Jbw];refine JI (I:=λi:Nat=>i<=kws.length) (inv:=λi=>gp [(1,.map H.length),(3,.rslc 1 (sz kws) none),(0,.int .i64 kws.length),(0,.int .i64 i)] 7) (hp:=λi=>H++[.map (kwm (kws.take i))]) (μ:=λi=>kws.length-i) 0 (by omega) ?_ rfl ?_
 ·simp[forget,gp]
 ·intro i hi;simp +contextual only[go_sem,Jbw];refine⟨λh=>?_,λh=>?_⟩
  ·have Ab:i<kws.length:=by omega
   rw[sz_get Ab];have hn:=kw_new (kw_take Ab) 0;have hs:kws.take (i+1)=kws.take i++[kws.getD i []]:=by
    rw[Gi Ab,Gc,Gb Ab];rfl
   refine anO ?_;simp +contextual only[go_sem,hn];have Ay:kws.length=24:=rfl;refine⟨Jh,i+1,by omega,by omega,?_,?_⟩
   ·rw[hs];simp[kwm]
   ·simp[forget]
  ·have:i=kws.length:=by omega
   subst this;rw[Gq]
def sgnF (r:List UInt8):List (List UInt8)->List UInt8->List UInt8
 |[],b=>b
 |s::l,b=>sgnF r l (if r.take s.length=s/\b.length<s.length then s else b)
def sgnL (r:List UInt8):List UInt8:=sgnF r sgs []
def cut (l:List UInt8)(a b:Nat):List UInt8:=(l.take b).drop a
def tkL (l:List UInt8)(a:Nat):Nat×List UInt8×Bool:=
 if isLt (l.getD a 0)=true then
  (if kws.contains (cut l a (Q0 KZ l a))=true then(1,cut l a (Q0 KZ l a),true) else(2,cut l a (Q0 KZ l a),decide ((cut l a (Q0 KZ l a)).length<=12)))
 else if Xg (l.getD a 0)=true then(3,cut l a (Q0 Xg l a),JbK (cut l a (Q0 Xg l a)))
 else(4,sgnL (l.drop a),!(sgnL (l.drop a) == []))
def lxz (k:Nat)(x:List UInt8)(a:Int):List CV:=[.int .u8 k,S x,.int .i64 a]
def tkV (a:Nat)(t:Nat×List UInt8×Bool):CV:=.tup [.agg (lxz t.1 t.2.1 a),.bool t.2.2]
theorem JaZ {l:List UInt8}{a b:Nat}(h1:a<=b)(h2:b<=l.length):(cut l a b).length=b-a:=by simp[cut];omega
theorem JbH {q:UInt8->Bool}{l:List UInt8}{a:Nat}(h:a<l.length)(hq:q (l.getD a 0)=true):a<Q0 q l a:=by
 rw[Jdz h hq];unfold Q0;omega
theorem run_all {q:UInt8->Bool}{l:List UInt8}{a:Nat}(ha:a<=l.length):(cut l a (Q0 q l a)).all q=true:=by
 have e:cut l a (Q0 q l a)=(l.drop a).takeWhile q:=by
  unfold cut Q0;rw[List.drop_take,Nat.add_sub_cancel_left];exact(GK.1 (GL q)).symm
 rw[e];exact GN
theorem sgnF_len {r:List UInt8}:∀(L:List (List UInt8)) (b:List UInt8),b.length<=2->(∀s∈L,s.length<=2)->(sgnF r L b).length<=2
 |[],b,h,_=>h
 |s::L,b,h,hL=>by
  simp only[sgnF];refine sgnF_len L _ ?_ (λx hx=>hL x (by simp[hx]))
  split
  ·exact hL s (by simp)
  ·exact h
theorem sgs_len:∀s∈sgs,s.length<=2:=by decide +kernel
theorem tokenL (l:List UInt8)(a:Nat)(ha:a<l.length)(hl:l.length<=1000000):Fn Ga 223 [S l,.int .i64 (a:Int)] (tkV a (tkL l a)):=by
 refine Jc c223_ok rfl rfl λN=>?_
 simp +contextual only[c223,go_sem];refine anO ?_;refine J6 (Jer _) ?_;by_cases h1:isLt (l.getD a 0)=true
 ·have hE:=YH (q:=KZ) (Gh ha);have Ci:a<=Q0 KZ l a:=by unfold Q0;omega
  simp +contextual only[go_sem,h1];refine Jd (id:=1) (z:=1) (els:=[[.fn 233 [] []],[.fn 235 [] []]]) rfl rfl ?_;simp only[go_sem,JX,Ku,frz,Qa];have P9:∀p∈[qLt,qDg],JgR p:=by
   intro p hp;rcases GA.1 hp with rfl|hp
   ·exact qLt_ok
   ·rw[GM.1 hp];exact qDg_ok
  have Af:=lexRun l a [qLt,qDg] none P9 (by simp) hl (Gh ha);rw[any_ld,show fnz [qLt,qDg]=[[.fn 233 [] []],[.fn 235 [] []]] from rfl]at Af;refine J6 Af ?_;simp +contextual only[go_sem];refine anO ?_;have Cw:(l.take (Q0 KZ l a)).drop a=cut l a (Q0 KZ l a):=rfl;simp only[Cw];have hT:tkL l a=if kws.contains (cut l a (Q0 KZ l a))=true then(1,cut l a (Q0 KZ l a),true) else(2,cut l a (Q0 KZ l a),decide ((cut l a (Q0 KZ l a)).length<=12)):=by
   unfold tkL;rw[if_pos h1]
  rw[hT];generalize cut l a (Q0 KZ l a)=x;obtain⟨r,hr,SK⟩:∃r,QK .str (S x) (kwm kws) 0=some r/\(match r with|some (_,v)=>v|none=>CV.bool false)=.bool (kws.contains x):=by
   by_cases hm:x∈kws
   ·obtain⟨j,hj⟩:=kw_old hm 0;exact⟨_,hj,by simp[hm]⟩
   ·exact⟨_,kw_new hm 0,by simp[hm]⟩
  refine Ja7 [(.on [0],.on [0,3]),Foot.no,(.on [1],.on []),Foot.any] Js (by decide +kernel) ?_;refine⟨_,_,hs_new (mk:=.map) rfl (λH2=>keywords),?_⟩;refine⟨_,_,YK rfl rfl trivial,?_⟩;refine⟨_,_,hs_ld (id:=0) (i:=0) (off:=1) rfl rfl (by simp[Cond.holds]),?_⟩;refine⟨.bool (kws.contains x),[CObj.arr 3 [[.int .u8 0,S x,.int .i64 a]],.dead,.map (kwm kws)],hs_any (c:=.tt) (.inl rfl) ?_ trivial,?_⟩
  ·simp only[go_sem,hr]
   cases r with
   |none=>simp only at SK|-;rw[SK]
   |some p=>simp only at SK|-;rw[SK]
  ·simp only[vdf,put_some]
   cases hk:kws.contains x with
   |true=>simp +contextual only[go_sem,tkV,lxz];rfl
   |false=>
    have e12:decide ((x.length:Int)<=12)=decide (x.length<=12):=decide_eq_decide.2 (by omega);simp +contextual only[go_sem,tkV,lxz,e12];rfl
 ·by_cases h2:Xg (l.getD a 0)=true
  ·have Dx:isLt (l.getD a 0)=false:=by simpa using h1
   have hE:=YH (q:=Xg) (Gh ha);have Ci:=JbH (q:=Xg) ha h2;have Aj:=run_all (q:=Xg) (Gh ha);have Aq:=JaZ (Gh Ci) hE;have hT:tkL l a=(3,cut l a (Q0 Xg l a),JbK (cut l a (Q0 Xg l a))):=by
    unfold tkL;rw[if_neg h1,if_pos h2]
   rw[hT];simp +contextual only[go_sem,Dx];refine anO ?_;refine J6 (JcS _) ?_;simp +contextual only[go_sem,h2];have P9:∀p∈[qDg],JgR p:=by
    intro p hp;rw[GM.1 hp];exact qDg_ok
   have Af:=lexRun l a [qDg] none P9 (by simp) hl (Gh ha);rw[any_d,show fnz [qDg]=[[.fn 235 [] []]] from rfl]at Af;refine Ya [false,false,false,false,false,false,false,false,true,false,true] Js (by decide +kernel) ?_;simp +contextual only[go_sem];refine Jfe [[.fn 235 [] []]] rfl rfl rfl rfl ?_;simp +contextual only[go_sem];refine vh_f Af ?_;simp +contextual only[go_sem];refine vh_all (S (cut l a (Q0 Xg l a))) (λH2=>by simp only[go_sem];rfl) (by simp only[Cond.holds];exact⟨by omega,by omega,by show ((Q0 Xg l a:Nat):Int)<=((l.length:Nat):Int);omega⟩) ?_;simp +contextual only[go_sem];generalize hx:cut l a (Q0 Xg l a)=x at Aj Aq|-;have Ov:=isNumberL x Aj (by intro e;rw[e]at Aq;simp at Aq;omega) (by omega);refine Ja7 [(.on [1],.on []),Foot.no,(.on [1],.on []),Foot.no,Foot.any,Foot.no] Js (by decide +kernel) ?_;refine⟨_,_,hs_ld (id:=0) (i:=0) (off:=0) rfl rfl ⟨Gl 1,Gl 3⟩,_,_,hs_all (λ_=>rfl) trivial,_,_,hs_ld (id:=0) (i:=0) (off:=1) rfl rfl ⟨Gl 1,(by decide:2<=3)⟩,_,_,hs_f (.inl rfl) Ov,_,_,hs_any (.inl rfl) rfl ⟨Gl 1,Gl 3⟩,_,_,hs_all (λ_=>rfl) trivial,?_⟩;simp +contextual only[vdf,go_sem,tkV,lxz,splice];rfl
  ·have Dx:isLt (l.getD a 0)=false:=by simpa using h1
   have Fv:Xg (l.getD a 0)=false:=by simpa using h2
   have hT:tkL l a=(4,sgnL (l.drop a),!(sgnL (l.drop a) == [])):=by
    unfold tkL;rw[if_neg h1,if_neg h2]
   rw[hT];simp +contextual only[go_sem,Dx];refine anO ?_;refine J6 (JcS _) ?_;simp +contextual only[go_sem,Fv];refine J6 apiSigns ?_;simp +contextual only[go_sem,Jbw];have DN:sgs.length=26:=rfl;refine JI (σ:=Nat×List UInt8) (I:=λs=>s.1<=sgs.length/\sgnL (l.drop a)=sgnF (l.drop a) (sgs.drop s.1) s.2) (inv:=λs=>gp [(0,S l),(0,.int .i64 (a:Int)),(2,.ptr 0 0 0),(49,.rslc 1 (sz sgs) none),(0,.int .i64 sgs.length),(0,.int .i64 s.1)] 23) (hp:=λs=>[.arr 3 [lxz 4 s.2 a]]) (μ:=λs=>sgs.length-s.1) (0,[]) ⟨by omega,rfl⟩ ?_ rfl ?_
   ·simp[forget,gp]
   ·rintro⟨i,b⟩ ⟨hi,Aa⟩;simp only at hi Aa;simp +contextual only[go_sem,Jbw,lxz];refine⟨λh=>?_,λh=>?_⟩
    ·have Ab:i<sgs.length:=by omega
     rw[sz_get Ab];rw[Gn Ab,sgnF]at Aa;rw[show sgs.getD i []=sgs[i] by rw[Gc,Gb Ab];rfl];generalize sgs[i]=s at Aa|-;refine anO ?_;simp +contextual only[go_sem];refine anO ?_;have Im:(l.take l.length).drop a=l.drop a:=by rw[Gq]
     simp only[Im];refine J6 (hasPrefix (l.drop a) s) ?_;simp +contextual only[go_sem];by_cases hp:(l.drop a).take s.length=s
     ·have e1:((l.drop a).take s.length == s)=true:=beq_iff_eq.2 hp;by_cases hb:b.length<s.length
      ·have d1:((b.length:Int)<(s.length:Int))=True:=Jq;rw[if_pos ⟨hp,hb⟩]at Aa;simp +contextual only[go_sem,e1,d1];refine⟨Jh,(i+1,s),⟨by simp only;omega,Aa⟩,by simp only;omega,rfl,?_⟩;simp[forget]
      ·have d1:((b.length:Int)<(s.length:Int))=False:=Jo;rw[if_neg (λh=>hb h.2)]at Aa;simp +contextual only[go_sem,e1,d1];refine⟨Jh,(i+1,b),⟨by simp only;omega,Aa⟩,by simp only;omega,rfl,?_⟩;simp[forget]
     ·have e1:((l.drop a).take s.length == s)=false:=beq_eq_false_iff_ne.2 hp;rw[if_neg (λh=>hp h.1)]at Aa;simp +contextual only[go_sem,e1];refine⟨Jh,(i+1,b),⟨by simp only;omega,Aa⟩,by simp only;omega,rfl,?_⟩;simp[forget]
    ·have:i=sgs.length:=by omega
     subst this;rw[List.drop_length]at Aa;rw[Aa];simp +contextual only[go_sem,tkV,lxz,sgnF]
def knd (l:List UInt8):Option Nat:=
 if l=[] then none else if isGp (l.getD 0 0)=true then none
 else if (tkL l 0).2.2=true/\(tkL l 0).2.1=l then some (tkL l 0).1 else none
def kndV:Option Nat->CV
 |some k=>.tup [.int .u8 k,.int .i64 0]
 |none=>.tup [.int .u8 0,.int .i64 4]
theorem lexKind (l:List UInt8)(hl:l.length<=1000000):Fn Ga 208 [S l] (kndV (knd l)):=by
 refine Jc c208_ok rfl (by unfold kndV;split <;> rfl) λN=>?_
 by_cases h0:l=[]
 ·have e0:(l == [])=true:=beq_iff_eq.2 h0;have hk:knd l=none:=by unfold knd;rw[if_pos h0]
  rw[hk];simp +contextual only[c208,go_sem,e0,kndV]
 ·have e0:(l == [])=false:=beq_eq_false_iff_ne.2 h0;have Iq:0<l.length:=List.length_pos_iff.2 h0;simp +contextual only[c208,go_sem,e0];refine anO ?_;refine Kb (gok rfl) (lexIsGap _) ?_
  cases h1:isGp (l.getD 0 0) with
  |true=>
   have hk:knd l=none:=by unfold knd;rw[if_neg h0,if_pos h1]
   rw[hk];simp +contextual only[go_sem,kndV]
  |false=>
   simp +contextual only[go_sem];refine J6 (tokenL l 0 Iq hl) ?_;unfold tkV;have hk:knd l=if (tkL l 0).2.2=true/\(tkL l 0).2.1=l then some (tkL l 0).1 else none:=by
    unfold knd;rw[if_neg h0,if_neg (by rw[h1];simp)]
   rw[hk];obtain⟨k,x,b⟩:=tkL l 0;simp +contextual only[go_sem,lxz,splice]
   cases b with
   |false=>
    simp +contextual only[go_sem];simp[kndV]
   |true=>
    by_cases hx:x=l
    ·have ex:(x == l)=true:=beq_iff_eq.2 hx;simp +contextual only[go_sem,ex];simp[kndV,hx]
    ·have ex:(x == l)=false:=beq_eq_false_iff_ne.2 hx;simp +contextual only[go_sem,ex];simp[kndV,hx]
def Jdt (l:List UInt8):Bool:=isLt (l.getD 0 0) && l.all KZ && !kws.contains l && decide (l.length<=12) && !(l == [])
theorem Jb3 {q:UInt8->Bool}{l:List UInt8}:cut l 0 (Q0 q l 0)=l↔l.all q=true:=by
 have e:cut l 0 (Q0 q l 0)=l.takeWhile q:=by
  unfold cut Q0;simp only[List.drop_zero,GG];exact(GK.1 (GL q)).symm
 rw[e]
 constructor
 ·intro h;rw[<-h];exact GN
 ·intro h;have:∀l:List UInt8,l.all q=true->l.takeWhile q=l:=by
   intro l
   induction l with
   |nil=>intro _;rfl
   |cons a l ih=>
    intro h;simp only[List.all_cons,Gm]at h;rw[Gw,if_pos h.1,ih h.2]
  exact this l h
theorem lt_gp {c:UInt8}(h:isLt c=true):isGp c=false:=by
 simp only[isLt,Gm,decide_eq_true_eq]at h;simp only[isGp,isBk,GI,beq_eq_false_iff_ne];refine⟨⟨?_,?_⟩,?_⟩ <;> (rintro rfl;revert h;decide)
theorem knd_name (l:List UInt8):(knd l == some 2)=Jdt l:=by
 rw[Gf,beq_iff_eq];unfold knd Jdt;by_cases h0:l=[]
 ·simp[h0]
 rw[if_neg h0];by_cases h1:isLt (l.getD 0 0)=true
 ·have hg:=lt_gp h1;rw[if_neg (by rw[hg];simp)];have hT:tkL l 0=if kws.contains (cut l 0 (Q0 KZ l 0))=true then(1,cut l 0 (Q0 KZ l 0),true) else(2,cut l 0 (Q0 KZ l 0),decide ((cut l 0 (Q0 KZ l 0)).length<=12)):=by
   unfold tkL;rw[if_pos h1]
  by_cases hf:cut l 0 (Q0 KZ l 0)=l
  ·rw[hf]at hT;have ha:=Jb3.1 hf;rw[hT,h1]
   cases hk:kws.contains l <;> simp[h0,ha]
  ·have ha:l.all KZ=false:=by
    cases h:l.all KZ with
    |false=>rfl
    |true=>exact absurd (Jb3.2 h) hf
   rw[hT]
   cases hk:kws.contains (cut l 0 (Q0 KZ l 0)) <;> simp[hf,ha]
 ·have Dx:isLt (l.getD 0 0)=false:=by simpa using h1
  rw[Dx];simp only[GJ,Bool.false_eq_true,iff_false]
  split
  ·simp
  ·split
   ·unfold tkL;rw[if_neg h1]
    split <;> simp
   ·simp
theorem isNameW (l:List UInt8)(hl:l.length<=1000000):Fn Ga 182 [S l] (.bool (Jdt l)):=by
 refine Jc c182_ok rfl rfl λN=>?_
 simp +contextual only[c182,go_sem];refine J6 (lexKind l hl) ?_;rw[<-knd_name]
 cases h:knd l with
 |none=>simp +contextual only[go_sem,kndV];rfl
 |some k=>
  simp +contextual only[go_sem,kndV]
  congr 1
  rw[Gf];simp;omega
theorem within (a b n:Int):Fn Ga 163 [.int .i64 a,.int .i64 b,.int .i64 n] (.bool (inI a b n)):=by
 refine Jc c163_ok rfl rfl λN=>?_
 simp +contextual only[c163,go_sem,inI]
def cntdV (k:Nat):CV:=if k=40 then .tup [S [83],.bool true] else if k=41 then .tup [S [98],.bool true] else if k=28 then .tup [S [73],.bool true] else if k=65 then .tup [S [80],.bool true] else .tup [S [],.bool false]
theorem counted (k:Nat):Fn Ga 183 [.int .u8 k] (cntdV k):=by
 unfold cntdV
 split
 ·subst_vars
  refine Jc c183_ok rfl rfl λN=>?_
  simp +contextual only[c183,go_sem,Gd]
 ·rename_i Eb;have e40:=kb (m:=40) Eb;simp only[Gd]at e40
  split
  ·subst_vars
   refine Jc c183_ok rfl rfl λN=>?_
   simp +contextual only[c183,go_sem,Gd]
  ·rename_i Bq;have e41:=kb (m:=41) Bq;simp only[Gd]at e41
   split
   ·subst_vars
    refine Jc c183_ok rfl rfl λN=>?_
    simp +contextual only[c183,go_sem,Gd]
   ·rename_i DW;have e28:=kb (m:=28) DW;simp only[Gd]at e28
    split
    ·subst_vars
     refine Jc c183_ok rfl rfl λN=>?_
     simp +contextual only[c183,go_sem,Gd]
    ·rename_i Bz;have e65:=kb (m:=65) Bz;simp only[Gd]at e65;refine Jc c183_ok rfl rfl λN=>?_
     simp +contextual only[c183,go_sem,e40,e41,e28,e65]
theorem many1 (c:UInt8)(hv:List UInt8)(hl:hv.length<=1000):Fn Ga 179 [S [c],.rptr [S hv]] (S (Gz (Ql c hv) c)):=by
 refine Jc c179_ok rfl rfl λN=>?_
 simp +contextual only[c179,go_sem];refine J6 (countL hv c) ?_;simp +contextual only[go_sem];refine J6 (repeatL c (Ql c hv) (by have:=cntB_le c hv;omega)) ?_;simp +contextual only[go_sem]
theorem many2 (c:UInt8)(a b:Int)(hv:List UInt8):Fn Ga 184 [S [c],.int .i64 a,.int .i64 b,.rptr [S hv]] (.bool (inI a b (Ql c hv))):=by
 refine Jc c184_ok rfl rfl λN=>?_
 simp +contextual only[c184,go_sem];refine J6 (countL hv c) ?_;simp +contextual only[go_sem];refine J6 (within _ _ _) ?_;simp +contextual only[go_sem]
theorem expectedL (x:Nd)(hv:List UInt8)(hl:hv.length<=1000):Fn Ga 162 [.agg x.cv,S hv] (S (KX x.k hv)):=by
 obtain⟨k,text,n,kids,pl⟩:=x;have Ej:=λc=>cntB_le c hv
 simp only[Nd.cv];by_cases hA:4<=k/\k<=24
 ·have f1:((4:Int)<=(k:Int))=True:=Jq;by_cases hB:k<=18
  ·have f2:((k:Int)<=18)=True:=Jq;rw[show KX k hv=[101,101] by simp only[KX];rw[if_pos (by omega)]];refine fcS c162_ok λN=>?_
   simp (maxSteps:=2000000) -implicitDefEqProofs only[c162,go_sem,f1,f2]
  ·have f2:((k:Int)<=18)=False:=Jo;have f3:((19:Int)<=(k:Int))=True:=Jq;have f4:((k:Int)<=24)=True:=Jq;rw[show KX k hv=[101] by simp only[KX];rw[if_neg (by omega),iP7]];refine fcS c162_ok λN=>?_
   simp (maxSteps:=2000000) -implicitDefEqProofs only[c162,go_sem,f1,f2,f3,f4]
 by_cases hC:k=42
 ·subst hC;have e1:(([]:List UInt8) == [])=true:=rfl;have e2:∀(a:UInt8) l,(a::l == [])=false:=λ_ _=>rfl
  cases hv <;> (refine fcS c162_ok λN=>?_;simp (maxSteps:=2000000) -implicitDefEqProofs only[c162,go_sem,Gd,e1,e2];simp[KX])
 by_cases hD:k=43\/k=44\/k=25\/k=62\/k=63\/k=64\/k=26\/k=45\/k=27\/k=28\/k=29\/k=40\/k=41\/k=46\/k=47\/k=65
 rotate_left
 ·simp only[not_or]at hD;rw[show KX k hv=[] by simp only[KX];repeat rw[if_neg (by first|omega|exact λh=>hC h.1)]];have f2:((k:Int)<=18)=(k<4):=propext (by omega);have f3:((4:Int)<=(k:Int))=¬k<4:=propext (by omega);have f4:((19:Int)<=(k:Int))=¬k<4:=propext (by omega);have f5:((k:Int)<=24)=(k<4):=propext (by omega);by_cases h4:k<4 <;> (refine fcS c162_ok λN=>?_;simp (maxSteps:=2000000) -implicitDefEqProofs only[c162,go_sem,f2,f3,f4,f5,h4,kbo,hD,hC,not_true_eq_false,not_false_eq_true])
 rcases hD with rfl|rfl|rfl|rfl|rfl|rfl|rfl|rfl|rfl|rfl|rfl|rfl|rfl|rfl|rfl|rfl <;> (
  refine fcS c162_ok λN=>?_
  repeat first
   |refine Jd (id:=1) (z:=1) (els:=[[S hv]]) rfl rfl ?_;simp only[go_sem,Ku,frz,JX,Qa]
   |refine vr_fvS (l1:=[]) (l2:=[.rptr [S hv]]) (args:=[S [_]]) c179_ok nm (many1 _ hv hl) rfl rfl Jey ?_
   |refine⟨by have h1:=Ej 73;have h2:=Ej 83;have h3:=Ej 78;have h4:=Ej 99;have h5:=Ej 101;have h6:=Ej 98;have h7:=Ej 80;have h8:=Ej 116;simp;omega,?_⟩
   |simp (maxSteps:=2000000) -implicitDefEqProofs only[c162,go_sem,Gd,List.length_replicate]
  all_goals first|rfl|simp[KX])
theorem sizedL (x:Nd)(hv:List UInt8):Fn Ga 165 [.agg x.cv,S hv] (.bool (QN x.k x.n hv)):=by
 obtain⟨k,text,n,kids,pl⟩:=x;simp only[Nd.cv];by_cases hD:k=65\/k=26\/k=40\/k=45\/k=41\/k=28\/k=29\/k=48\/k=47
 rotate_left
 ·simp only[not_or]at hD;rw[show QN k n hv=true by simp only[QN];repeat rw[if_neg (by omega)]];refine fcS c165_ok λN=>?_
  simp (maxSteps:=2000000) -implicitDefEqProofs only[c165,go_sem,kbo,hD,not_false_eq_true]
 rcases hD with rfl|rfl|rfl|rfl|rfl|rfl|rfl|rfl|rfl <;> (
  refine fcS c165_ok λN=>?_
  simp only[QN]
  repeat first
   |refine Jd (id:=1) (z:=1) (els:=[[S hv]]) rfl rfl ?_;simp only[go_sem,Ku,frz,JX,Qa]
   |refine vr_fvSB (l1:=[]) (l2:=[.rptr [S hv]]) (args:=[S [_],.int .i64 _,.int .i64 _]) c184_ok nm (many2 _ _ _ hv) rfl rfl (by first|exact Jey|exact gokS rfl) (λB hb=>?_);try simp only[hb];clear hb;cases B
   |refine YG (within 0 100 n) rfl (by first|exact Jey|exact gokS rfl) ?_
   |refine YG (within 1 9 n) rfl Jey ?_
   |simp (maxSteps:=2000000) -implicitDefEqProofs only[c165,go_sem,Gd]
  all_goals simp)
def fldI (nmd:Bool)(k:Nat)(text:List UInt8)(n:Int)(hv:List UInt8):Bool:=QW nmd k text && QS k n hv
theorem fieldsL (x:Nd)(hv:List UInt8)(nmd:Bool)(hn:Fn Ga 182 [S x.text] (.bool nmd)):Fn Ga 164 [.agg x.cv,S hv] (.bool (fldI nmd x.k x.text x.n hv)):=by
 obtain⟨k,text,n,kids,pl⟩:=x;simp only at hn;simp only[Nd.cv];by_cases hC:(k=3\/k=26\/k=42\/k=43\/k=44\/k=47\/k=64\/k=65\/k=48\/k=40\/k=41\/k=28\/k=1\/k=2\/k=29)
 rotate_left
 ·rw[show fldI nmd k text n hv=(text == [] && n == 0) by simp only[fldI,QW,QS];repeat rw[if_neg (by omega)]];have hE:=counted k;rw[show cntdV k=.tup [S [],.bool false] by simp only[cntdV];repeat rw[if_neg (by omega)]]at hE;simp only[not_or]at hC;refine fcS c164_ok λN=>?_
  cases t1:text == [] <;> repeat first
   |simp (maxSteps:=2000000) -implicitDefEqProofs only[c164,go_sem,t1,kbo,hC,not_false_eq_true]
   |refine YG hE rfl Jey ?_
 rcases hC with rfl|rfl|rfl|rfl|rfl|rfl|rfl|rfl|rfl|rfl|rfl|rfl|rfl|rfl|rfl <;> (
  refine fcS c164_ok λN=>?_
  simp only[fldI,QW,QS]
  repeat first
   |refine YG hn rfl Jey ?_;cases nmd
   |refine YG (within 0 1000000000 n) rfl Jey ?_
   |refine YG (within 0 1 n) rfl Jey ?_
   |refine JV Js (by decide) ?_
   |refine J9 (.inl rfl) (countL hv _) ?_
   |simp (maxSteps:=2000000) -implicitDefEqProofs only[c164,go_sem,Gd,cntdV,Nat.reduceEqDiff,if_true,if_false]
   |rcases GH (text == []) with hb|hb <;> rw[hb]
   |rcases GH (text == [35]) with hb|hb <;> rw[hb]
   |refine YG (counted 3) rfl Jey ?_
   |refine YG (counted 26) rfl Jey ?_
   |refine YG (counted 42) rfl Jey ?_
   |refine YG (counted 43) rfl Jey ?_
   |refine YG (counted 44) rfl Jey ?_
   |refine YG (counted 47) rfl Jey ?_
   |refine YG (counted 64) rfl Jey ?_
   |refine YG (counted 65) rfl Jey ?_
   |refine YG (counted 48) rfl Jey ?_
   |refine YG (counted 40) rfl Jey ?_
   |refine YG (counted 41) rfl Jey ?_
   |refine YG (counted 28) rfl Jey ?_
   |refine YG (counted 1) rfl Jey ?_
   |refine YG (counted 2) rfl Jey ?_
   |refine YG (counted 29) rfl Jey ?_
  all_goals first|simp|simp_all)
end Go.Cm
end
section
open Go.Shelf Go.RowKit Go.Proofs
namespace Go.Cm
theorem letter_lt (k:Nat):letter k<256:=by
 unfold letter
 repeat' split
 all_goals omega
theorem fnSort (k:Nat)(hk:k<256):Fn Ga 161 [.int .u8 k] (.int .u8 (letter k)):=by
 refine Jc c161_ok rfl rfl λN=>?_
 rcases (show (1<=k/\k<=29)\/(60<=k/\k<=63)\/(30<=k/\k<=39)\/(49<=k/\k<=59)\/66<=k\/k=0\/k=46\/k=47\/k=40\/k=41\/k=42\/k=43\/k=44\/k=45\/k=48\/k=64\/k=65 by omega) with h|h|h|h|h|rfl|rfl|rfl|rfl|rfl|rfl|rfl|rfl|rfl|rfl|rfl|rfl
 ·have e:letter k=101:=by unfold letter;rw[if_pos h]
  simp -implicitDefEqProofs only[c161,go_sem,e,show decide ((1:Int)<=(k:Int))=true from decide_eq_true (by omega),show decide ((k:Int)<=29)=true from decide_eq_true (by omega)]
  first|done|rfl
 ·have e:letter k=116:=by unfold letter;rw[iN7,if_pos h]
  simp -implicitDefEqProofs only[c161,go_sem,e,show decide ((1:Int)<=(k:Int))=true from decide_eq_true (by omega),show decide ((k:Int)<=29)=false from decide_eq_false (by omega),show decide ((60:Int)<=(k:Int))=true from decide_eq_true (by omega),show decide ((k:Int)<=63)=true from decide_eq_true (by omega)]
  first|done|rfl
 ·have e:letter k=32:=by unfold letter;repeat rw[iN7]
  simp -implicitDefEqProofs only[c161,go_sem,e,show decide ((1:Int)<=(k:Int))=true from decide_eq_true (by omega),show decide ((k:Int)<=29)=false from decide_eq_false (by omega),show decide ((60:Int)<=(k:Int))=false from decide_eq_false (by omega),show decide ((40:Int)<=(k:Int))=false from decide_eq_false (by omega),kbo (show ¬k=46 by omega),kbo (show ¬k=47 by omega),kbo (show ¬k=64 by omega),kbo (show ¬k=65 by omega)]
  first|done|rfl
 ·have e:letter k=32:=by unfold letter;repeat rw[iN7]
  simp -implicitDefEqProofs only[c161,go_sem,e,show decide ((1:Int)<=(k:Int))=true from decide_eq_true (by omega),show decide ((k:Int)<=29)=false from decide_eq_false (by omega),show decide ((60:Int)<=(k:Int))=false from decide_eq_false (by omega),show decide ((40:Int)<=(k:Int))=true from decide_eq_true (by omega),show decide ((k:Int)<=48)=false from decide_eq_false (by omega),kbo (show ¬k=46 by omega),kbo (show ¬k=47 by omega),kbo (show ¬k=64 by omega),kbo (show ¬k=65 by omega)]
  first|done|rfl
 ·have e:letter k=32:=by unfold letter;repeat rw[iN7]
  simp -implicitDefEqProofs only[c161,go_sem,e,show decide ((1:Int)<=(k:Int))=true from decide_eq_true (by omega),show decide ((k:Int)<=29)=false from decide_eq_false (by omega),show decide ((60:Int)<=(k:Int))=true from decide_eq_true (by omega),show decide ((k:Int)<=63)=false from decide_eq_false (by omega),show decide ((40:Int)<=(k:Int))=true from decide_eq_true (by omega),show decide ((k:Int)<=48)=false from decide_eq_false (by omega),kbo (show ¬k=46 by omega),kbo (show ¬k=47 by omega),kbo (show ¬k=64 by omega),kbo (show ¬k=65 by omega)]
  first|done|rfl
 all_goals simp (config:={implicitDefEqProofs:=false}) [c161,go_sem,letter] <;> exact⟨by decide,by decide⟩
theorem calls_of_fn {P:Program}{f:Nat}{args:List CV}{v:CV}(h:Fn P f args v)(hv:v.closed=true){w:World}{imm:Nat->Nat->Option Value}(Mt:∀B i x,imm B i=some x->w.cell? ⟨B,i,none⟩=some x)(Bh:∀B i x,imm B i=some x->x.oneCell'=true){vs:Array Value}(BA:JP [] imm args vs.toList)(A9:GLw w) :
  Calls P f vs w λe w'=>(∃r imm',Kv imm imm'/\rel [] imm' v r/\e=.returned r)/\Below w.heap.size w w':=by
 have hs:Sim Env.none { own:=[],imm:=imm,ext:=λ_=>False } [] w:=⟨rfl,by simp,Mt,Bh,by simp,by simp,by simp,by simp,λB h=>A9.lt (h.resolve_left id),A9,by simp⟩;refine((h Env.none [] _ w vs hs BA).calls λk=>Jd7 none k).mono ?_;rintro e w' ⟨r,m',v',H',rfl,Ae,Az,Ao,rfl,rfl⟩;have BN:∀B,¬owned { own:=[],imm:=imm,ext:=λ_=>False } [] B:=by
  rintro B (h|⟨k,o,x,hk,_⟩)
  ·exact h
  ·simp at hk
 exact⟨⟨r,m'.imm,Ae.imm,Qe _ _ hv Ao,rfl⟩,Ae.same.1,Ae.same.2.2,Ae.same.2.1,Ae.size,λk hk=>Ae.frame k hk (BN k)⟩
end Go.Cm
namespace Go.Proofs
def Tryz.bRen:Go.Shelf.Ren:=⟨λn=>if n=167 then 177 else Tryz.lays105_ren.f n,Tryz.lays105_ren.t,Tryz.lays105_ren.g⟩
theorem Tryz.bLays167:Lays.n167 Ga Tryz.bRen:={ Tryz.lays105 with f167:=Tryz.func177.trans (congrArg some (by kernel_rfl)) }
theorem Tryz.bLays169:Lays.n169 Ga Tryz.bRen:={ Tryz.lays105 with }
theorem Tryz.bExtra:Builder.Extra Ga Tryz.bRen:={
 sizeBuilder:=by kernel_rfl
 liesBuilder:=by kernel_rfl
 t5:=Tryz.underlying5
 a5:=Tryz.isAgg5
 z5:=Tryz.sizeOf5
 v5:=Tryz.zeroValue5
 infoByte:=by kernel_rfl
 cellsByte:=by kernel_rfl
 sizeByte:=by kernel_rfl
 neB5:=by decide }
theorem Tryz.WriteByte (B b:Nat)(bs:List Value)(c:Int)(w:World)(h:Lib.IsBuilder 187 5 B b bs w)(Ad:bs.length+1<=140737488355328)(aI:B<=w.heap.size) :
  Calls Ga 177 #[.pointer (some ⟨b,0,none⟩),.int .u8 c] w λe w'=>e=.returned .nilIface/\(Lib.BuilderAt 187 5 B b (.pointer (some ⟨b,0,none⟩)) (bs++[.int .u8 c]) w'/\Below B w w'):=
 Any.Builder_WriteByte Tryz.bLays167 Tryz.bExtra B b bs c w h Ad aI
theorem Tryz.BString (B b:Nat)(l:List UInt8)(w:World)(h:Lib.IsBuilder 187 5 B b (Lib.byteCells l) w)(aI:B<=w.heap.size) :
  Calls Ga 178 #[.pointer (some ⟨b,0,none⟩)] w λe w'=>e=.returned (.string ⟨l.toArray⟩)/\Below B w w':=
 Any.Builder_String_any Tryz.bLays169 Tryz.bExtra B b l w h aI
theorem Tryz.bat_below {T e:TypeId}{B b:Nat}{p:Value}{bs:List Value}{W W':World}(h:Lib.BuilderAt T e B b p bs W)(hb:Below W.heap.size W W'):Lib.BuilderAt T e B b p bs W':=by
 obtain⟨hB,v,hv,CF,Ah⟩:=h;have Ab:b<W.heap.size:=(Array.getElem?_eq_some_iff.1 hv).1;exact⟨hB,v,(hb.block b Ab).trans hv,CF.kept (row:=none) ⟨hb.os,hb.tape,hb.output,hb.size,λk hk _=>hb.block k hk⟩ (Classical.em _),Ah⟩
theorem Tryz.isb_below {T e:TypeId}{B b:Nat}{bs:List Value}{W W':World}(h:Lib.IsBuilder T e B b bs W)(hb:Below W.heap.size W W'):Lib.IsBuilder T e B b bs W':=
 h.elim (λx=>.inl (Tryz.bat_below x hb)) (λx=>.inr (Tryz.bat_below x hb))
theorem Tryz.cell_lt {w:World}{a:Addr}{v:Value}(h:w.cell? a=some v):a.block<w.heap.size:=by
 rcases Nat.lt_or_ge a.block w.heap.size with h'|h'
 ·exact h'
 ·rw[World.cell?,Array.getElem?_eq_none h']at h;simp at h
def Tryz.letters (ds:List Nat):List UInt8:=ds.map λd=>UInt8.ofNat (Go.Cm.letter d)
theorem Tryz.letters_take (ds:List Nat)(j d:Nat)(h:ds[j]? = some d):Tryz.letters (ds.take (j+1))=Tryz.letters (ds.take j)++[UInt8.ofNat (Go.Cm.letter d)]:=by
 rw[List.take_add_one,h];simp[Tryz.letters]
open Go.Cm in
set_option maxHeartbeats 4000000 in
set_option maxRecDepth 100000 in
theorem Tryz.sorts_walk (np kp:Option Addr)(nl nc kl kc:Nat)(items n0 n1 n2 n4:Value)(ds:List Nat)(w:World)(fU:GLw w)(Bi:ds.length=kl)(Ms:∀k∈ds,k<256)
  (C9:kl<140737488355328)
  (BQ:∀j d,ds[j]? = some d->∃bn no bk ko k,np=some ⟨bn,no,none⟩/\kp=some ⟨bk,ko,none⟩/\k<nl/\w.cell? ⟨bk,ko+j,none⟩=some (.int .i64 (k:Nat))/\w.cell? ⟨bn,no+k*5,none⟩=some (.int .u8 (d:Nat))) :
  Calls Ga 160 #[.agg #[.slice np nl nc,items],.agg #[n0,n1,n2,.slice kp kl kc,n4]] w λe w'=>e=.returned (.string ⟨(Tryz.letters ds).toArray⟩)/\Below w.heap.size w w':=by
 have HK:Hid (∀j d,ds[j]? = some d->∃bn no bk ko k,np=some ⟨bn,no,none⟩/\kp=some ⟨bk,ko,none⟩/\k<nl/\w.cell? ⟨bk,ko+j,none⟩=some (.int .i64 (k:Nat))/\w.cell? ⟨bn,no+k*5,none⟩=some (.int .u8 (d:Nat))):=BQ;have HD:Hid (∀k∈ds,k<256):=Ms;clear BQ Ms
 go_enter Tryz.func160,Tryz.ntmps160
 go_wp2
 go_loopw [11] (λv wr=>∃j:Nat,j<=kl/\v=.int .i64 j/\Lib.IsBuilder 187 5 (w.heap.size+2) (w.heap.size+2) (Lib.byteCells (Tryz.letters (ds.take j))) wr/\wr.cell? ⟨w.heap.size,0,none⟩=some (.slice np nl nc)/\Below w.heap.size w wr/\w.heap.size+2<=wr.heap.size) (λi _=>kl-(intOf i).toNat)
 case atStart=>
  refine⟨0,Nat.zero_le _,rfl,?_,?_,?_,?_⟩
  ·simpa [Tryz.letters,Lib.byteCells]using Lib.fresh_isBuilder 187 5 ((w.alloc (.cells #[.slice np nl nc,items] 25)).alloc (.cells #[n0,n1,n2,.slice kp kl kc,n4] 35))
  ·simp[go_sem]
  ·exact(((Below.refl _ w).alloc (Gl _) _).alloc (by simp) _).alloc (by simp;omega) _
  ·simp
 case round=>
  obtain⟨j,hj,rfl,hI,hT,Pm,Bt⟩:=hrel;have HI:Hid (Lib.IsBuilder 187 5 (w.heap.size+2) (w.heap.size+2) (Lib.byteCells (Tryz.letters (ds.take j))) wr):=hI;clear hI;by_cases Ab:j<kl
  ·obtain⟨d,hd⟩:∃d,ds[j]? = some d:=⟨ds[j],Gb (by omega)⟩;have RY:=HD.out d (Gp hd);obtain⟨bn,no,bk,ko,k,rfl,rfl,hk,h1,h2⟩:=HK.out j d hd;have Dx:wr.cell? ⟨bk,ko+j,none⟩=some (.int .i64 (k:Nat)):=(Pm.cell (Tryz.cell_lt h1)).trans h1;have Fv:wr.cell? ⟨bn,no+k*5,none⟩=some (.int .u8 (d:Nat)):=(Pm.cell (Tryz.cell_lt h2)).trans h2;clear h1 h2;have HD2:Hid (ds[j]? = some d):=hd;clear hd
   go_wp2_with (go_at_call 161;refine(calls_of_fn (imm:=λ_ _=>none) (fnSort d RY) rfl (by simp) (by simp) (by simp[JP,rel]) (Tryz.GLw_below fU Pm)).mono ?_)
   rintro e W1 ⟨⟨r,imm',_,hr,rfl⟩,b1⟩;simp[rel]at hr;subst hr;have HI1:=HI.out;have b2:=Pm.trans (b1.mono Pm.size);have HB:Hid (Lib.IsBuilder 187 5 (w.heap.size+2) (w.heap.size+2) (Lib.byteCells (Tryz.letters (ds.take j))) W1):=Tryz.isb_below HI1 b1;have ib:W1.cell? ⟨w.heap.size,0,none⟩=some (.slice (some ⟨bn,no,none⟩) nl nc):=(b1.cell (by simp;omega)).trans hT;have Ad:(Lib.byteCells (Tryz.letters (ds.take j))).length+1<=140737488355328:=by rw[Lib.byteCells_length];simp[Tryz.letters];omega
   have Fy:=G5 Bt b1.size;clear HI1
   go_wp2_with (go_at_call 177;refine(Tryz.WriteByte _ _ _ _ _ HB.out Ad Fy).mono ?_)
   rintro e W2 ⟨rfl,dB,b3⟩;have gZ:W2.cell? ⟨w.heap.size,0,none⟩=some (.slice (some ⟨bn,no,none⟩) nl nc):=(b3.cell (by simp)).trans ib;have HB2:Hid (Lib.IsBuilder 187 5 (w.heap.size+2) (w.heap.size+2) (Lib.byteCells (Tryz.letters (ds.take j))++[Value.int IntKind.u8 (letter d:Nat)]) W2):=Or.inr dB;have b4:=b2.trans (b3.mono (by omega));have EB:=G5 Fy b3.size;clear dB b1 b2 b3
   go_wp2
   go_roundw
   case rel=>
    refine⟨j+1,by omega,by go_num,?_,gZ,b4,EB⟩;rw[Tryz.letters_take ds j d HD2.out,Lib.byteCells_append];have:=HB2.out;have hl:letter d % 256=letter d:=Nat.mod_eq_of_lt (letter_lt d);simpa [Lib.byteCells,hl]using this
   case measure=>
    simp[intOf];omega
  ·have A8:j=kl:=by omega
   subst A8;rw[Gs (by omega)]at HI
   go_wp2_with (go_at_call 178;refine(Tryz.BString _ _ _ _ HI.out Bt).mono ?_)
   rintro e W1 ⟨rfl,b1⟩
   go_wp2
   go_ret
   exact⟨rfl,Pm.trans (b1.mono (by omega))⟩
end Go.Proofs
namespace Go.Cm
theorem sortsL (t:Tr)(x:Nd)(hx:x.Fit)(hn:∀y∈t.nodes,y.k<256)(hk:∀k∈x.kids,0<=k/\k<t.nodes.length):Fn Ga 160 [.agg [.rslc 5 (ndz t.nodes) none,.rslc 1 (iz t.items) none],.agg x.cv] (S (lets t.nodes x)):=by
 intro E H;refine KN λm w vs hs hv=>?_
 simp only[JP,rel,Nd.cv]at hv;obtain⟨_,_,e0,⟨t1,rfl,r1,_,e1,Ow,r2,_,rfl,MW,rfl⟩,_,_,rfl,⟨t2,rfl,s0,_,e2,EE,s1,_,rfl,Ew,s2,_,rfl,Im,s3,_,rfl,BD,s4,_,rfl,Pb,rfl⟩,rfl⟩:=hv;have dV:t1=#[r1,r2]:=by cases t1;simp_all
 have SG:t2=#[s0,s1,s2,s3,s4]:=by cases t2;simp_all
 have BA:vs=#[.agg t1,.agg t2]:=by cases vs;simp_all
 subst dV SG BA;have Rj:∃np nl nc,r1=.slice np nl nc/\∀(k:Nat),k<t.nodes.length->k<nl/\∃B o,np=some ⟨B,o,none⟩/\w.cell? ⟨B,o+k*5,none⟩=some (.int .u8 (Jv t.nodes k:Nat)):=by
  rcases Ow with ⟨_,h0,b,rfl⟩|⟨B,o,c,rfl,_,_,ET⟩
  ·refine⟨b,0,0,rfl,λk hk=>?_⟩;have:=congrArg Gr h0;rw[Jb]at this;simp at this;rw[this]at hk;simp at hk
  ·refine⟨_,_,_,rfl,λk hk=>⟨by rw[Jb];exact hk,B,o,rfl,?_⟩⟩;have hg:(ndz t.nodes)[k]? = some (t.nodes.getD k default).cv:=by
    simp[ndz,Gc,Gb hk]
   have h1:=((Qd _ o).1 ET k _ hg).2;obtain⟨r,hr,BS⟩:=h1 0 _ rfl;simp only[rel]at BS;subst BS;exact hs.imm _ _ _ hr
 obtain⟨np,nl,nc,rfl,hN⟩:=Rj;have Dk:∃kp kc,s3=.slice kp x.kids.length kc/\∀(j:Nat) k,x.kids[j]? = some k->∃B o,kp=some ⟨B,o,none⟩/\w.cell? ⟨B,o+j,none⟩=some (.int .i64 k):=by
  rcases BD with ⟨_,he,b,rfl⟩|⟨B,o,c,rfl,_,_,RQ⟩
  ·have BQ:x.kids=[]:=by
    have:=congrArg Gr he;rw[Jg]at this;simpa using this
   exact⟨b,0,by rw[BQ];rfl,λj k hj=>by simp[BQ]at hj⟩
  ·refine⟨_,c,by rw[Jg],λj k hj=>⟨B,o,rfl,?_⟩⟩;have D9:(iz x.kids)[j]? = some [CV.int .i64 k]:=by simp[iz,hj]
   have h1:=((Qd _ o).1 RQ j _ D9).2;obtain⟨r,hr,BS⟩:=h1 0 _ rfl;simp only[rel]at BS;subst BS;have:=hs.imm _ _ _ hr;simpa using this
 obtain⟨kp,kc,rfl,hK⟩:=Dk;have BJ:=hx.kidn;refine⟨_,Tryz.sorts_walk np kp nl nc x.kids.length kc r2 s0 s1 s2 s4 (x.kids.map (Jv t.nodes)) w hs.gl.1 (by simp) (λd hd=>?_) (by omega) (λj d hj=>?_),?_⟩
 ·obtain⟨k,BR,rfl⟩:=List.mem_map.1 hd;have:=hk k BR;refine hn _ ?_;have Ab:k.toNat<t.nodes.length:=by omega
  rw[Gc,Gb Ab];exact Gt Ab
 ·rw[List.getElem?_map]at hj
  cases EK:x.kids[j]? with
  |none=>rw[EK]at hj;cases hj
  |some k=>
   rw[EK]at hj;simp only[Option.map_some,Option.some.injEq]at hj;subst hj;have hr:=hk k (Gp EK);obtain⟨h3,B,o,h4,h5⟩:=hN k.toNat (by omega);obtain⟨B',o',h6,h7⟩:=hK j k EK;refine⟨B,o,B',o',k.toNat,h4,h6,h3,?_,?_⟩
   ·rw[h7,show ((k.toNat:Nat):Int)=k by omega]
   ·rw[h5];simp only[Jv,Int.toNat_natCast]
 ·simp only[rel,lets,Tryz.letters,Jdr,List.map_map];rfl
end Go.Cm
end
section
open Go.Proofs
namespace Go.Cm
def bks (xs:List Int):List (List CV):=(List.range xs.length).map λ(s:Nat)=>[.int .i64 ((xs.length:Int)-1-s),.int .i64 (xs.reverse.getD s 0)]
theorem bks_get {xs:List Int}{s:Nat}(h:s<xs.length):(bks xs)[s]? = some [.int .i64 ((xs.length:Int)-1-s),.int .i64 (xs.reverse.getD s 0)]:=by
 simp[bks,h]
theorem JeT {xs:List Int}:(bks xs).length=xs.length:=by simp[bks]
theorem backward1 (xs:List Int)(Ad:xs.length<=100000):Iter Ga 73 [] [.rptr [.rslc 1 (iz xs) none]] (bks xs):=by
 intro E l hy;refine J8 c73_ok λN=>?_
 simp +contextual only[c73,go_sem,Jg];refine⟨Jh,?_⟩;refine JI (I:=λs:Nat=>s<=xs.length) (inv:=λs=>gp [(0,.yld l),(0,.rptr [.rslc 1 (iz xs) none]),(1,.int .i64 ((xs.length:Int)-1-s))] 15) (hp:=λs=>[.ext s true]) (μ:=λs=>xs.length-s) 0 (by omega) ?_ rfl ?_
 ·simp[forget,gp]
 ·intro s hs;simp +contextual only[go_sem,Jg];refine⟨λh1=>?_,λh1=>?_⟩
  ·have Ab:s<xs.length:=by omega
   have hi:((xs.length:Int)-1-s).toNat=xs.length-1-s:=by omega
   have hg:(iz xs).getD (xs.length-1-s) []=[.int .i64 (xs.reverse.getD s 0)]:=by
    have h2:xs.length-1-s<xs.length:=by omega
    simp[iz,Gc,Gb h2,List.getElem?_reverse Ab]
   rw[hi,hg];refine anO ?_;simp +contextual only[go_sem];refine vr_yield (i:=0) (s:=s) (.inl rfl) rfl hy rfl (λk s b hk=>?_) ?_ rfl λc=>?_
   ·rcases k with _|k
    ·rfl
    ·simp at hk
   ·simp only[go_sem,bks_get Ab]
   ·cases c
    ·simp +contextual only[go_sem];exact .inr ⟨_,rfl⟩
    ·simp +contextual only[go_sem];refine⟨Jh,s+1,by omega,by omega,?_⟩;simp[forget];omega
  ·have:s=xs.length:=by omega
   refine .inl ?_;simp[JeT,this]
theorem backward (xs:List Int):Fn Ga 57 [.rslc 1 (iz xs) none] (.fn 73 [] [.rptr [.rslc 1 (iz xs) none]]):=by
 have main:CallsC Ga Env.none 57 [.rslc 1 (iz xs) none] [] λv H'=>v=.fn 73 [] [.ptr 0 0 0]/\H'=[.arr 1 [[.rslc 1 (iz xs) none]]]:=by
  refine J8 c57_ok λN=>?_
  simp +contextual only[c57,go_sem]
 exact JgS (main.freeze λv H' ⟨h1,h2⟩=>⟨0,1,[[.rslc 1 (iz xs) none]],by rw[h2];rfl,rfl,by rw[h1];simp[frz,JX]⟩) rfl rfl
def JH (l:List Nd):List (List Int):=l.map Nd.kids
theorem Ka {l:List Nd}{i:Nat}(h:i<l.length):(JH l)[i]? = some (l.getD i default).kids:=by
 simp[JH,Gc,Gb h]
theorem Jdj {K:List (List Int)}{i:Nat}{o:List Int}{ks:List Int}(h:Jz (K.take i) []=some o)(hk:K[i]? = some ks):Jz (K.take (i+1)) []=(JdZ o ks).map (λf=>o++[f])/\o.length=i:=by
 have Ab:=(Gg.1 hk).1;have hl:=Qy _ _ _ h;rw[Gi Ab,(Gg.1 hk).2,Jai,h];refine⟨?_,by simpa [GZ (Gh Ab)]using hl⟩;simp only[GD,Jz]
 cases JdZ o ks <;> rfl
theorem Jdk {K:List (List Int)}{i:Nat}(h:Jz (K.take i) []=none):Jz K []=none:=by
 rw[<-Gv i K,Jai,h];rfl
theorem stepF_none {o ks:List Int}{s:Nat}(h:Xh o (ks.reverse.take s) ((o.length:Int)-1)=none):JdZ o ks=none:=by
 unfold JdZ;rw[<-Gv s ks.reverse,Jcw,h];rfl
def JbO (t:Tr)(v:CV)(H':List CObj):Prop:=match Jz (JH t.nodes) []with
 |some o=>∃id,v=.tup [K6 id (iz o),.bool true]/\H'[id]? = some (QO 1 (iz o))
 |none=>v=.tup [.nils,.bool false]
theorem firstsW (t:Tr)(ht:t.Fit):CallsC Ga Env.none 157 [t.cv] [] (JbO t):=by
 have Ai:=ht.many;refine J8 c157_ok λN=>?_
 simp +contextual only[c157,go_sem,Tr.cv,Tr.row];refine XW ?_;simp only[go_sem,Jb];refine Jw (σ:=Nat×List Int) (I:=λs=>s.1<=t.nodes.length/\Jz ((JH t.nodes).take s.1) []=some s.2)
  (inv:=λs=>gp [(2,.ptr 0 0 0),(0,.ptr 1 0 0),(6,.rslc 5 (ndz t.nodes) none),(0,.int .i64 t.nodes.length),(0,.int .i64 s.1)] 30)
  (hp:=λs=>[.arr 1 [[K6 2 (iz s.2)]],.arr 1 [[.bool false]],QO 1 (iz s.2)]) (μ:=λs=>t.nodes.length-s.1) (0,[]) [1,2,3] ⟨by omega,rfl⟩ rfl ?_ rfl ?_
 ·simp[forget,JB,ren,Jm,gp]
 ·rintro⟨i,o⟩ ⟨hi,ho⟩
  dsimp only at hi ho
  simp +contextual only[go_sem,Jb];refine⟨λh=>?_,λh=>?_⟩
  ·have Ab:i<t.nodes.length:=by omega
   have hx:=ht.nodes _ (Gt Ab);have hg:t.nodes.getD i default=t.nodes[i]:=by rw[Gc,Gb Ab];rfl
   obtain⟨Au,Be⟩:=Jdj ho (Ka Ab);have Ap:=QE _ _ _ QX.nil ho;rw[Qu Ab];generalize t.nodes.getD i default=x at Au hg|-;rw[<-hg]at hx;refine⟨by omega,by simp[Nd.cv],?_⟩;simp +contextual only[go_sem,Nd.cv];refine⟨Jh,?_⟩;refine J6 (backward x.kids) ?_;simp +contextual only[go_sem];have BJ:=hx.kidn;refine vr_rfuncJ (xs:=bks x.kids) (Γ:=Int) (λs a=>Xh o (x.kids.reverse.take s) ((i:Int)-1)=some a) (λs a=>[.arr 1 [[K6 2 (iz o)]],.arr 1 [[.bool false]],QO 1 (iz o),.arr 5 [x.cv],.arr 1 [[.int .i64 a]]]) ((i:Int)-1) rfl rfl rfl rfl rfl c73_ok nm (backward1 _ (by omega)) (by simp[bks]) rfl ?_ ?_
   ·intro s a c ha hc;have Di:s<x.kids.length:=by
     have:=(Gg.1 hc).1;rwa [JeT]at this
    rw[bks_get Di]at hc
    cases hc
    have DY:s<x.kids.reverse.length:=by rw[List.length_reverse];exact Di
    have Al:x.kids.reverse.take (s+1)=x.kids.reverse.take s++[x.kids.reverse.getD s 0]:=by
     rw[Gi DY,Gc,Gb DY];rfl
    generalize x.kids.reverse.getD s 0=k at Al|-;have hr:=Jcv Ap _ _ a (by omega) (by omega) ha;have Cy:Xh o (x.kids.reverse.take (s+1)) ((i:Int)-1)=if a<0\/k≠a then none else some (o.getD k.toNat 0-1):=by
     rw[Al,Jcw,ha];simp only[GD,Xh]
    by_cases hc:a<0\/k≠a
    ·rw[if_pos hc]at Cy;have BV:Jz (JH t.nodes) []=none:=by
      refine Jdk (i:=i+1) ?_;rw[Au,stepF_none (s:=s+1) (by rw[Be];exact Cy)];rfl
     by_cases h0:a<0
     ·have d0:(a<0)=True:=eq_true h0;simp +contextual only[go_sem,d0];simp only[JbO,BV]
     ·have d0:(a<0)=False:=eq_false h0;have d1:(k == a)=false:=beq_eq_false_iff_ne.2 (by omega);have d2:(k != a)=true:=by rw[bne,d1];rfl
      simp +contextual only[go_sem,d0,d2];simp only[JbO,BV]
    ·rw[if_neg hc]at Cy;have Dv:k=a:=by omega
     subst Dv;have Ah:iz o≠[]:=by
      intro e;have:=congrArg Gr e;rw[Jg]at this;simp at this;rw[this]at Be;simp at Be;omega
     have d0:(k<0)=False:=Jo;have d2:(k != k)=false:=by simp
     rw[XK Ah,Xu Ah];have Dc:k.toNat<o.length:=by omega
     have hv:=Ap k.toNat o[k.toNat] (Gb Dc);have e:o.getD k.toNat 0=o[k.toNat]:=by simp[Gc,Gb Dc]
     simp +contextual only[go_sem,d0,d2,Jg];rw[JN Dc];refine⟨by omega,⟨by omega,by simp⟩,?_⟩;simp +contextual only[go_sem];refine⟨inr64 (by rw[e];omega) (by rw[e];omega),_,Cy,?_⟩;rfl
   ·intro a ha;rw[JeT]at ha;rw[Gs (by simp)]at ha;have hr:=Jcv Ap _ _ a (by omega) (by omega) ha;have eu:JdZ o x.kids=some (a+1):=by unfold JdZ;rw[Be,ha];rfl
    rw[eu]at Au;simp +contextual only[go_sem,Jy,Jg];refine⟨Jh,⟨by omega,by omega⟩,Jh,(i+1,o++[a+1]),[0,1,6],⟨by simp only;omega,Au⟩,by simp only;omega,rfl,?_,?_⟩
    ·rw[KU,Ko,Kq];simp only[Kl,Gj,Gu,go_sem,Jk];simp[JB,ren,Jm,Jg,Ja (Je o)]
    ·simp[forget,JB,ren,Jm]
  ·have:i=t.nodes.length:=by omega
   subst this;rw[Gs (by simp[JH])]at ho
   cases o with
   |nil=>
    simp only[iz,Gu,Q8,Yc,go_sem];simp only[JbO,ho];exact⟨2,rfl,rfl⟩
   |cons y o=>
    simp only[iz,Gj,Yi,JaH,go_sem];simp only[JbO,ho];exact⟨2,rfl,rfl⟩
theorem firstsS (t:Tr)(ht:t.Fit){o:List Int}(h:Jz (JH t.nodes) []=some o):Fn Ga 157 [t.cv] (.tup [.rslc 1 (iz o) none,.bool true]):=by
 refine fn_of_rowT ?_ rfl (Je o) rfl;have:=firstsW t ht;refine this.mono λv H' hv=>?_
 simpa only[JbO,h]using hv
theorem firstsN (t:Tr)(ht:t.Fit)(h:Jz (JH t.nodes) []=none):Fn Ga 157 [t.cv] (.tup [.nils,.bool false]):=by
 refine JgS ?_ rfl rfl;have:=firstsW t ht;refine this.mono λv H' hv=>?_
 simpa only[JbO,h]using hv
theorem rowg {t:Tr}{i:Nat}(h:i<t.nodes.length):t.nodes.getD i default=t.nodes[i]:=by rw[Gc,Gb h];rfl
theorem areItems (t:Tr)(ht:t.Fit)(o:List Int)(ho:QX o)(hl:o.length=t.nodes.length):Fn Ga 158 [t.cv,.rslc 1 (iz o) none] (.bool (YD o (λi=>Jv t.nodes i == 65) t.nodes.length t.items 0)):=by
 have Ai:=ht.many;have MW:=ht.items;refine Jc c158_ok rfl rfl λN=>?_
 simp +contextual only[c158,go_sem,Tr.cv,Tr.row,Jg];generalize hD:(λi=>Jv t.nodes i == 65)=isD;refine JI (σ:=Nat×Int) (I:=λs=>s.1<=t.items.length/\0<=s.2/\s.2<=t.nodes.length/\YD o isD t.nodes.length t.items 0=YD o isD t.nodes.length (t.items.drop s.1) s.2)
  (inv:=λs=>gp [(1,.rslc 1 (iz o) none),(0,.ptr 0 0 0),(2,.int .i64 s.2),(3,.rslc 1 (iz t.items) none),(0,.int .i64 t.items.length),(0,.int .i64 s.1)] 36)
  (hp:=λ_=>[.arr 2 [t.row]]) (μ:=λs=>t.items.length-s.1) (0,0) ⟨by omega,by simp,by simp,by simp⟩ ?_ rfl ?_
 ·simp[forget,gp]
 ·rintro⟨j,a⟩ ⟨hj,h0,h1,Aa⟩;simp only at hj h0 h1 Aa;simp +contextual only[go_sem,Tr.row,Jg,Jb];refine⟨λh=>?_,λh=>?_⟩
  ·have Ab:j<t.items.length:=by omega
   rw[Gn Ab,YD]at Aa;rw[JN Ab,show t.items.getD j 0=t.items[j] by rw[Gc,Gb Ab];rfl];generalize t.items[j]=i at Aa|-;refine anO ?_;simp +contextual only[go_sem,Jb];refine⟨Jh,?_⟩;refine J6 (within _ _ _) ?_;simp +contextual only[go_sem]
   cases b1:inI a ((t.nodes.length:Int)-1) i with
   |false=>
    rw[b1]at Aa;simp +contextual only[go_sem];rw[Aa];rfl
   |true=>
    rw[b1]at Aa;have hi:a<=i/\i<=(t.nodes.length:Int)-1:=by
     simp only[inI,Gm,decide_eq_true_eq]at b1;exact b1
    have Ak:i.toNat<t.nodes.length:=by omega
    simp +contextual only[go_sem,Jb];rw[Qu Ak];refine anO ?_;simp +contextual only[go_sem,Nd.cv];have hk:isD i=((t.nodes.getD i.toNat default).k == 65):=by rw[<-hD];rfl
    have Aw:(((t.nodes.getD i.toNat default).k:Int) == 65)=isD i:=by
     rw[hk,Gf];simp;omega
    have IE:(((t.nodes.getD i.toNat default).k:Int) != 65) = !isD i:=by rw[bne,Aw]
    rw[IE]
    cases b2:isD i with
    |false=>
     rw[b2]at Aa;simp +contextual only[go_sem];rw[Aa];rfl
    |true=>
     rw[b2]at Aa;simp +contextual only[go_sem,Jg];rw[JN (by omega)];refine anO ?_;simp +contextual only[go_sem];have Ah:(o.getD i.toNat 0 != a) = !(o.getD i.toNat 0 == a):=rfl;rw[Ah]
     cases b3:(o.getD i.toNat 0 == a) with
     |false=>
      rw[b3]at Aa;simp +contextual only[go_sem];rw[Aa];rfl
     |true=>
      rw[b3]at Aa;simp +contextual only[go_sem];refine⟨Jh,Jh,(j+1,i+1),⟨by simp only;omega,by simp only;omega,by simp only;omega,?_⟩,by simp only;omega,?_⟩
      ·simpa using Aa
      ·simp[forget]
  ·have:j=t.items.length:=by omega
   subst this;rw[Aa];simp[YD]
theorem isGreat (t:Tr):Fn Ga 138 [t.cv] (.bool (decide (700<t.nodes.length\/20<t.items.length))):=by
 refine Jc c138_ok rfl rfl λN=>?_
 simp +contextual only[c138,go_sem,Tr.cv,Tr.row,Jg,Jb];refine⟨λh=>?_,λh=>?_⟩
 ·congr 1
  exact decide_eq_decide.2 (by omega)
 ·congr 1
  symm
  rw[decide_eq_true_eq];omega
def mx (a b:Int):Int:=if b > a then b else a
def ownD (deep:List Int)(ks:List Int):Int:=ks.foldl (λa k=>mx a (deep.getD k.toNat 0+1)) 1
def QC:List (List Int)->List Int->List Int
 |[],d=>d
 |ks::K,d=>QC K (d++[ownD d ks])
theorem JeL:∀(x y:List (List Int)) (d:List Int),QC (x++y) d=QC y (QC x d)
 |[],_,_=>rfl
 |k::x,y,d=>by simp only[List.cons_append,QC];exact JeL x y _
theorem Jcp:∀(K:List (List Int)) (d:List Int),(QC K d).length=d.length+K.length
 |[],d=>by simp[QC]
 |k::K,d=>by simp only[QC];rw[Jcp K];simp;omega
def DOk (d:List Int):Prop:=∀v∈d,1<=v/\v<=d.length
theorem mx_le {a b c:Int}(h1:a<=c)(h2:b<=c):mx a b<=c:=by unfold mx;split <;> omega
theorem mx_ge {a b c:Int}(h1:c<=a):c<=mx a b:=by unfold mx;split <;> omega
theorem JgM {d:List Int}{m:Int}(h:∀v∈d,1<=v/\v<=m)(hm:0<=m)(k:Nat):0<=d.getD k 0/\d.getD k 0<=m:=by
 rw[Gc]
 cases hk:d[k]? with
 |none=>simp;omega
 |some v=>
  have:=h v (Gp hk);simp;omega
theorem Jgy {d:List Int}{m:Int}(h:∀v∈d,1<=v/\v<=m)(hm:0<=m):∀(ks:List Int) (a:Int),1<=a->a<=m+1->1<=ks.foldl (λa k=>mx a (d.getD k.toNat 0+1)) a/\ks.foldl (λa k=>mx a (d.getD k.toNat 0+1)) a<=m+1
 |[],a,h1,h2=>⟨h1,h2⟩
 |k::ks,a,h1,h2=>by
  have:=JgM h hm k.toNat;exact Jgy h hm ks _ (mx_ge h1) (mx_le h2 (by omega))
theorem Jg6:∀(K:List (List Int)) (d:List Int),DOk d->DOk (QC K d)
 |[],d,h=>h
 |k::K,d,h=>by
  refine Jg6 K _ λv hv=>?_
  rcases List.mem_append.1 hv with hv|hv
  ·have:=h v hv;simp;omega
  ·simp at hv;have:=Jgy (m:=d.length) (λv hv=>h v hv) (by omega) k 1 (by omega) (by omega);rw[hv];simp only[List.length_append,Gx,Gy];unfold ownD;omega
theorem maxL (x:Int)(l:List Int)(hl:l.length<=100000):Fn Ga 167 [.rslc 1 (iz (x::l)) none] (.int .i64 (l.foldl mx x)):=by
 refine Jc c167_ok rfl rfl λN=>?_
 have d0:(((l.length+1:Nat):Int)<1)=False:=Jo;simp +contextual only[c167,go_sem,Jg,d0];rw[JN (by simp)];refine anO ?_;simp +contextual only[go_sem];refine JI (I:=λi:Nat=>i<=l.length) (inv:=λi=>gp [(0,.rslc 1 (iz (x::l)) none),(2,.int .i64 ((l.take i).foldl mx x)),(0,.int .i64 (i+1:Nat))] 20) (hp:=λ_=>[]) (μ:=λi=>l.length-i) 0 (by omega) ?_ rfl ?_
 ·simp[forget,gp]
 ·intro i hi;simp +contextual only[go_sem,Jg,Gx];refine⟨λh=>?_,λh=>?_⟩
  ·have Ab:i<l.length:=by omega
   rw[JN (by simp;omega)];refine anO ?_;simp +contextual only[go_sem];refine⟨Jh,i+1,by omega,by omega,?_⟩;have hs:(l.take (i+1)).foldl mx x=mx ((l.take i).foldl mx x) (l.getD i 0):=by
    rw[Gi Ab,GQ,Gc,Gb Ab];rfl
   rw[hs];simp[forget,mx]
  ·have:i=l.length:=by omega
   subst this;rw[Gq]
def JaX (t:Tr):Bool:=(QC (JH t.nodes) []).any λv=>decide (30<v)
theorem mx_any (c:Int):∀(l:List Int) (x:Int),c<l.foldl mx x↔(c<x\/(l.any λv=>decide (c<v))=true)
 |[],x=>by simp
 |y::l,x=>by
  rw[List.foldl_cons,mx_any c l (mx x y),GX,Bool.or_eq_true,decide_eq_true_eq,<-or_assoc];refine or_congr ?_ Iff.rfl;unfold mx
  split <;> omega
theorem JfW {K:List (List Int)}{i:Nat}{ks:List Int}(h:K[i]? = some ks):QC (K.take (i+1)) []=QC (K.take i) []++[ownD (QC (K.take i) []) ks]:=by
 have Ab:=(Gg.1 h).1;rw[Gi Ab,(Gg.1 h).2,JeL];rfl
theorem isDeep (t:Tr)(ht:t.Fit){o:List Int}(ho:Jz (JH t.nodes) []=some o):Fn Ga 140 [t.cv] (.bool (JaX t)):=by
 have Ai:=ht.many;refine Jc c140_ok rfl rfl λN=>?_
 simp +contextual -implicitDefEqProofs only[c140,go_sem,Tr.cv,Tr.row];refine XW ?_;simp only[go_sem,Jb];refine Jw (I:=λi:Nat=>i<=t.nodes.length) (inv:=λi=>gp [(3,K6 0 (iz (QC ((JH t.nodes).take i) []))),(6,.rslc 5 (ndz t.nodes) none),(0,.int .i64 t.nodes.length),(0,.int .i64 i)] 31)
  (hp:=λi=>[QO 1 (iz (QC ((JH t.nodes).take i) []))]) (μ:=λi=>t.nodes.length-i) 0 [1] (by omega) rfl ?_ rfl ?_
 ·simp[forget,JB,ren,Jm,gp,QC,iz,K6]
 ·intro i hi;have Bi:(QC ((JH t.nodes).take i) []).length=i:=by
   rw[Jcp,GR];simp[JH];omega
  have EU:=Jg6 ((JH t.nodes).take i) [] (by intro v hv;simp at hv);by_cases Ab:i<t.nodes.length
  ·have Au:=JfW (Ka Ab);have IW:=XD ho (Ka Ab);have hx:=ht.nodes _ (Gt Ab);rw[<-rowg Ab]at hx;have Cz:=Bi;clear Bi;generalize QC ((JH t.nodes).take i) []=d at Au Cz EU|-;have d1:((i:Int)<(t.nodes.length:Int))=True:=Jq;simp +contextual -implicitDefEqProofs only[go_sem,Jb,d1];rw[Qu Ab];generalize t.nodes.getD i default=x at Au IW hx|-;refine⟨by omega,by simp[Nd.cv],?_⟩;simp +contextual -implicitDefEqProofs only[go_sem,Nd.cv,Jg];have BJ:=hx.kidn;have FW:∀v∈d,1<=v/\v<=i:=λv hv=>by have:=EU v hv;omega
   refine JI (I:=λj:Nat=>j<=x.kids.length) (inv:=λj=>gp [(3,K6 0 (iz d)),(2,.int .i64 (ownD d (x.kids.take j))),(3,.rslc 5 (ndz t.nodes) none),(0,.int .i64 t.nodes.length),(0,.int .i64 i),(4,.rslc 1 (iz x.kids) none),(0,.int .i64 x.kids.length),(0,.int .i64 j)] 24)
    (hp:=λ_=>[QO 1 (iz d),.arr 5 [x.cv]]) (μ:=λj=>x.kids.length-j) 0 (by omega) ?_ rfl ?_
   ·simp[forget,gp,ownD]
   ·intro j hj;by_cases A8:j<x.kids.length
    ·have d2:((j:Int)<(x.kids.length:Int))=True:=Jq;have AB:x.kids.getD j 0∈x.kids:=by
      rw[Gc,Gb A8];exact Gt A8
     have hb:=IW _ AB;have Ah:iz d≠[]:=by
      intro e;have:=congrArg Gr e;rw[Jg]at this;simp at this;rw[this]at Cz;simp at Cz;omega
     have Al:ownD d (x.kids.take (j+1))=mx (ownD d (x.kids.take j)) (d.getD (x.kids.getD j 0).toNat 0+1):=by
      have Eh:x.kids.getD j 0=x.kids[j]:=by rw[Gc,Gb A8];rfl
      unfold ownD;rw[Gi A8,GQ,Eh];rfl
     rw[XK Ah,Xu Ah];simp +contextual -implicitDefEqProofs only[go_sem,Jg,d2];rw[JN A8];generalize x.kids.getD j 0=k at hb Al|-;refine anO ?_;simp +contextual -implicitDefEqProofs only[go_sem,Jg];rw[JN (by omega)];have IK:=JgM (m:=i) (λv hv=>by have:=FW v hv;omega) (by omega) k.toNat;refine⟨by omega,⟨by omega,by simp⟩,?_⟩;simp +contextual -implicitDefEqProofs only[go_sem];refine⟨Jh,Jh,j+1,by omega,by omega,?_⟩;rw[Al];simp[forget,mx]
    ·have Ch:j=x.kids.length:=by omega
     subst Ch;have d2:((x.kids.length:Int)<(x.kids.length:Int))=False:=Jo;rw[Gq];have Re:=Jgy (m:=i) FW (by omega) x.kids 1 (by omega) (by omega);simp +contextual -implicitDefEqProofs only[go_sem,d2,Jy,Jg];refine⟨⟨by omega,by omega⟩,Jh,i+1,[3],by omega,by omega,rfl,?_,?_⟩
     ·rw[Au,KU,Kq];simp only[Kl,Gj,Gu,go_sem,Jk];rw[<-KU,Ja (Je _)]
     ·rw[Au,KU,Ko];simp[forget,JB,ren,Jm,Jg]
  ·have CB:i=t.nodes.length:=by omega
   subst CB;have d1:((t.nodes.length:Int)<(t.nodes.length:Int))=False:=Jo;have hB:JaX t=(QC ((JH t.nodes).take t.nodes.length) []).any λv=>decide (30<v):=by
    rw[JaX,Gs (by simp[JH])]
   rw[hB];generalize QC ((JH t.nodes).take t.nodes.length) []=d at Bi EU|-;have Z0:d.length<=100000:=by omega
   cases d with
   |nil=>
    simp +contextual -implicitDefEqProofs only[go_sem,d1,iz,Gu,Q8,Yc];rfl
   |cons y d=>
    have d3:((0:Int)<((iz (y::d)).length:Nat))=True:=eq_true (by rw[Jg];simp only[Gx];omega);rw[XK (by simp[iz]),Xu (by simp[iz])];simp +contextual -implicitDefEqProofs only[go_sem,d1,d3];refine Jd (id:=0) (z:=1) (els:=iz (y::d)) rfl (Je _) ?_;simp only[go_sem,JX,Ku,frz,Qa,Gq];refine Kb (gok rfl) (maxL y d (by simp at Z0;omega)) ?_;simp +contextual -implicitDefEqProofs only[go_sem]
    congr 1
    rw[Gf,decide_eq_true_eq,mx_any];simp
theorem indexN {f:Nat}{l1 l2:List CV}{F:IFunc}(l:List Nd)(q:Nd->Bool)(cap:Option Nat)(hF:Jf Ga f=some F)(C8:Jp l1=true)(Ca:Jp l2=true)
  (hq:∀p∈l,Fn Ga f (l1++[.agg p.cv]++l2) (.bool (q p))) (Ad:l.length<=100000):Fn Ga 185 [.rslc 5 (ndz l) cap,.fn f l1 l2] (.int .i64 (XI q l 0)):=by
 refine Jc c185_ok (by simp[Jp,CV.closed,C8,Ca]) rfl λN=>?_
 simp +contextual -implicitDefEqProofs only[c185,go_sem,Jb];refine JI (I:=λi:Nat=>i<=l.length/\XI q l 0=XI q (l.drop i) i) (inv:=λi=>gp [(0,.rslc 5 (ndz l) cap),(0,.fn f l1 l2),(5,.int .i64 l.length),(0,.int .i64 i)] 10) (hp:=λ_=>[]) (μ:=λi=>l.length-i) 0 ?_ ?_ rfl ?_
 ·simp
 ·simp[forget,gp]
 ·rintro i ⟨hi,Aa⟩;simp +contextual -implicitDefEqProofs only[go_sem,Jb];refine⟨λh=>?_,λh=>?_⟩
  ·have Ab:i<l.length:=by omega
   obtain⟨p,hp⟩:∃p,l[i]? = some p:=⟨_,Gb Ab⟩;rw[Q6 hp]at Aa;rw[Qu Ab,show l.getD i default=p by rw[Gc,hp];rfl];refine⟨by omega,by simp[Nd.cv],?_⟩;refine vr_fv (.inl rfl) rfl hF nm (hq p (Gp hp)) ?_;simp only[go_sem];refine⟨λh2=>?_,λh2=>?_⟩
   ·rw[Aa,if_pos h2]
   ·rw[h2]at Aa;refine⟨Jh,i+1,⟨by omega,by simpa using Aa⟩,by omega,?_⟩;simp[forget]
  ·have:i=l.length:=by omega
   subst this;rw[Aa];simp[XI]
theorem containsN {f:Nat}{l1 l2:List CV}{F:IFunc}(l:List Nd)(q:Nd->Bool)(cap:Option Nat)(hF:Jf Ga f=some F)(C8:Jp l1=true)(Ca:Jp l2=true)
  (hq:∀p∈l,Fn Ga f (l1++[.agg p.cv]++l2) (.bool (q p))) (Ad:l.length<=100000):Fn Ga 166 [.rslc 5 (ndz l) cap,.fn f l1 l2] (.bool (l.any q)):=by
 refine Jc c166_ok (by simp[Jp,CV.closed,C8,Ca]) rfl λN=>?_
 simp +contextual -implicitDefEqProofs only[c166,go_sem];refine J6 (indexN l q cap hF C8 Ca hq Ad) ?_;simp +contextual -implicitDefEqProofs only[go_sem,Jaf]
def ndI (l:List Nd)(x:Nd):Bool:=J4 (Jdt x.text) x.k x.text x.n x.pl (lets l x)
theorem isFormN (t:Tr)(x:Nd)(hx:x.Fit)(hn:∀y∈t.nodes,y.k<256)(hk:∀k∈x.kids,0<=k/\k<t.nodes.length):Fn Ga 159 [.agg x.cv,.rptr t.row] (.bool (!ndI t.nodes x)):=by
 have hl:(lets t.nodes x).length<=1000:=by rw[Ky];have:=hx.kidn;omega
 refine Jc c159_ok rfl rfl λN=>?_
 simp +contextual -implicitDefEqProofs only[c159,go_sem,Tr.row,Nd.cv];refine J6 (sortsL t x hx hn hk) ?_;simp +contextual -implicitDefEqProofs only[go_sem];refine J6 (fnSort x.k hx.k) ?_;simp +contextual -implicitDefEqProofs only[go_sem];have Ew:((letter x.k:Int) == 32)=(letter x.k == 32):=by
  rw[Gf];simp;omega
 rw[Ew]
 cases b1:(letter x.k == 32) with
 |true=>
  simp +contextual -implicitDefEqProofs only[go_sem];simp[ndI,J4,b1]
 |false=>
  simp +contextual -implicitDefEqProofs only[go_sem];refine Kb (gok rfl) (expectedL x _ hl) ?_;simp +contextual -implicitDefEqProofs only[go_sem]
  cases b2:(lets t.nodes x == KX x.k (lets t.nodes x)) with
  |false=>
   simp +contextual -implicitDefEqProofs only[go_sem];simp[ndI,J4,b2]
  |true=>
   simp +contextual -implicitDefEqProofs only[go_sem];refine Kb (gok rfl) (within 0 2500 x.pl) ?_;simp +contextual -implicitDefEqProofs only[go_sem]
   cases b3:inI 0 2500 x.pl with
   |false=>
    simp +contextual -implicitDefEqProofs only[go_sem];simp[ndI,J4,b3]
   |true=>
    simp +contextual -implicitDefEqProofs only[go_sem];refine Kb (gok rfl) (fieldsL x _ (Jdt x.text) (isNameW x.text (by have:=hx.text;omega))) ?_;simp +contextual -implicitDefEqProofs only[go_sem]
    cases b4:fldI (Jdt x.text) x.k x.text x.n (lets t.nodes x) with
    |false=>
     simp +contextual -implicitDefEqProofs only[go_sem];unfold fldI at b4;simp[ndI,J4,b4]
    |true=>
     simp +contextual -implicitDefEqProofs only[go_sem];refine Kb (gok rfl) (sizedL x _) ?_;simp +contextual -implicitDefEqProofs only[go_sem];unfold fldI at b4;simp[ndI,J4,b1,b2,b3,b4]
theorem isFormS (t:Tr)(ht:t.Fit){o:List Int}(h:Jz (JH t.nodes) []=some o):Fn Ga 139 [t.cv] (.bool (YD o (λi=>Jv t.nodes i == 65) t.nodes.length t.items 0 && t.nodes.all (ndI t.nodes))):=by
 have hl:=Qy _ _ _ h;simp[JH]at hl;refine Jc c139_ok rfl rfl λN=>?_
 simp +contextual only[c139,go_sem,Tr.cv,Tr.row];refine Jd (id:=0) (z:=2) (els:=[t.row]) rfl rfl ?_;simp only[go_sem,JX,Ku,frz,Qa];simp +contextual only[go_sem,Tr.row];refine J6 (firstsS t ht h) ?_;simp +contextual only[go_sem];refine Kb (gok rfl) (areItems t ht o (QE _ _ _ QX.nil h) hl) ?_;simp +contextual only[go_sem]
 cases b1:YD o (λi=>Jv t.nodes i == 65) t.nodes.length t.items 0 with
 |false=>simp +contextual only[go_sem]
 |true=>
  simp +contextual only[go_sem];refine J6 (containsN t.nodes (λx=>!ndI t.nodes x) none c159_ok rfl rfl (λx hx=>?_) (by have:=ht.many;omega)) ?_
  ·obtain⟨j,hj⟩:=List.getElem?_of_mem hx;have A8:=(Gg.1 hj).1;have EK:(JH t.nodes)[j]? = some x.kids:=by simp[JH,hj]
   exact isFormN t x (ht.nodes x hx) (λy hy=>(ht.nodes y hy).k) (λk hk=>by have:=XD h EK k hk;omega)
  ·simp +contextual only[go_sem]
   congr 1
   rw[Gf];simp
theorem isFormN0 (t:Tr)(ht:t.Fit)(h:Jz (JH t.nodes) []=none):Fn Ga 139 [t.cv] (.bool false):=by
 refine Jc c139_ok rfl rfl λN=>?_
 simp +contextual only[c139,go_sem,Tr.cv,Tr.row];refine J6 (firstsN t ht h) ?_;simp +contextual only[go_sem]
def frm (t:Tr):Bool:=match Jz (JH t.nodes) []with
 |some o=>YD o (λi=>Jv t.nodes i == 65) t.nodes.length t.items 0 && t.nodes.all (ndI t.nodes)
 |none=>false
theorem isForm (t:Tr)(ht:t.Fit):Fn Ga 139 [t.cv] (.bool (frm t)):=by
 unfold frm
 cases h:Jz (JH t.nodes) []with
 |none=>exact isFormN0 t ht h
 |some o=>exact isFormS t ht h
def chk (t:Tr):Int:=if 700<t.nodes.length\/20<t.items.length then 5 else if frm t=true then(if JaX t=true then 5 else 0) else 4
theorem frm_some {t:Tr}(h:frm t=true):∃o,Jz (JH t.nodes) []=some o:=by
 unfold frm at h
 cases ho:Jz (JH t.nodes) []with
 |none=>rw[ho]at h;cases h
 |some o=>exact⟨o,rfl⟩
theorem Jft (t:Tr)(ht:t.Fit):Fn Ga 111 [t.cv] (.int .i64 (chk t)):=by
 refine Jc c111_ok rfl rfl λN=>?_
 simp +contextual -implicitDefEqProofs only[c111,go_sem,Tr.cv,Tr.row];refine Jd (id:=0) (z:=2) (els:=[t.row]) rfl rfl ?_;simp only[go_sem,JX,Ku,frz,Qa];refine J6 (isGreat t) ?_;by_cases h1:700<t.nodes.length\/20<t.items.length
 ·have hc:chk t=5:=by unfold chk;rw[if_pos h1]
  rw[decide_eq_true h1,hc];simp +contextual -implicitDefEqProofs only[go_sem]
 ·rw[decide_eq_false h1];simp +contextual -implicitDefEqProofs only[go_sem,Tr.row];refine J6 (isForm t ht) ?_
  cases h2:frm t with
  |false=>
   have hc:chk t=4:=by unfold chk;rw[if_neg h1,if_neg (by rw[h2];simp)]
   rw[hc];simp +contextual -implicitDefEqProofs only[go_sem]
  |true=>
   obtain⟨o,ho⟩:=frm_some h2;have hc:chk t=if JaX t=true then 5 else 0:=by unfold chk;rw[if_neg h1,if_pos h2]
   rw[hc];simp +contextual -implicitDefEqProofs only[go_sem];refine J6 (isDeep t ht ho) ?_
   cases h3:JaX t with
   |false=>simp +contextual -implicitDefEqProofs only[go_sem]
   |true=>simp +contextual -implicitDefEqProofs only[go_sem]
end Go.Cm
end
section
open Go.Proofs
namespace Go.Cm
section
variable {K:List (List Int)}{o:List Int}(t:Ordd K o){d m:Nat}(Pj:d<=m)(hm:m<=K.length)(AU:∀j:Nat,d<=j->j<m->(d:Int)<=fs o j)
include t AU
include hm
end
theorem deepF_pre:∀(K:List (List Int)) (d:List Int),∃t,QC K d=d++t
 |[],d=>⟨[],by simp[QC]⟩
 |ks::K,d=>by
  obtain⟨t,ht⟩:=deepF_pre K (d++[ownD d ks]);exact⟨_,by rw[QC,ht,List.append_assoc]⟩
theorem deepF_take {K:List (List Int)}{m:Nat}(hm:m<=K.length):QC (K.take m) []=(QC K []).take m:=by
 have h:=JeL (K.take m) (K.drop m) [];rw[Gv]at h;obtain⟨t,ht⟩:=deepF_pre (K.drop m) (QC (K.take m) []);have hl:=Jcp (K.take m) [];simp only[Gy,GG,GR]at hl;have Ef:(QC (K.take m) []).length=m:=by rw[hl];exact GZ hm
 rw[h,ht,List.take_left' Ef]
def mvN (d:Int)(x:Nd):Nd:={ x with kids:=x.kids.map (· + d) }
structure GoodT (t:Tr)(o:List Int):Prop where
 many:t.nodes.length<=700
 items:t.items.length<=20
 ord:Ordd (JH t.nodes) o
 its:chain o t.nodes.length 0 t.items t.nodes.length
 defs:∀i∈t.items,Jv t.nodes i=65
 nds:∀x∈t.nodes,ndI t.nodes x=true
 deep:∀v∈QC (JH t.nodes) [],v<=30
theorem Qp {l:List Nd}:(JH l).length=l.length:=by simp[JH]
theorem Jcs (t:Tr):chk t=0↔∃o,GoodT t o:=by
 constructor
 ·intro h;unfold chk at h
  split at h
  ·simp at h
  ·rename_i h1
   split at h
   ·rename_i h2
    split at h
    ·simp at h
    ·rename_i h3;obtain⟨o,ho⟩:=frm_some h2;unfold frm at h2;rw[ho]at h2;simp only[Gm,GV]at h2;have Ap:=QE _ _ _ QX.nil ho;have Be:=Qy _ _ _ ho;simp only[Gy,GG,Qp]at Be;obtain⟨c1,c2⟩:=(XX Ap Be t.items 0 (by omega)).1 h2.1;refine⟨o,⟨by omega,by omega,⟨ho⟩,c1,λi hi=>by simpa using c2 i hi,h2.2,λv hv=>?_⟩⟩;by_cases Et:v<=30
     ·exact Et
     ·refine absurd ?_ h3;unfold JaX;rw[GU];exact⟨v,hv,by simpa using Int.not_le.1 Et⟩
   ·simp at h
 ·rintro⟨o,g⟩;have h1:=g.many;have h2:=g.items;unfold chk;rw[iN7,if_pos,if_neg]
  ·unfold JaX;rw[GU];rintro⟨v,hv,hd⟩;have:=g.deep v hv;simp only[decide_eq_true_eq]at hd;omega
  ·unfold frm;rw[g.ord.h];have Be:=g.ord.len;rw[Qp]at Be;simp only[Gm,GV];refine⟨(XX g.ord.ok Be t.items 0 (by omega)).2 ⟨g.its,λi hi=>by simpa using g.defs i hi⟩,g.nds⟩
namespace GoodT
variable {t:Tr}{o:List Int}(g:GoodT t o)
include g
theorem olen:o.length=t.nodes.length:=by rw[g.ord.len,Qp]
theorem kid {j:Nat}(hj:j<t.nodes.length){k:Int}(hk:k∈(t.nodes.getD j default).kids):0<=k/\k<j:=by
 have:=g.ord.kid_rng (Ka hj) hk;omega
end GoodT
end Go.Cm
end
end
