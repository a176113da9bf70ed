/-
  A part of the proof. Conditions: none.
-/
import Derived.Test.YtdnnimemociklaaGreatDoorWP7
import Derived.Lib.Join
import Derived.Lib.ItoaLen
set_option linter.unusedSimpArgs false
set_option linter.unusedVariables false
open Go.Proofs.Tryz renaming prog->Gh
open Int renaming cast_ofNat_Int->GA,toNat_natCast->GD,add_zero->GG
open Nat renaming le_refl->Gi,zero_add->Gn,lt_or_ge->GL
open Bool renaming and_eq_true->Gm,eq_false_or_eq_true->Gw,true_and->Gt,and_eq_false_iff->GM,false_and->GN,or_eq_false_iff->GX,not_eq_true->GY,eq_iff_iff->GZ
open List renaming getD_eq_getElem?_getD->Gb,getElem?_eq_getElem->Ga,length_cons->Gc,length_nil->Gd,getElem_mem->Gf,map_cons->Gg,getElem?_eq_some_iff->Gp,map_nil->Gj,take_length->Gl,cons_append->Gq,take_succ_eq_append_getElem->GH,getElem?_map->Gr,mem_singleton->Gu,nil_append->Gs,mem_of_getElem?->Gx,getElem?_append_left->GI,take_of_length_le->GJ,drop_zero->Gv,length_take->Gy,all_eq_true->Gz,getElem?_append_right->GQ,drop_eq_nil_of_le->GR,mem_cons->GK,mem_append->GU,drop_eq_getElem_cons->G5,getElem?_of_mem->G6,contains_eq_mem->G7,getElem?_drop->G8,any_eq_false->G9,all_eq_false->Ha,map_append->Hd,foldl_cons->He,mem_range->Hf
open Option renaming getD_some->GV,map_some->Hg
noncomputable section
section
set_option maxRecDepth 100000
set_option maxHeartbeats 40000000
open Go.Proofs
namespace Go.Cm
theorem refKin28 (t:Tr)(x:Nd)(hx:x.Fit)(hm:t.nodes.length<=1400)(hn:∀y∈t.nodes,y.k<256)(hk:∀k∈x.kids,0<=k/\k<t.nodes.length)(DI:x.k=28) :
  Fn Gh 95 [t.cv,.agg x.cv] (.bool (Qs x.k x.n (lets t.nodes x))):=by
 have BL:=hx.kidn;have CQ:=KP (l:=t.nodes) (x:=x);have hK:∀(c:Nat) (b:UInt8),(c,b)∈([(200,101),(201,116),(202,99),(40,66),(41,83),(42,98),(43,73),(44,78),(45,71),(48,79),(64,80)]:List (Nat×UInt8))->∀p q:Int,Fn Gh 149 [t.cv,.agg x.cv,.int .i64 p,.int .i64 q,.int .u8 c] (.bool (Ka (lets t.nodes x) p q b)):=by intro c b FX p q;have:=refKids t x hx hm hk p q c;rw[kids_conv hn hk (λk h=>cls_all ⟨k,h⟩ (c,b) FX)]at this;exact this
 have hM:=refMany t x hx hk 41;rw[JfU (b:=83) hn hk (λk h=>(let_all ⟨k,h⟩).1)]at hM;have bP:QD 83 (lets t.nodes x)<=30:=Nat.le_trans (cntB_le _ _) om;have K200:=hK 200 101 vk;have K41:=hK 41 83 vk;have K43:=hK 43 73 vk;have K44:=hK 44 78 vk;have K45:=hK 45 71 vk;simp only[GA]at K200 K41 K43 K44 K45 hM;obtain⟨k,text,n,kids,pl⟩:=x;simp only at DI;subst DI;generalize lets t.nodes ⟨28,text,n,kids,pl⟩=hv at CQ K200 K41 K43 K44 K45 hM bP|-;obtain⟨cs,Er⟩:∃cs:Int,cs=(QD 83 hv:Int):=⟨_,rfl⟩;rw[<-Er]at hM;simp only[Nd.cv,Tr.cv,Tr.row]at BL CQ K200 K41 K43 K44 K45 hM|-;clear hK;obtain⟨m,Es⟩:∃m:Int,m=(kids.length:Int):=⟨_,rfl⟩;refine Jc c95_ok rfl rfl λN=>?_
 simp (maxSteps:=2000000) -implicitDefEqProofs only[c95,go_sem,Jf,GA,<-Es];refine Kk hM ?_;by_cases h0:0<=n
 ·have f0:((0:Int)<=n)=True:=eq_true h0;by_cases h1:n<m
  ·have f1:(n<m)=True:=eq_true h1;simp (maxSteps:=2000000) -implicitDefEqProofs only[go_sem,f0,f1];have Bv:Qs 28 n hv=(Ka hv 0 n 73 && Ka hv n (n+1) 101 && Ka hv (n+1) (n+1+cs) 83 && Ka hv (n+1+cs) (m-1) 78 && Ka hv (m-1) m 71):=by simp[Qs,CQ,<-Es,<-Er,h0,h1]
   rw[Bv];refine Kt (gok rfl) (K43 (0) n) ?_
   cases g0:Ka hv (0) n 73 with
   |false=>simp (maxSteps:=2000000) -implicitDefEqProofs only[go_sem];try simp
   |true=>
    simp (maxSteps:=2000000) -implicitDefEqProofs only[go_sem];refine⟨Ji,?_⟩;refine Kt (gok rfl) (K200 (n) (n+1)) ?_
    cases g1:Ka hv (n) (n+1) 101 with
    |false=>simp (maxSteps:=2000000) -implicitDefEqProofs only[go_sem];try simp
    |true=>
     simp (maxSteps:=2000000) -implicitDefEqProofs only[go_sem];refine⟨Ji,?_⟩;refine⟨Ji,?_⟩;refine⟨Ji,?_⟩;refine Kt (gok rfl) (K41 (n+1) (n+1+cs)) ?_
     cases g2:Ka hv (n+1) (n+1+cs) 83 with
     |false=>simp (maxSteps:=2000000) -implicitDefEqProofs only[go_sem];try simp
     |true=>
      simp (maxSteps:=2000000) -implicitDefEqProofs only[go_sem];refine⟨Ji,?_⟩;refine⟨Ji,?_⟩;refine⟨Ji,?_⟩;refine Kt (gok rfl) (K44 (n+1+cs) (m-1)) ?_
      cases g3:Ka hv (n+1+cs) (m-1) 78 with
      |false=>simp (maxSteps:=2000000) -implicitDefEqProofs only[go_sem];try simp
      |true=>
       simp (maxSteps:=2000000) -implicitDefEqProofs only[go_sem];refine⟨Ji,?_⟩;refine Kt (gok rfl) (K45 (m-1) m) ?_
       cases g4:Ka hv (m-1) m 71 with
       |false=>simp (maxSteps:=2000000) -implicitDefEqProofs only[go_sem];try simp
       |true=>
        simp (maxSteps:=2000000) -implicitDefEqProofs only[go_sem]
        try simp
  ·have f1:(n<m)=False:=eq_false h1;simp (maxSteps:=2000000) -implicitDefEqProofs only[go_sem,f0,f1];simp[Qs,CQ,<-Es,h1]
 ·have f0:((0:Int)<=n)=False:=eq_false h0;simp (maxSteps:=2000000) -implicitDefEqProofs only[go_sem,f0];simp[Qs,h0]
end Go.Cm
end
section
open Go.Shelf Go.RowKit Go.Proofs
namespace Go.Proofs
open Go.Cm in
set_option maxHeartbeats 4000000 in
set_option maxRecDepth 100000 in
theorem Tryz.kinMax_walk (ta tb:Value)(s:ByteArray)(b:Option Addr)(len cap:Nat)(pl:Int)(hl:len<=1000)(w:World) :
  Calls Gh 95 #[.agg #[ta,tb],.agg #[.int .u8 41,.string s,.int .i64 9223372036854775807,.slice b len cap,.int .i64 pl]] w λe w'=>e=.returned (.bool false)/\Below w.heap.size w w':=by
 have hw:wrap64 9223372036854775808 = -9223372036854775808:=by decide +kernel
 have Ag:¬((len:Int)=wrap64 9223372036854775808):=by omega
 go_enter Tryz.func95,Tryz.ntmps95
 go_wp2
 all_goals first
  |(exfalso;omega)
  |skip
 go_ret
 exact⟨rfl,((Below.refl _ _).alloc (Gi _) _).alloc (show _<=(w.heap.push _).size by rw[Array.size_push];omega) _⟩
end Go.Proofs
namespace Go.Cm
theorem refKinMax (t:Tr)(x:Nd)(hx:x.Fit)(AQ:x.k=41)(hm:x.n=9223372036854775807):Fn Gh 95 [t.cv,.agg x.cv] (.bool (Qs x.k x.n (lets t.nodes x))):=by
 have BL:=hx.kidn;have CQ:=KP (l:=t.nodes) (x:=x);have hf:Qs x.k x.n (lets t.nodes x)=false:=by
  rw[AQ,hm];have:((lets t.nodes x).length:Int)≠9223372036854775808:=om
  simp[Qs,this]
 rw[hf];intro E H;refine Qb λm w vs hs hv=>?_
 obtain⟨k,text,n,kids,pl⟩:=x;simp only at AQ hm;subst AQ hm;simp only[JX,rel,Tr.cv,Tr.row,Nd.cv]at hv;obtain⟨r,rs,e,⟨v1,rfl,ra,ras,e1,-,rb,rbs,e2,-,e3⟩,x,xs,e4,⟨v2,rfl,y1,ys1,f1,g1,y2,ys2,f2,g2,y3,ys3,f3,g3,y4,ys4,f4,g4,y5,ys5,f5,g5,f6⟩,e5⟩:=hv;have BK:vs=#[.agg v1,.agg v2]:=by cases vs;simp_all
 have h1:v1=#[ra,rb]:=by cases v1;simp_all
 have h2:v2=#[y1,y2,y3,y4,y5]:=by cases v2;simp_all
 subst BK h1 h2 g1 g2 g3 g5;have h4:∃b c,y4=.slice b kids.length c:=by
  rcases g4 with ⟨-,h,b,rfl⟩|⟨B,o,c,rfl,-⟩
  ·have:kids.length=0:=by rw[<-Jf (l:=kids),h];rfl
   exact⟨b,0,by rw[this]⟩
  ·exact⟨_,c,by rw[Jf]⟩
 obtain⟨b,c,rfl⟩:=h4;exact⟨_,Tryz.kinMax_walk ra rb ⟨⟨text⟩⟩ b kids.length c pl (by simp only at BL;omega) w,rfl⟩
theorem refKin (t:Tr)(x:Nd)(hx:x.Fit)(hm:t.nodes.length<=1400)(hn:∀y∈t.nodes,y.k<256)(hk:∀k∈x.kids,0<=k/\k<t.nodes.length):Fn Gh 95 [t.cv,.agg x.cv] (.bool (Qs x.k x.n (lets t.nodes x))):=by
 by_cases DI:x.k=28
 ·exact refKin28 t x hx hm hn hk DI
 ·by_cases AQ:x.k=41/\x.n=9223372036854775807
  ·exact refKinMax t x hx AQ.1 AQ.2
  ·exact refKin1 t x hx hm hn hk (λh=>by
   have h5:x.n<=9223372036854775807:=hx.n.2;have h6:x.n≠9223372036854775807:=λe=>AQ ⟨h,e⟩
   omega) DI
end Go.Cm
end
section
set_option maxRecDepth 100000
set_option maxHeartbeats 40000000
open Go.Proofs
namespace Go.Cm
variable {t:Tr}{i n:Nat}{cap:Option Nat}
theorem refFields (x:Nd)(kk:Nat)(nmd:Bool)(hq:(kk == 2)=nmd)(hn:Fn Gh 150 [S x.text] (.int .u8 kk)):Fn Gh 96 [.agg x.cv] (.bool (Q7 nmd x.k x.text x.n x.pl)):=by
 have Eb:((kk:Int) != 2) = !nmd:=by
  rw[<-hq,bne]
  congr 1
  rw[GZ];simp;omega
 obtain⟨k,text,n,kids,pl⟩:=x;simp only[Nd.cv]at hn|-;by_cases hC:k=1\/k=2\/k=3\/k=26\/k=42\/k=43\/k=44\/k=64\/k=65\/k=47\/k=48\/k=40\/k=41\/k=28\/k=29
 rotate_left
 ·have hE:Q7 nmd k text n pl=(text == [] && (n == 0 && inI 0 2500 pl)):=by simp only[Q7];have d1:decide (k=3\/k=26\/k=42\/k=43\/k=44\/k=64\/k=65\/k=47)=false:=decide_eq_false om;have d2:decide (k=65\/k=47\/k=40\/k=41\/k=28\/k=29)=false:=decide_eq_false om;rw[iN7,iN7,iN7,d1,d2];simp
  rw[hE];simp only[not_or]at hC;refine Jc c96_ok rfl rfl λN=>?_
  cases t1:text == [] <;> cases h0:n == 0 <;> repeat first
   |refine Kt (gok rfl) (Jcd pl 0 2500) ?_
   |simp (maxSteps:=2000000) -implicitDefEqProofs only[c96,go_sem,t1,h0,kbo,hC,not_false_eq_true]
 rcases hC with rfl|rfl|rfl|rfl|rfl|rfl|rfl|rfl|rfl|rfl|rfl|rfl|rfl|rfl|rfl <;> (
  simp only[Q7];refine Jc c96_ok rfl rfl λN=>?_
  repeat first
   |refine Kk (Jcd n 0 1000000000) ?_
   |refine Kk (Jcd n 0 1) ?_
   |refine Kt (gok rfl) (Jcd pl 0 2500) ?_
   |refine Kt (gok rfl) hn ?_;clear hq hn;revert Eb;cases nmd <;> intro Eb <;> simp only[Bool.not_true,Bool.not_false]at Eb
   |simp (maxSteps:=2000000) -implicitDefEqProofs only[c96,go_sem,GA,Eb]
   |rcases Gw (text == []) with t1|t1 <;> rw[t1]
   |rcases Gw (text == [35]) with t2|t2 <;> rw[t2]
   |rcases Gw (n == 0) with h0|h0 <;> rw[h0]
   |rcases Gw (inI 0 1000000000 n) with hc|hc <;> rw[hc]
   |rcases Gw (inI 0 1 n) with hc|hc <;> rw[hc]
  all_goals first|simp|simp_all)
def mD (d:Lu)(ks:Lu):Int:=ks.foldl (λa k=>mx a (d.getD k.toNat 0)) 0
theorem mx_succ (a b:Int):mx (a+1) (b+1)=mx a b+1:=by unfold mx;split <;> split <;> omega
theorem ownD_mD (d ks:Lu):Jgh d ks=mD d ks+1:=by
 have key:∀(l:Lu) (a:Int),l.foldl (λa k=>mx a (d.getD k.toNat 0+1)) (a+1)=l.foldl (λa k=>mx a (d.getD k.toNat 0)) a+1:=by
  intro l
  induction l with
  |nil=>intro a;rfl
  |cons k l ih=>intro a;rw[He,He,mx_succ];exact ih _
 exact key ks 0
theorem mD_rng {d:Lu}{m:Int}(h:∀v∈d,1<=v/\v<=m)(hm:0<=m)(ks:Lu):0<=mD d ks/\mD d ks<=m:=by have:=Jh2 (m:=m) h hm ks 1 om om;have e:=ownD_mD d ks;unfold Jgh at e;omega
theorem JgH (t:Tr)(ht:t.Fit){o:Lu}(ho:JA (Ju t.nodes) []=some o):Fn Gh 78 [t.cv] (.bool (JbH t)):=by
 have Ah:=ht.many;refine Jc c78_ok rfl rfl λN=>?_
 simp only[c78,go_sem,Tr.cv,Tr.row];refine Je (id:=0) (z:=2) (els:=[t.row]) rfl rfl ?_;simp only[go_sem,JV,Kv,frz,Qj];refine Js (I:=λi:Nat=>i<=t.nodes.length/\∀v∈KJ ((Ju t.nodes).take i) [],v<=30) (inv:=λi=>gp [(1,.rptr t.row),(1,.slc 1 0 (iz (KJ ((Ju t.nodes).take i) [])).length (JaJ (iz (KJ ((Ju t.nodes).take i) [])))),(0,.int .i64 (i:Int))] 43)
  (hp:=λi=>[.dead,.arr 1 (iz (KJ ((Ju t.nodes).take i) []))]) (μ:=λi=>t.nodes.length-i) 0 [0,1] ⟨om,by simp[KJ]⟩ rfl ?_ rfl ?_
 ·simp[forget,JB,ren,Jm,gp,KJ,iz,JaJ]
 ·rintro i ⟨hi,Ak⟩;have Bh:(KJ ((Ju t.nodes).take i) []).length=i:=by rw[Xj,Gy];simp[Ju];omega
  have Fu:=Jix ((Ju t.nodes).take i) [] (by intro v hv;simp at hv);by_cases Ab:i<t.nodes.length
  ·have Az:=JaD (JK Ab);have Ms:=Xo ho (JK Ab);have hx:=ht.nodes _ (Gf Ab);rw[<-rowg Ab]at hx;have CP:=Bh;clear Bh;have Di:∀v∈KJ ((Ju t.nodes).take (i+1)) [],v∈KJ (Ju t.nodes) []:=by intro v hv;rw[JaC (by rw[Kj];omega)]at hv;exact List.mem_of_mem_take hv
   generalize hD:KJ ((Ju t.nodes).take i) []=d at Az CP Fu Ak|-;have d1:=dtT i t.nodes.length;simp only[go_sem,Tr.row,Jb,d1];have hg:=QE Ab;generalize t.nodes.getD i default=x at Az Ms hx hg|-;have BL:=hx.kidn;have Il:∀v∈d,1<=v/\v<=i:=λv hv=>by have:=Fu v hv;omega
   refine JO (I:=λj:Nat=>j<=x.kids.length) (inv:=λj=>gp [(1,.rptr t.row),(1,.slc 1 0 (iz d).length (JaJ (iz d))),(0,.int .i64 (i:Int)),(0,.int .i64 (mD d (x.kids.take j))),(0,.int .i64 (j:Int))] 41)
    (hp:=λ_=>[.dead,.arr 1 (iz d)]) (μ:=λj=>x.kids.length-j) 0 om ?_ rfl ?_
   ·simp[forget,gp,mD,Tr.row]
   ·intro j hj;have Bz:(iz x.kids).length=x.kids.length:=Jf;by_cases Ba:j<x.kids.length
    ·have d2:=dtT j x.kids.length;have Ap:x.kids.getD j 0∈x.kids:=by rw[Gb,Ga Ba];exact Gf Ba
     have hb:=Ms _ Ap;have Al:mD d (x.kids.take (j+1))=mx (mD d (x.kids.take j)) (d.getD (x.kids.getD j 0).toNat 0):=by
      have ED:x.kids.getD j 0=x.kids[j]:=by rw[Gb,Ga Ba];rfl
      unfold mD;rw[GH Ba,List.foldl_append,ED];rfl
     have AA:=JL Ba;generalize x.kids.getD j 0=k at hb Al AA;have ED:=JL (l:=d) (i:=k.toNat) om;have DT:=Jig (m:=i) (λv hv=>by have:=Il v hv;omega) om k.toNat;have Ua:(iz d).length=d.length:=Jf;simp only[go_sem,Tr.row,Jb,hg,Nd.cv,Bz,d2,AA,ED];refine⟨om,om,om,om,om,Ji,j+1,om,om,?_⟩;rw[Al];simp[forget,mx]
    ·have BR:j=x.kids.length:=om
     subst BR;have d2:=dfF x.kids.length x.kids.length;rw[Gl];have dZ:=mD_rng Il om x.kids;have Ua:(iz d).length=d.length:=Jf;rw[ownD_mD]at Az;have hz:iz (d++[mD d x.kids+1])=iz d++[[.int .i64 (mD d x.kids+1)]]:=KR;have Ar:=Jd (d++[mD d x.kids+1]);generalize mD d x.kids=v at Az dZ hz Ar|-;by_cases hv:30<v+1
     ·have d3:((30:Int)<v+1)=True:=eq_true hv;have hB:JbH t=true:=by rw[JbH,List.any_eq_true];exact⟨v+1,Di _ (by rw[Az];simp),by simpa using hv⟩
      simp only[go_sem,Tr.row,Jb,hg,Nd.cv,Bz,d2,d3,Jw,hB]
      repeat' apply And.intro
      all_goals first|omega|exact Ji
     ·have d3:((30:Int)<v+1)=False:=eq_false hv;simp only[go_sem,Tr.row,Jb,hg,Nd.cv,Bz,d2,d3,Jw];refine⟨om,Ji,om,Ji,Ji,i+1,[0,3],⟨om,?_⟩,om,rfl,?_,?_⟩
      ·rw[Az];intro u hu;rcases GU.1 hu with hu|hu
       ·exact Ak u hu
       ·rw[Gu.1 hu];omega
      ·rw[Az];have hc:=Ja (ρ:=[0,3]) Ar;simp only[Ko,Gg,Gj,go_sem,Jj];rw[hz]at hc|-;rw[hc];rfl
      ·rw[Az,hz,YH];simp[forget,JB,ren,Jm,Jf]
  ·have BS:i=t.nodes.length:=om
   subst BS;have d1:=dfF t.nodes.length t.nodes.length;have hB:JbH t=false:=by rw[JbH,<-GJ (l:=Ju t.nodes) (i:=t.nodes.length) (by simp[Ju]),G9];intro v hv;have:=Ak v hv;simp;omega
   rw[hB];simp only[go_sem,Tr.row,Jb,d1]
theorem JbM(h1:¬(700<t.nodes.length\/20<t.items.length))(h2:frm t=false):chk t=4:=by unfold chk;rw[if_neg h1,if_neg (by rw[h2];simp)]
theorem frm_none(h:JA (Ju t.nodes) []=none):frm t=false:=by unfold frm;rw[h]
theorem frm_kid(hi:i<t.nodes.length){k:Int}(hk:k∈(t.nodes.getD i default).kids)(hb:¬(0<=k/\k<i)):frm t=false:=by
 cases h:JA (Ju t.nodes) []with
 |none=>exact frm_none h
 |some o=>exact absurd (Xo h (JK hi) k hk) hb
theorem frm_nd(hi:i<t.nodes.length)(hb:ndI t.nodes (t.nodes.getD i default)=false):frm t=false:=by
 unfold frm
 cases h:JA (Ju t.nodes) []with
 |none=>rfl
 |some o=>
  simp only[GM]
  right
  rw[Ha];refine⟨t.nodes.getD i default,?_,by rw[hb];simp⟩;rw[Gb,Ga hi];exact Gf hi
theorem step_ord {K:LP}{o ks:Lu}(ho:JA (K.take i) []=some o)(hk:K[i]? = some ks) :
  (JA (K.take (i+1)) []=none/\(Jgj (fs o) ks.reverse i).2=false)\/(∃f,JA (K.take (i+1)) []=some (o++[f])/\(Jgj (fs o) ks.reverse i).2=true):=by
 obtain⟨h1,h2⟩:=JbC ho hk;have Aq:=QL _ _ _ Q8.nil ho;have h3:=JgL (fst:=fs o) Aq (λk _ _=>rfl) ks.reverse ((o.length:Int)-1) om;rw[h1];unfold Jdx;have e:((o.length:Int)-1+1)=(i:Int):=om
 rw[e]at h3
 cases h4:Qr o ks.reverse ((o.length:Int)-1) with
 |none=>rw[h4]at h3;exact .inl ⟨rfl,h3⟩
 |some b=>rw[h4]at h3;simp only at h3;exact .inr ⟨b+1,rfl,by rw[h3]⟩
theorem ndI_R (l:LC)(x:Nd):ndI l x=(Qs x.k x.n (lets l x) && Q7 (Jel x.text) x.k x.text x.n x.pl && Qu x.k x.n (lets l x)):=by unfold ndI;rw[node_eq];rfl
theorem refCheck (t:Tr)(ht:t.Fit):Fn Gh 56 [t.cv] (.int .i64 (chk t)):=by
 have Ah:=ht.many;have Mf:=ht.items;refine Jc c56_ok rfl rfl λN=>?_
 simp -implicitDefEqProofs only[c56,go_sem,Tr.cv,Tr.row];refine Je (id:=0) (z:=2) (els:=[t.row]) rfl rfl ?_;simp only[go_sem,JV,Kv,frz,Qj,Tr.row];refine Kk (refLimits t) ?_;by_cases h1:700<t.nodes.length\/20<t.items.length
 ·have hc:chk t=5:=by unfold chk;rw[if_pos h1]
  rw[decide_eq_false (not_not_intro h1),hc];simp -implicitDefEqProofs only[go_sem]
 ·rw[decide_eq_true h1];simp -implicitDefEqProofs only[go_sem];refine JO (I:=λi:Nat=>i<=t.nodes.length/\∀j,j<i->∀k∈(t.nodes.getD j default).kids,0<=k/\k<j) (inv:=λi=>gp [(1,.rptr t.row),(1,.int .i64 (i:Int))] 123) (hp:=λ_=>[.dead]) (μ:=λi=>t.nodes.length-i) 0 ⟨om,om⟩ ?_ rfl ?_
  ·simp[forget,gp,Tr.row]
  ·rintro i ⟨hi,Ee⟩;by_cases Ab:i<t.nodes.length
   ·have d1:=dtT i t.nodes.length;have hx:=ht.nodes _ (Gf Ab);rw[<-rowg Ab]at hx;have hg:=QE Ab;have bC:=λ{k:Int} (hk:k∈(t.nodes.getD i default).kids) (hb:¬(0<=k/\k<i))=>frm_kid Ab hk hb
    have Ol:(∀k∈(t.nodes.getD i default).kids,0<=k/\k<i)->∀j,j<i+1->∀k∈(t.nodes.getD j default).kids,0<=k/\k<j:=by
     intro h j hj;by_cases e:j=i
     ·subst e;exact h
     ·exact Ee j om
    generalize t.nodes.getD i default=x at hx hg bC Ol;have BL:=hx.kidn;have Bz:(iz x.kids).length=x.kids.length:=Jf;simp -implicitDefEqProofs only[go_sem,Tr.row,Jb,d1];refine JO (I:=λj:Nat=>j<=x.kids.length/\∀k∈x.kids.take j,0<=k/\k<i) (inv:=λj=>gp [(1,.rptr t.row),(1,.int .i64 (i:Int)),(0,.int .i64 (j:Int))] 122) (hp:=λ_=>[.dead]) (μ:=λj=>x.kids.length-j) 0 ⟨om,sM⟩ ?_ rfl ?_
    ·simp[forget,gp,Tr.row]
    ·rintro j ⟨hj,DK⟩;by_cases Ba:j<x.kids.length
     ·have d2:=dtT j x.kids.length;have AA:=JL Ba;have Ap:x.kids.getD j 0∈x.kids:=by rw[Gb,Ga Ba];exact Gf Ba
      have Ay:x.kids.take (j+1)=x.kids.take j++[x.kids.getD j 0]:=by rw[GH Ba,Gb,Ga Ba];rfl
      generalize x.kids.getD j 0=k at AA Ap Ay;simp -implicitDefEqProofs only[go_sem,Tr.row,Jb,hg,Nd.cv,Bz,d2,AA];refine⟨om,om,om,Ji,?_⟩;refine Kk (Jcd k 0 ((i:Int)-1)) ?_
      cases AO:inI 0 ((i:Int)-1) k with
      |true=>
       simp only[inI,Gm,decide_eq_true_eq]at AO;simp -implicitDefEqProofs only[go_sem];refine⟨Ji,j+1,⟨om,?_⟩,om,?_⟩
       ·rw[Ay];intro u hu;rcases GU.1 hu with hu|hu
        ·exact DK u hu
        ·rw[Gu.1 hu];omega
       ·simp[forget]
      |false=>
       have hb:¬(0<=k/\k<i):=by simp only[inI,GM,decide_eq_false_iff_not]at AO;omega
       rw[JbM h1 (bC Ap hb)];simp -implicitDefEqProofs only[go_sem]
     ·have BR:j=x.kids.length:=om
      subst BR;rw[Gl]at DK;have d2:=dfF x.kids.length x.kids.length;simp -implicitDefEqProofs only[go_sem,Tr.row,Jb,hg,Nd.cv,Bz,d2];refine⟨om,Ji,i+1,⟨om,Ol DK⟩,om,?_⟩;simp[forget]
   ·have BS:i=t.nodes.length:=om
    subst BS;have d1:=dfF t.nodes.length t.nodes.length;simp -implicitDefEqProofs only[go_sem,Tr.row,Jb,d1];refine JO (I:=λi:Nat=>i<=t.nodes.length/\(∃o,JA ((Ju t.nodes).take i) []=some o)/\∀j,j<i->ndI t.nodes (t.nodes.getD j default)=true) (inv:=λi=>gp [(1,.rptr t.row),(3,.int .i64 (i:Int))] 121) (hp:=λ_=>[.dead]) (μ:=λi=>t.nodes.length-i) 0 ⟨om,⟨[],by simp[JA]⟩,om⟩ ?_ rfl ?_
    ·simp[forget,gp,Tr.row]
    ·rintro i ⟨hi,⟨o,ho⟩,BQ⟩;by_cases Ab:i<t.nodes.length
     ·have d1:=dtT i t.nodes.length;have hx:=ht.nodes _ (Gf Ab);rw[<-rowg Ab]at hx;have hg:=QE Ab;have EA:=JK Ab;have Bv:=Ee i Ab;have UN:=λhb=>frm_nd Ab hb
      have MV:=ndI_R t.nodes (t.nodes.getD i default);have hS:=refSized t i Ab Ah hx (λy hy=>(ht.nodes y hy).k) (λk hk=>by have:=Bv k hk;omega);have Az:=step_ord ho EA;have BJ:ndI t.nodes (t.nodes.getD i default)=true->∀j,j<i+1->ndI t.nodes (t.nodes.getD j default)=true:=by
       intro h j hj;by_cases e:j=i
       ·subst e;exact h
       ·exact BQ j om
      generalize t.nodes.getD i default=x at hx hg EA Bv UN MV hS Az BJ;have hO:=JgI t ho hi Ah x.kids (by have:=hx.kidn;omega) i (Gi _);have kE:=refKin t x hx Ah (λy hy=>(ht.nodes y hy).k) (λk hk=>by have:=Bv k hk;omega);have hF:=refFields x (kindR x.text) (Jel x.text) (kindR_name x.text) (refKind x.text (by have:=hx.text;omega));simp -implicitDefEqProofs only[go_sem,Tr.row,Jb,d1];refine J3 Jr vk ?_;simp -implicitDefEqProofs only[go_sem,Jb,hg];refine anO ?_;simp -implicitDefEqProofs only[go_sem,Nd.cv];refine Kl (.inl rfl) hO ?_;simp -implicitDefEqProofs only[go_sem];refine J3 Jr vk ?_;rcases Az with ⟨s1,s2⟩|⟨f,s1,s2⟩
      ·simp -implicitDefEqProofs only[go_sem,s2];rw[JbM h1 (frm_none (Jd4 s1))]
      ·simp -implicitDefEqProofs only[go_sem,Jb,s2,hg];refine anO ?_;refine⟨by simp[Nd.cv],?_⟩;refine Kl (gok rfl) kE ?_
       cases b1:Qs x.k x.n (lets t.nodes x) with
       |false=>rw[b1,GN,GN]at MV;simp -implicitDefEqProofs only[go_sem];rw[JbM h1 (UN MV)]
       |true=>
        simp -implicitDefEqProofs only[go_sem,Jb,hg];refine⟨om,by simp[Nd.cv],?_⟩;refine Kl (gok rfl) hF ?_
        cases b2:Q7 (Jel x.text) x.k x.text x.n x.pl with
        |false=>rw[b1,b2,Gt,GN]at MV;simp -implicitDefEqProofs only[go_sem];rw[JbM h1 (UN MV)]
        |true=>
         simp -implicitDefEqProofs only[go_sem];refine Kl (gok rfl) hS ?_
         cases b3:Qu x.k x.n (lets t.nodes x) with
         |false=>rw[b1,b2,b3,Gt,Gt]at MV;simp -implicitDefEqProofs only[go_sem];rw[JbM h1 (UN MV)]
         |true=>rw[b1,b2,b3,Gt,Gt]at MV;simp -implicitDefEqProofs only[go_sem];refine⟨Ji,i+1,⟨om,⟨_,s1⟩,BJ MV⟩,om,?_⟩;simp[forget]
     ·have BS:i=t.nodes.length:=om
      subst BS;have d1:=dfF t.nodes.length t.nodes.length;have P7:JA (Ju t.nodes) []=some o:=by rw[<-GJ (l:=Ju t.nodes) (i:=t.nodes.length) (by simp[Ju])];exact ho
      have Aq:=QL _ _ _ Q8.nil P7;have Bf:=QR _ _ _ P7;simp only[Gd,Gn,Kj]at Bf;have hO:=JgI t ho (Gi _) Ah t.items om t.nodes.length (Gi _);have Mg:=items_eq (fst:=fs o) (isD:=λi=>Jo t.nodes i == 65) Aq Bf (λk _ _=>rfl) t.items;have Ak:t.nodes.all (ndI t.nodes)=true:=by rw[Gz];intro y hy;obtain⟨j,hj⟩:=G6 hy;have Ba:=(Gp.1 hj).1;have:=BQ j Ba;rw[Gb,hj]at this;exact this
      have M7:frm t=Jad o (λi=>Jo t.nodes i == 65) t.nodes.length t.items 0:=by unfold frm;rw[P7];simp only[Ak,Bool.and_true]
      simp -implicitDefEqProofs only[go_sem,Tr.row,Jb,d1];refine Kk hO ?_;simp -implicitDefEqProofs only[go_sem]
      cases b1:(Jgj (fs o) t.items.reverse t.nodes.length).2 with
      |false=>
       rw[JbM h1 (by rw[M7,Mg,decide_eq_false (λh=>by rw[h]at b1;cases b1)];rfl)];simp -implicitDefEqProofs only[go_sem]
      |true=>
       by_cases b2:(Jgj (fs o) t.items.reverse t.nodes.length).1=0
       ·have e2:((Jgj (fs o) t.items.reverse t.nodes.length).1 != 0)=false:=by simp[b2]
        have R8:Jgj (fs o) t.items.reverse t.nodes.length=(0,true):=Prod.ext b2 b1;rw[R8,decide_eq_true rfl,Gt]at Mg;simp -implicitDefEqProofs only[go_sem,e2];have fe:=(JdG Aq Bf (fst:=fs o) (λk _ _=>rfl) t.items.reverse t.nodes.length om om).1 R8;rw[List.reverse_reverse]at fe;have Ap:=λi hi=>QT Aq rfl t.items 0 t.nodes.length (by rw[Bf];exact fe) i hi
        refine JO (I:=λi:Nat=>i<=t.items.length/\∀k∈t.items.take i,(Jo t.nodes k == 65)=true) (inv:=λi=>gp [(1,.rptr t.row),(8,.int .i64 (i:Int))] 116) (hp:=λ_=>[.dead]) (μ:=λi=>t.items.length-i) 0 ⟨om,sM⟩ ?_ rfl ?_
        ·simp[forget,gp,Tr.row]
        ·rintro i ⟨hi,Fu⟩;have Aj:(iz t.items).length=t.items.length:=Jf;by_cases Ab:i<t.items.length
         ·have d2:=dtT i t.items.length;have AA:=JL Ab;have BZ:t.items.getD i 0∈t.items:=by rw[Gb,Ga Ab];exact Gf Ab
          have Ay:t.items.take (i+1)=t.items.take i++[t.items.getD i 0]:=by rw[GH Ab,Gb,Ga Ab];rfl
          generalize t.items.getD i 0=k at AA BZ Ay;have Ed:=Ap k BZ;have ED:=QE (l:=t.nodes) (i:=k.toNat) om;have Bv:Jo t.nodes k=(t.nodes.getD k.toNat default).k:=rfl;generalize t.nodes.getD k.toNat default=x at ED Bv;simp -implicitDefEqProofs only[go_sem,Tr.row,Aj,d2];refine J3 Jr vk ?_;simp -implicitDefEqProofs only[go_sem,Jb,Aj,AA];refine anO ?_;simp -implicitDefEqProofs only[go_sem,ED,Nd.cv];refine anO ?_;have q65:=Jej 65 x.k;simp only[GA]at q65
          cases b3:(x.k == 65) with
          |true=>
           have e3:((x.k:Int) != 65)=false:=by rw[bne,q65,b3];rfl
           simp -implicitDefEqProofs only[go_sem,e3];refine⟨Ji,i+1,⟨om,?_⟩,om,?_⟩
           ·rw[Ay];intro u hu;rcases GU.1 hu with hu|hu
            ·exact Fu u hu
            ·rw[Gu.1 hu,Bv];exact b3
           ·simp[forget]
          |false=>
           have e3:((x.k:Int) != 65)=true:=by rw[bne,q65,b3];rfl
           have hf:frm t=false:=by rw[M7,Mg,Ha];exact⟨k,BZ,by rw[Bv,b3];simp⟩
           rw[JbM h1 hf];simp -implicitDefEqProofs only[go_sem,e3]
         ·have BS:i=t.items.length:=om
          subst BS;rw[Gl]at Fu;have d2:=dfF t.items.length t.items.length;have hf:frm t=true:=by rw[M7,Mg,Gz];exact Fu
          have hc:chk t=if JbH t=true then 5 else 0:=by unfold chk;rw[if_neg h1,if_pos hf]
          rw[hc];simp -implicitDefEqProofs only[go_sem,Tr.row,Aj,d2];refine Kk (JgH t ht P7) ?_
          cases b4:JbH t with
          |true=>simp -implicitDefEqProofs only[go_sem]
          |false=>simp -implicitDefEqProofs only[go_sem]
       ·have e2:((Jgj (fs o) t.items.reverse t.nodes.length).1 != 0)=true:=by simp[b2]
        rw[JbM h1 (by rw[M7,Mg,decide_eq_false (λh=>by rw[h]at b2;exact b2 rfl)];rfl)];simp -implicitDefEqProofs only[go_sem,e2]
theorem YA {α:Type}{l:List α}{d:α}(h:i<l.length):l.take (i+1)=l.take i++[l.getD i d]:=by rw[GH h,Gb,Ga h];rfl
def Jdt (x:Nd):Bool:=decide (30<x.kids.length) || decide (60<x.text.length)
def vastH (t:Tr):Bool:=(decide (250<t.nodes.length) && decide (t.nodes.length<=700)) || decide (1400<t.nodes.length) || decide (40<t.items.length)
def vastT (t:Tr):Bool:=vastH t || t.nodes.any Jdt
theorem row_agg5 {x:Nd}{id:Nat}(hn:n=x.kids.length):wk (frz id 1 (iz x.kids) (.agg [.int .u8 x.k,S x.text,.int .i64 x.n,.slc id 0 n cap,.int .i64 x.pl])) (.agg x.cv):=by subst hn;have hl:(iz x.kids).length=x.kids.length:=Jf;simp only[frz,JV,if_true,Gn,hl,Gi,Gv];rw[<-hl,Gl];exact Ja4 ⟨wk.refl _,wk.refl _,wk.refl _,wk.rslc,wk.refl _,trivial⟩
theorem JbY (x:Nd)(hx:x.kids.length<=1000)(d:Int)(hk:∀k∈x.kids,InR .i64 (k+d)):Fn Gh 28 [.agg x.cv,.int .i64 d] (.agg (mvN d x).cv):=by
 have Bz:(iz x.kids).length=x.kids.length:=Jf;refine YW ?_ rfl rfl;refine J8 c28_ok λN=>?_
 simp only[c28,go_sem,Nd.cv];refine Js (I:=λi:Nat=>i<=x.kids.length) (inv:=λi=>gp [(1,.int .i64 d),(0,.ptr 0 0 0),(1,.ptr 1 0 0),(0,.slc 2 0 (iz ((x.kids.take i).map (· + d))).length (JaJ (iz ((x.kids.take i).map (· + d))))),(0,.int .i64 (i:Int))] 21)
  (hp:=λi=>[.arr 5 [x.cv],.arr 5 [[.int .u8 0,S [],.int .i64 0,.nils,.int .i64 0]],.arr 1 (iz ((x.kids.take i).map (· + d)))]) (μ:=λi=>x.kids.length-i) 0 [0,1,2] om rfl ?_ rfl ?_
 ·simp[forget,JB,ren,Jm,gp,iz,JaJ]
 ·intro i hi;by_cases Ab:i<x.kids.length
  ·have d1:=dtT i x.kids.length;have AA:=JL Ab;have Ay:(x.kids.take (i+1)).map (· + d)=(x.kids.take i).map (· + d)++[x.kids.getD i 0+d]:=by rw[YA (d:=0) Ab,Hd];rfl
   have Bf:((x.kids.take i).map (· + d)).length=i:=by simp;omega
   have Ap:x.kids.getD i 0∈x.kids:=by rw[Gb,Ga Ab];exact Gf Ab
   have AO:=hk _ Ap;generalize x.kids.getD i 0=k at AA Ay AO;generalize (x.kids.take i).map (· + d)=L at Ay Bf|-;have PN:(iz L).length=L.length:=Jf;have hz:iz (L++[k+d])=iz L++[[.int .i64 (k+d)]]:=KR;simp only[go_sem,Nd.cv,Bz,d1,AA,Jw];refine⟨om,AO,om,Ji,i+1,[0,1,4],om,om,rfl,?_,?_⟩
   ·have hc:=Ja (ρ:=[0,1,4]) (Jd (L++[k+d]));rw[hz]at hc;rw[Ay,hz];simp only[Ko,Gg,Gj,go_sem,Jj,hc];rfl
   ·rw[Ay,hz,YH];simp[forget,JB,ren,Jm]
  ·have BS:i=x.kids.length:=om
   subst BS;have d1:=dfF x.kids.length x.kids.length;rw[Gl];simp only[go_sem,Nd.cv,Bz,d1,splice];exact .inr ⟨2,1,iz (x.kids.map (· + d)),rfl,Jd _,row_agg5 (x:=mvN d x) (by simp[Jf,mvN])⟩
theorem JhO {z:Nat}{els:LM}{id:Nat}{y:CV}(hy:y.closed=true)(hn:n=els.length):wk (frz id z els (.agg [.slc id 0 n cap,y])) (.agg [.rslc z els none,y]):=by subst hn;simp only[frz,JV,if_true,Gn,Gi,Gv,Gl,QU y hy];exact Ja4 ⟨wk.rslc,wk.refl _,trivial⟩
theorem refCopy (t:Tr)(ht:t.Fit):Fn Gh 8 [t.cv] t.cv:=by
 have Ah:=ht.many;have Mf:=ht.items;have Aj:(iz t.items).length=t.items.length:=Jf;have Em:=Jd t.items;refine YW ?_ rfl rfl;refine J8 c8_ok λN=>?_
 obtain⟨R,hR⟩:∃R,R=iz t.items:=⟨_,rfl⟩;simp only[Tr.cv,Tr.row];rw[<-hR]at Em Aj|-
 cases R with
 |nil=>
  simp only[c8,go_sem];refine Je (id:=0) (z:=2) (els:=[[.rslc 5 (ndz t.nodes) none,.rslc 1 [] none]]) rfl rfl ?_;simp only[go_sem,JV,Kv,frz,Qj];refine Je (id:=2) (z:=1) (els:=[]) rfl rfl ?_;simp only[go_sem,JV,Kv,frz,Qj];refine XJ ?_;simp only[go_sem,Gq,Gs];refine Js (I:=λi:Nat=>i<=t.nodes.length) (inv:=λi=>gp [(1,.rptr [.rslc 5 (ndz t.nodes) none,.rslc 1 [] none]),(0,.ptr 1 0 0),(0,.ptr 2 0 0),(0,.int .i64 (i:Int))] 24) (hp:=λi=>[.dead,.arr 2 [[.nils,.nils]],.arr 2 [[JW 3 (ndz (t.nodes.take i)),.rslc 1 [] none]],KT 5 (ndz (t.nodes.take i))]) (μ:=λi=>t.nodes.length-i) 0 [0,1,3,4] om rfl ?_ ?_ ?_
  ·simp[forget,JB,ren,Jm,gp]
  ·rfl
  ·intro i hi;by_cases Ab:i<t.nodes.length
   ·have d1:=dtT i t.nodes.length;have hg:=QE Ab;have hx:=ht.nodes _ (Gf Ab);rw[<-rowg Ab]at hx;have Ay:ndz (t.nodes.take (i+1))=ndz (t.nodes.take i)++[(t.nodes.getD i default).cv]:=by rw[YA (d:=default) Ab];simp[ndz]
    have Ar:=JQ (t.nodes.take (i+1));have CU:(ndz (t.nodes.take i)).length=i:=by rw[Jb,Gy];omega
    generalize t.nodes.getD i default=x at hg hx Ay;generalize ndz (t.nodes.take i)=Z at Ay CU|-;have hM:=JbY x (by have:=hx.kidn;omega) 0 (λk hk=>by rw[GG];exact hx.kids k hk);have aU:mvN 0 x=x:=by obtain⟨k,te,n,ks,p⟩:=x;simp[mvN]
    rw[aU]at hM;simp only[go_sem,Jb,d1];refine Xz [false,true,false,false,false,false,false,false,false,true,false,true] Jr vM ?_;simp only[go_sem,Jb,hg];refine⟨om,by simp[Nd.cv],?_⟩;refine vh_f hM ?_;simp only[go_sem];refine JcJ [x.cv] rfl rfl rfl rfl ?_;simp only[go_sem,Jw,splice,Gc,Gd];refine⟨om,Ji,i+1,[0,1,2,4],om,om,rfl,?_,?_⟩
    ·rw[Ay]at Ar;have hc:=Ja (ρ:=[0,1,2,4]) Ar;rw[Ay,Km,Kn];simp only[Ko,Gg,Gj,go_sem,Jj,hc];rfl
    ·simp[forget,JB,ren,Jm]
   ·have BS:i=t.nodes.length:=om
    subst BS;have d1:=dfF t.nodes.length t.nodes.length;rw[Gl];have Mx:=JQ t.nodes
    cases hN:ndz t.nodes with
    |nil=>
     have BF:(([]:LM).length:Int)=t.nodes.length:=by rw[<-hN,Jb]
     simp only[Gd]at BF;simp only[go_sem,XA,YB,Gd,BF,d1,splice];exact .inl (Ja4 ⟨wk.nils,wk.refl _,trivial⟩)
    |cons f fs=>
     have BF:((fs.length+1:Nat):Int)=t.nodes.length:=by rw[<-Gc,<-hN,Jb]
     rw[Xb sM,QX sM];simp only[go_sem,Gc,BF,d1,splice];rw[hN]at Mx;exact .inr ⟨3,5,f::fs,rfl,Mx,JhO rfl rfl⟩
 |cons e es=>
  have Ef:es.length+1<=40:=by have:=Aj;simp only[Gc]at this;omega
  simp only[c8,go_sem,Jw,Gc];refine anO ?_;refine Je (id:=3) (z:=1) (els:=e::es) rfl Em ?_;simp only[go_sem,JV,Kv,frz,Qj,Gc,Gv,GJ (l:=e::es) (i:=es.length+1) (Gi _)];refine Je (id:=0) (z:=2) (els:=[[.rslc 5 (ndz t.nodes) none,.rslc 1 (e::es) none]]) rfl rfl ?_;simp only[go_sem,JV,Kv,frz,Qj];refine XJ ?_;simp only[go_sem,Gq,Gs];refine Js (I:=λi:Nat=>i<=t.nodes.length) (inv:=λi=>gp [(1,.rptr [.rslc 5 (ndz t.nodes) none,.rslc 1 (e::es) none]),(0,.ptr 1 0 0),(0,.ptr 2 0 0),(0,.int .i64 (i:Int))] 24) (hp:=λi=>[.dead,.arr 2 [[.nils,.nils]],.arr 2 [[JW 3 (ndz (t.nodes.take i)),.rslc 1 (e::es) none]],KT 5 (ndz (t.nodes.take i))]) (μ:=λi=>t.nodes.length-i) 0 [0,1,4,5] om rfl ?_ ?_ ?_
  ·simp[forget,JB,ren,Jm,gp]
  ·rfl
  ·intro i hi;by_cases Ab:i<t.nodes.length
   ·have d1:=dtT i t.nodes.length;have hg:=QE Ab;have hx:=ht.nodes _ (Gf Ab);rw[<-rowg Ab]at hx;have Ay:ndz (t.nodes.take (i+1))=ndz (t.nodes.take i)++[(t.nodes.getD i default).cv]:=by rw[YA (d:=default) Ab];simp[ndz]
    have Ar:=JQ (t.nodes.take (i+1));have CU:(ndz (t.nodes.take i)).length=i:=by rw[Jb,Gy];omega
    generalize t.nodes.getD i default=x at hg hx Ay;generalize ndz (t.nodes.take i)=Z at Ay CU|-;have hM:=JbY x (by have:=hx.kidn;omega) 0 (λk hk=>by rw[GG];exact hx.kids k hk);have aU:mvN 0 x=x:=by obtain⟨k,te,n,ks,p⟩:=x;simp[mvN]
    rw[aU]at hM;simp only[go_sem,Jb,d1];refine Xz [false,true,false,false,false,false,false,false,false,true,false,true] Jr vM ?_;simp only[go_sem,Jb,hg];refine⟨om,by simp[Nd.cv],?_⟩;refine vh_f hM ?_;simp only[go_sem];refine JcJ [x.cv] rfl rfl rfl rfl ?_;simp only[go_sem,Jw,splice,Gc,Gd];refine⟨om,Ji,i+1,[0,1,2,4],om,om,rfl,?_,?_⟩
    ·rw[Ay]at Ar;have hc:=Ja (ρ:=[0,1,2,4]) Ar;rw[Ay,Km,Kn];simp only[Ko,Gg,Gj,go_sem,Jj,hc];rfl
    ·simp[forget,JB,ren,Jm]
   ·have BS:i=t.nodes.length:=om
    subst BS;have d1:=dfF t.nodes.length t.nodes.length;rw[Gl];have Mx:=JQ t.nodes
    cases hN:ndz t.nodes with
    |nil=>
     have BF:(([]:LM).length:Int)=t.nodes.length:=by rw[<-hN,Jb]
     simp only[Gd]at BF;simp only[go_sem,XA,YB,Gd,BF,d1,splice];exact .inl (Ja4 ⟨wk.nils,wk.refl _,trivial⟩)
    |cons f fs=>
     have BF:((fs.length+1:Nat):Int)=t.nodes.length:=by rw[<-Gc,<-hN,Jb]
     rw[Xb sM,QX sM];simp only[go_sem,Gc,BF,d1,splice];rw[hN]at Mx;exact .inr ⟨3,5,f::fs,rfl,Mx,JhO rfl rfl⟩
end Go.Cm
end
namespace Go.Cm
structure Nd.Ty (x:Nd):Prop where
 k:x.k<256
 n:InR .i64 x.n
 kids:∀i∈x.kids,InR .i64 i
 pl:InR .i64 x.pl
structure Tr.Ty (t:Tr):Prop where
 nodes:∀x∈t.nodes,x.Ty
 items:∀i∈t.items,InR .i64 i
theorem Tr.Ty.fit {t:Tr}(h:t.Ty)(hv:vastT t=false):t.Fit:=by unfold vastT vastH at hv;simp only[GX,GM,decide_eq_false_iff_not,G9]at hv;obtain⟨⟨⟨_,h2⟩,h3⟩,h4⟩:=hv;refine⟨om,om,λx hx=>?_,h.items⟩;have hn:=h4 x hx;unfold Jdt at hn;simp only[GY,GX,decide_eq_false_iff_not]at hn;have ty:=h.nodes x hx;exact⟨ty.k,om,ty.n,om,ty.kids,ty.pl⟩
end Go.Cm
section
set_option maxRecDepth 100000
set_option maxHeartbeats 4000000
open Go.Proofs
namespace Go.Cm
variable {o:Lu}
theorem indexI (l:Lu)(x:Int)(hl:l.length<=100000):Fn Gh 135 [.rslc 1 (iz l) none,.int .i64 x] (.int .i64 (X8 (λy=>x == y) l 0)):=by
 have Aj:(iz l).length=l.length:=Jf;refine Jc c135_ok rfl rfl λN=>?_
 simp only[c135,go_sem,Aj];refine JO (I:=λi:Nat=>i<=l.length/\X8 (λy=>x == y) l 0=X8 (λy=>x == y) (l.drop i) i) (inv:=λi=>gp [(0,.rslc 1 (iz l) none),(0,.int .i64 x),(5,.int .i64 (l.length:Int)),(0,.int .i64 (i:Int))] 10) (hp:=λ_=>[]) (μ:=λi=>l.length-i) 0 ⟨om,rfl⟩ ?_ rfl ?_
 ·simp[forget,gp]
 ·rintro i ⟨hi,Aa⟩;by_cases Ab:i<l.length
  ·have d1:=dtT i l.length;have AA:=JL Ab;have Cn:l[i]? = some (l.getD i 0):=by rw[Gb,Ga Ab];rfl
   rw[Xx Cn]at Aa;simp only[go_sem,Aj,d1,AA];generalize l.getD i 0=y at Aa|-;refine anO ?_
   cases he:(x == y) with
   |true=>rw[he,if_pos rfl]at Aa;simp only[go_sem,Aa]
   |false=>rw[he]at Aa;simp only[go_sem];refine⟨Ji,i+1,⟨om,by simpa using Aa⟩,om,?_⟩;simp[forget]
  ·have d1:=dfF i l.length;rw[GR om]at Aa;simp only[go_sem,d1,Aa,X8]
theorem containsI (l:Lu)(x:Int)(hl:l.length<=100000):Fn Gh 85 [.rslc 1 (iz l) none,.int .i64 x] (.bool (l.contains x)):=by
 refine Jc c85_ok rfl rfl λN=>?_
 simp only[c85,go_sem];refine Kk (indexI l x hl) ?_;have e:decide (0<=X8 (λy=>x == y) l 0)=l.contains x:=by rw[JaZ,List.contains_eq_any_beq]
 simp only[go_sem,e]
theorem fixA_skip {α:Type}{q:α->Bool}{l:List α}:∀(n:Nat),n<=l.length->(∀j (h:j<l.length),j<n->q l[j]=false)->X8 q l 0=X8 q (l.drop n) n
 |0,_,_=>rfl
 |n+1,h,hq=>by rw[fixA_skip n om λj hj hn=>hq j hj om,Xx (Ga (by omega:n<l.length)),hq n om om];simp
theorem refParent (t:Tr)(ht:t.Fit)(g:GoodT t o)(n:Nat)(hn:n<t.nodes.length):Fn Gh 99 [t.cv,.int .i64 n] (.int .i64 (X8 (λx:Nd=>x.kids.contains (n:Int)) t.nodes 0)):=by
 have Ah:=ht.many;refine Jc c99_ok rfl rfl λN=>?_
 simp only[c99,go_sem,Tr.cv,Tr.row];refine⟨Ji,?_⟩;refine Je (id:=0) (z:=2) (els:=[t.row]) rfl rfl ?_;simp only[go_sem,JV,Kv,frz,Qj,Tr.row];have RG:X8 (λx:Nd=>x.kids.contains (n:Int)) t.nodes 0=X8 (λx:Nd=>x.kids.contains (n:Int)) (t.nodes.drop (n+1)) (n+1):=by
  refine fixA_skip (n+1) om λj hj Oy=>?_
  rw[<-GY,List.contains_iff_mem];intro hm;have:=g.kid hj (k:=n) (by rw[rowg hj];exact hm);omega
 refine JO (I:=λi:Nat=>i<=t.nodes.length/\X8 (λx:Nd=>x.kids.contains (n:Int)) t.nodes 0=X8 (λx:Nd=>x.kids.contains (n:Int)) (t.nodes.drop i) i) (inv:=λi=>gp [(1,.int .i64 (n:Int)),(0,.rptr t.row),(2,.int .i64 (i:Int))] 33) (hp:=λ_=>[.dead]) (μ:=λi=>t.nodes.length-i) (n+1) ⟨om,RG⟩ ?_ rfl ?_
 ·simp[forget,gp,Tr.row]
 ·rintro i ⟨hi,Aa⟩;by_cases Ab:i<t.nodes.length
  ·have d1:=dtT i t.nodes.length;have hg:=QE Ab;have hx:=ht.nodes _ (Gf Ab);rw[<-rowg Ab]at hx;have Cn:t.nodes[i]? = some (t.nodes.getD i default):=by rw[Gb,Ga Ab];rfl
   rw[Xx Cn]at Aa;generalize t.nodes.getD i default=x at hg Aa hx;have BL:=hx.kidn;have Bz:(iz x.kids).length=x.kids.length:=Jf;simp only[go_sem,Tr.row,Jb,d1];refine JO (I:=λj:Nat=>j<=x.kids.length/\x.kids.contains (n:Int)=(x.kids.drop j).contains (n:Int)) (inv:=λj=>gp [(1,.int .i64 (n:Int)),(0,.rptr t.row),(2,.int .i64 (i:Int)),(0,.int .i64 (j:Int))] 32) (hp:=λ_=>[.dead]) (μ:=λj=>x.kids.length-j) 0 ⟨om,rfl⟩ ?_ rfl ?_
   ·simp[forget,gp,Tr.row]
   ·rintro j ⟨hj,Fg⟩;by_cases Ba:j<x.kids.length
    ·have d2:=dtT j x.kids.length;have AA:=JL Ba;rw[G5 Ba,List.contains_cons,show x.kids[j]=x.kids.getD j 0 by rw[Gb,Ga Ba];rfl]at Fg;generalize x.kids.getD j 0=k at AA Fg;have IQ:(k == (n:Int))=((n:Int) == k):=by rw[GZ,beq_iff_eq,beq_iff_eq];exact eq_comm
     cases he:(k == (n:Int)) with
     |true=>rw[<-IQ,he,Bool.true_or]at Fg;rw[Fg,if_pos rfl]at Aa;simp only[go_sem,Tr.row,Jb,hg,Nd.cv,Bz,d2,AA,he,Aa];omega
     |false=>rw[<-IQ,he,Bool.false_or]at Fg;simp only[go_sem,Tr.row,Jb,hg,Nd.cv,Bz,d2,AA,he];refine⟨om,om,om,Ji,j+1,⟨om,Fg⟩,om,?_⟩;simp[forget]
    ·have d2:=dfF j x.kids.length;rw[GR om]at Fg;rw[Fg]at Aa;simp only[go_sem,Tr.row,Jb,hg,Nd.cv,Bz,d2];refine⟨om,Ji,i+1,⟨om,by simpa using Aa⟩,om,?_⟩;simp[forget]
  ·have d1:=dfF i t.nodes.length;rw[GR om]at Aa;simp only[go_sem,Tr.row,Jb,d1,Aa,X8]
theorem ord_take {t:Tr}(g:GoodT t o):JA ((Ju t.nodes).take t.nodes.length) []=some o:=by rw[GJ (by rw[Kj];exact Gi _)];exact g.ord.h
theorem refIsBelow (t:Tr)(ht:t.Fit)(g:GoodT t o)(a:Int)(i:Nat)(hi:i<t.nodes.length):Fn Gh 151 [t.cv,.int .i64 a,.int .i64 i] (.bool (decide (a<=i) && decide (fs o i<=a))):=by
 refine Jc c151_ok rfl rfl λN=>?_
 by_cases h:a<=(i:Int)
 ·have d1:(a<=(i:Int))=True:=eq_true h;simp only[c151,go_sem,Tr.cv,Tr.row,d1];refine Kt (gok rfl) (JhX t (ord_take g) (Gi _) i hi) ?_;simp only[go_sem]
 ·have d1:(a<=(i:Int))=False:=eq_false h;simp only[c151,go_sem,Tr.cv,Tr.row,d1]
def kid (x:Nd)(i:Nat):Int:=x.kids.getD i 0
end Go.Cm
end
namespace Go.Cm
variable {P:Program}{f n y z:Nat}{e els:LM}
def flat (o:CObj):Prop:=o=.dead\/∃z els,o=.arr z els/\Jq els=true
section
variable{E:Env}{H:Lt}
theorem JdR {α:Type}{a b:List α}{k:Nat}{x:α}(h:(a++b)[k]? = some x):(k<a.length/\a[k]? = some x)\/∃j,k=a.length+j/\b[j]? = some x:=by
 rcases GL k a.length with Ab|Cn
 ·rw[GI Ab]at h;exact .inl ⟨Ab,h⟩
 ·rw[GQ Cn]at h;exact .inr ⟨k-a.length,om,h⟩
theorem app_get2 {α:Type}{a b:List α}{j:Nat}:(a++b)[a.length+j]? = b[j]?:=by rw[GQ om];congr 1;omega
theorem CallsC.frameG{args:Ls}{G:Lt}{mk:Nat->CV}(h:CallsC P Env.none f args [] λv H'=>v=mk 0/\H'=G)(ha:Jp args=true)(hG:∀o∈G,flat o)
  (Ov:∀(n:Nat) (own own':LA) imm r,(∀(k:Nat) x,own[k]? = some x->own'[n+k]? = some x)->rel own imm (mk 0) r->rel own' imm (mk n) r):CallsC P E f args H λv H'=>v=mk H.length/\H'=H++G:=by
 intro m w vs hs hv;refine(h _ w vs hs.nothing (Qa _ _ ha hv)).mono ?_;rintro e w' ⟨r,m',v,H',rfl,Ae,AC,hrel,rfl,rfl⟩;obtain⟨h1,h2⟩:=hs.back Ae AC;have Ce:∀B,¬owned { own:=[],imm:=m.imm,ext:=λ_=>False } [] B:=by
  rintro B (h|⟨k,o,x,hk,_⟩)
  ·exact h
  ·simp at hk
 have Ad:m.own.length=H.length:=hs.len;have I5:∀(k:Nat) o x,H[k]? = some o->o.alive=true->m.own[k]? = some x->x.B<w.heap.size:=λk o x hk Ao hx=>Yx hs hk Ao hx
 have FH:∀(k:Nat) o x,H'[k]? = some o->o.alive=true->m'.own[k]? = some x->w.heap.size<=x.B:=λk o x hk Ao hx=>(Ae.newOwn x.B (.inr ⟨k,o,x,hk,Ao,hx,rfl⟩)).resolve_left (Ce _)
 have two:∀(k:Nat) o x,(H++H')[k]? = some o->(m.own++m'.own)[k]? = some x->(k<H.length/\H[k]? = some o/\m.own[k]? = some x)\/∃j,k=H.length+j/\H'[j]? = some o/\m'.own[j]? = some x:=by
  intro k o x hk hx;rcases JdR hk with ⟨Ab,Am⟩|⟨j,rfl,Am⟩
  ·rw[GI om]at hx;exact .inl ⟨Ab,Am,hx⟩
  ·rw[<-Ad,app_get2]at hx;exact .inr ⟨j,rfl,Am,hx⟩
 have Bd:=K9.append m.own m'.own;refine⟨r,{ m with own:=m.own++m'.own,imm:=m'.imm },mk H.length,H++H',rfl,?_,?_,?_,rfl,rfl⟩
 ·have hE:=h2 H.length;refine⟨hE.size,hE.frame,hE.imm,?_,hE.newImm,λk x _ hx=>Bd _ _ hx,λh=>by simp;omega,hE.same⟩;rintro B (hB|⟨k,o,x,hk,Ao,hx,rfl⟩)
  ·exact .inl (.inl hB)
  ·rcases two k o x hk hx with ⟨_,hk,hx⟩|⟨j,_,hk,hx⟩
   ·exact .inl (.inr ⟨k,o,x,hk,Ao,hx,rfl⟩)
   ·exact .inr (FH j o x hk Ao hx)
 ·refine⟨by simp[hs.len,AC.len],λk o x hk hx=>?_,h1.imm,h1.one,λk k' o o' x x' hk AL ha AX hx Av hB=>?_,λk o x hk Ao hx=>?_,λk s b hk=>?_,λk o x hk Ao hx=>?_,h1.extlt,h1.gl⟩
  ·rcases two k o x hk hx with ⟨_,hk,hx⟩|⟨j,_,hk,hx⟩
   ·exact KO Bd (KN.refl _) (λ_=>rfl) (h1.obj k o x hk hx)
   ·have ho:=AC.obj j o x hk hx;rcases hG o (Gx hk) with rfl|⟨z,els,rfl,hc⟩
    ·trivial
    ·obtain⟨hz,c,elem,g1,g2,g3,g4,g5⟩:=ho;exact⟨hz,c,elem,g1,g2,g3,λj e he=>⟨(g4 j e he).1,λt c BU=>let ⟨r,q1,q2⟩:=(g4 j e he).2 t c BU;⟨r,q1,Qx c r (Y0 (YG hc _ _ he) _ _ BU) q2⟩⟩,g5⟩
  ·rcases two k o x hk hx with ⟨_,hk,hx⟩|⟨j,rfl,hk,hx⟩ <;> rcases two k' o' x' AL Av with ⟨_,AL,Av⟩|⟨j',rfl,AL,Av⟩
   ·exact h1.sep k k' o o' x x' hk AL ha AX hx Av hB
   ·have a1:=I5 k o x hk ha hx;have a2:=FH j' o' x' AL AX Av;omega
   ·have a1:=I5 k' o' x' AL AX Av;have a2:=FH j o x hk ha hx;omega
   ·rw[AC.sep j j' o o' x x' hk AL ha AX hx Av hB]
  ·rcases two k o x hk hx with ⟨_,hk,hx⟩|⟨j,rfl,hk,hx⟩
   ·exact h1.ro k o x hk Ao hx
   ·exact AC.ro j o x hk Ao hx
  ·rcases JdR hk with ⟨_,Am⟩|⟨j,rfl,Am⟩
   ·exact h1.ext k s b Am
   ·rcases hG _ (Gx Am) with h|⟨z,els,h,_⟩ <;> cases h
  ·rcases two k o x hk hx with ⟨_,hk,hx⟩|⟨j,rfl,hk,hx⟩
   ·exact h1.extsep k o x hk Ao hx
   ·intro hB;have a1:=FH j o x hk Ao hx;have a2:=hs.extlt x.B hB;omega
 ·exact Ov H.length m'.own (m.own++m'.own) m'.imm r (λk x hk=>by rw[<-Ad,app_get2];exact hk) hrel
theorem Jy{id:Nat}:∀{els:LM},Jq els=true->els.map (JV id z e)=els
 |[],_=>rfl
 |x::xs,h=>by simp only[Jq,Gm]at h;rw[Gg,QG _ h.1,Jy h.2]
theorem Fn.args{args args':Ls}{v:CV}(h:Fn P f args v)(hw:wks args' args):Fn P f args' v:=λE H m w vs hs hv=>h E H m w vs hs (JaL hw hv)
theorem JgE(i n:Nat){own own':LA}{imm:Nat->Nat->LD}{r:Value}(ho:∀(k:Nat) x,own[k]? = some x->own'[n+k]? = some x)(h:rel own imm (JW i els) r):rel own' imm (JW (n+i) els) r:=by
 cases els with
 |nil=>exact h
 |cons e l=>simp only[JW,rel]at h|-;obtain⟨x,a,c,hx,g⟩:=h;exact⟨x,a,c,ho _ _ hx,g⟩
theorem Je8(h:Jq els=true):flat (KT z els):=by
 cases els with
 |nil=>exact .inl rfl
 |cons e l=>exact .inr ⟨_,_,rfl,h⟩
theorem rowV_one {id:Nat}:(JW id els).oneCell=true:=by cases els <;> rfl
attribute [go_sem ↓] rowV_one
theorem QC{id j:Nat}(h:j≠id):frz id z e (JW j els)=JW j els:=by
 cases els with
 |nil=>rfl
 |cons x l=>simp only[JW,frz];rw[if_neg h]
theorem KU{id:Nat}(h:Jq els=true):Qj id z e (KT y els)=KT y els:=by
 cases els with
 |nil=>rfl
 |cons x l=>simp only[KT,Qj];rw[Jy h]
theorem fn_of_two{args:Ls}{i j:Nat}{Z R:LM}(h:CallsC P Env.none f args [] λv H'=>∃cap,v=.agg [JW i Z,.slc j 0 R.length cap]/\H'[i]? = some (KT z Z)/\H'[j]? = some (.arr y R))(Cw:i≠j)(ha:Jp args=true)(hZ:Jq Z=true)(hR:Jq R=true):Fn P f args (.agg [.rslc z Z none,.rslc y R none]):=by
 have h1:=h.freeze (R':=λv H'=>v=.agg [JW i Z,.rslc y R none]/\H'[i]? = some (KT z Z)) λv H' ⟨cap,hv,g1,g2⟩=>⟨j,y,R,g2,hR,by
  rw[hv];simp only[frz,JV,QC Cw,if_true,Gn,Gi,Gv,Gl],by
  simp only[Kv];rw[List.getElem?_set_ne Cw.symm,Gr,g1,Hg,KU hZ]⟩
 refine YW (h1.mono λv H' ⟨hv,g1⟩=>?_) ha rfl;subst hv
 cases Z with
 |nil=>exact .inl (Ja4 ⟨wk.nils,wk.refl _,trivial⟩)
 |cons e l=>exact .inr ⟨i,z,e::l,g1,hZ,by simp only[JW,frz,JV,if_true,Gn,Gc,Gi,Gv];rw[show l.length+1=(e::l).length from rfl,Gl];exact wk.refl _⟩
inductive Frzs (v0:CV):CV->Lt->Prop
 |done {v:CV} {H:Lt}:wk v v0->Frzs v0 v H
 |step {v:CV} {H:Lt} (id z:Nat) (els:LM):H[id]? = some (.arr z els)->Jq els=true->Frzs v0 (frz id z els v) (Kv id z els H)->Frzs v0 v H
theorem YK{args:Ls}{v0:CV}(h:CallsC P Env.none f args [] λv H'=>Frzs v0 v H')(ha:Jp args=true)(hv:v0.closed=true):Fn P f args v0:=by
 refine Jin ?_ ha hv;intro m w vs hs BK;refine(h m w vs hs BK).mono ?_;rintro e w' ⟨r,m',v,H',h1,h2,h3,h4,g⟩;subst h1
 induction g generalizing m' with
 |done hw=>exact⟨r,m',v0,_,rfl,h2,h3,hw _ _ _ h4,rfl⟩
 |step id z els g1 g2 _ ih=>obtain⟨imm',AC,he,hf⟩:=Sim.freeze (n0:=([]:Lt).length) h3 g1 g2;exact ih _ (h2.trans he) AC (hf _ _ h4)
def Jeo (P:Program)(f:Nat)(args:Ls)(z:Nat)(els:LM):Prop:=∀(E:Env) (H:Lt),CallsC P E f args H λv H'=>v=JW H.length els/\H'=H++[KT z els]
theorem JeF{args:Ls}(h:CallsC P Env.none f args [] λv H'=>∃id,v=JW id els/\H'[id]? = some (KT z els))(ha:Jp args=true)(hc:Jq els=true):Jeo P f args z els:=λE H=>by
 refine CallsC.frameG (mk:=λn=>JW n els) (G:=[KT z els]) (h.ren λv H' ⟨id,hv,hH⟩=>⟨[id],?_,?_,?_⟩) ha (λo ho=>by simp only[Gu]at ho;rw[ho];exact Je8 hc) λn own own' imm r ho h=>JgE 0 n ho h
 ·have:=(Gp.1 hH).1;simp[JdC,this]
 ·rw[hv];exact JS (by simp[ren,Jm])
 ·simp only[Ko,Gg,Gj,Gb,hH,GV]
  cases els with
  |nil=>rfl
  |cons e l=>have:=Ja (ρ:=[id]) hc;simp only[KT,Jj,this]
theorem Jeo.fn{args:Ls}(h:Jeo P f args z els)(ha:Jp args=true)(hc:Jq els=true):Fn P f args (.rslc z els none):=Jg7 ((h Env.none []).mono λv H' ⟨h1,h2⟩=>⟨0,h1,by rw[h2];rfl⟩) ha hc
end
section
variable{E:Env}{n0:Nat}{N:Fr}{Q:Exit->Ls->Lt->Prop}{H:Lt}{T:Ls}{k:LJ}{l:LB}{es:List Lx}
theorem Jgp {d:Option Nat}{g:Option (Nat×Bool)}{xa:LK}{l:LB}(hg:GOk T g)(Af:Jeo P f (xa.map (Ke T)) z els)(h:KA P E n0 N Q (.ops l::k) (put T d (JW H.length els)) (H++[KT z els])):Ok P E n0 N Q (.ops (⟨d,.call f xa,g⟩::l)::k) T H:=Ky hg (Af E H) λv H' ⟨h1,h2⟩=>by rw[h1,h2];exact h
theorem vr_loopL {x:ICode}{σ:Type}(I:σ->Prop)(inv:σ->Ls)(hp:σ->Lt)(μ:σ->Nat)(s0:σ)(h0:I s0)(hT:∀Q,leads P E n0 N Q (inv s0) (hp s0) T H)
  (hb:∀s,I s->KA P E n0 N (JdV P E n0 N Q k λT' H'=>∃s',I s'/\μ s' < μ s/\∀Q,leads P E n0 N Q (inv s') (hp s') T' H') [.code x] (inv s) (hp s)):Ok P E n0 N Q (.code (.loop x)::k) T H:=by
 refine ok_loop (I:=λs T H=>I s/\∀Q,leads P E n0 N Q (inv s) (hp s) T H) μ s0 ⟨h0,hT⟩ ?_;rintro s T H ⟨hs,hl⟩;refine hl _ _ ?_;exact(Jz _ _ _ (hb s hs)).mono λe T' H' hq=>Jbe (λT2 H2 ⟨s',AC,Ab,Sy⟩=>⟨s',⟨AC,Sy⟩,Ab⟩) hq
def Jd7 (P:Program)(E:Env)(n0:Nat)(N:Fr)(Q:Exit->Ls->Lt->Prop)(k:LJ)(l:LB)(es:List Lx)(T:Ls)(H:Lt):Prop:=∀is,Sched l.length es (λ_=>false) is->Ok P E n0 N Q (.ops (is.map (QY l))::k) T H
theorem JeQ (hm:P.follows .mixedOrders=true)(h:Jd7 P E n0 N Q k l es T H):Ok P E n0 N Q (.code (.dreg l es)::k) T H:=ok_draw hm h
theorem JaB (i j:Nat)(hb:(!(i == j) && decide (i<es.length) && decide (j<es.length))=true)(h1:Jd7 P E n0 N Q k l (JaK es j i) T H)(h2:Jd7 P E n0 N Q k l (JaK es i j) T H):Jd7 P E n0 N Q k l es T H:=by
 intro is hs;simp only[Gm,Bool.not_eq_true',beq_eq_false_iff_ne,decide_eq_true_eq]at hb;rcases JgA hb.1.1 hb.1.2 hb.2 hs rfl rfl with h|h
 ·exact h1 is h
 ·exact h2 is h
theorem Xi (bs:LH)(T':Ls)(H':Lt)(AJ:(l.length == bs.length && (JaF l.length es (clo es) && Qd l (clo es) (bs.map Q4)))=true)(AB:Ok P E n0 N Q k T' H')(h:vdk P E (leads P E n0 N Q T' H') l bs T H):Jd7 P E n0 N Q k l es T H:=λ_ hs=>Je2 AJ h AB hs
def pm (p:Lx)(a:Nat):Nat:=p.getD a a
theorem pm_out {p:Lx}{a:Nat}(h:p.length<=a):pm p a=a:=by unfold pm;rw[Gb,List.getElem?_eq_none h];rfl
def Jd2 (n:Nat)(p q:Lx):Bool:=p.length == n && q.length == n && (List.range n).all λa=>decide (pm p a<n) && decide (pm q a<n) && pm q (pm p a) == a && pm p (pm q a) == a
theorem sched_perm{p q:Lx}(hb:Jd2 n p q=true){es2:List Lx}(he:∀a,a<n->es2.getD a []=(es.getD (pm p a) []).map (pm q)){S:Nat->Bool}{is:Lx}(h:Sched n es S is):Sched n es2 (λa=>S (pm p a)) (is.map (pm q)):=by
 simp only[Jd2,Gm,beq_iff_eq,Gz,Hf,decide_eq_true_eq]at hb;obtain⟨⟨CU,MP⟩,Ak⟩:=hb;have IZ:∀a,pm p (pm q a)=a:=λa=>by
  rcases GL a n with h|h
  ·exact(Ak a h).2
  ·rw[pm_out (p:=q) om,pm_out om]
 have iZ:∀a,pm q (pm p a)=a:=λa=>by
  rcases GL a n with h|h
  ·exact(Ak a h).1.2
  ·rw[pm_out (p:=p) om,pm_out om]
 induction h with
 |nil hn=>
  refine .nil λa ha hS=>?_
  obtain⟨e,h1,h2⟩:=hn _ (Ak a ha).1.1.1 hS;exact⟨pm q e,by rw[he a ha];exact List.mem_map_of_mem h1,by rw[IZ];exact h2⟩
 |cons ha hS hr _ ih=>
  rename_i S a is _;refine .cons (Ak a ha).1.1.2 (by rw[IZ];exact hS) (λe hm=>?_) ?_
  ·rw[he _ (Ak a ha).1.1.2,IZ]at hm;obtain⟨e',h1,rfl⟩:=List.mem_map.1 hm;rw[IZ];exact hr e' h1
  ·have e:(λb=>S (pm p b) || b == pm q a)=λb=>S (pm p b) || pm p b == a:=by
    funext b
    congr 1
    by_cases h:b=pm q a
    ·subst h;rw[IZ];simp
    ·have:pm p b≠a:=λhh=>h (by rw[<-hh,iZ])
     rw[beq_false_of_ne h,beq_false_of_ne this]
   rw[e];exact ih
theorem sched_mem{S:Nat->Bool}{is:Lx}(h:Sched n es S is):∀a∈is,a<n:=by
 induction h with
 |nil _=>intro a ha;cases ha
 |cons h _ _ _ ih=>intro a ha;exact(GK.1 ha).elim (λh'=>by subst h';exact h) (ih a)
def prl (p:Lx)(l:LB):LB:=p.map λa=>QY l a
def pre (p q:Lx)(es:List Lx):List Lx:=p.map λa=>(es.getD a []).map (pm q)
theorem JaA (p q:Lx)(hb:Jd2 l.length p q=true)(h:Jd7 P E n0 N Q k (prl p l) (pre p q es) T H):Jd7 P E n0 N Q k l es T H:=by
 intro is hs;have Cb:=hb;simp only[Jd2,Gm,beq_iff_eq,Gz,Hf,decide_eq_true_eq]at Cb;obtain⟨⟨CU,MP⟩,Ak⟩:=Cb;have Ad:(prl p l).length=l.length:=by rw[prl,List.length_map];exact CU
 have F9:=sched_perm hb (es2:=pre p q es) (λa ha=>by unfold pre pm;rw[Gb,Gr,Ga om];simp[Gb,Ga (show a<p.length by omega)]) hs
 rw[<-Ad]at F9;have:=h _ F9;have e:(is.map (pm q)).map (QY (prl p l))=is.map (QY l):=by
  rw[List.map_map];refine List.map_congr_left λa ha=>?_
  have Ao:=sched_mem hs a ha;have h1:=(Ak a Ao).1.1.2;have h2:=(Ak a Ao).2;simp only[Function.comp];unfold prl QY;rw[Gb,Gr,Ga om];simp only[Hg,GV];have e2:p[pm q a]' om=a:=by unfold pm at h2|-;rw[Gb,Ga (by simpa [pm]using (by omega:pm q a<p.length))]at h2;exact h2
  rw[e2]
 rw[e]at this;exact this
end
end Go.Cm
section
set_option maxRecDepth 100000
set_option maxHeartbeats 4000000
open Go.Proofs
namespace Go.Cm
variable {t:Tr}{o:Lu}
theorem rowN {l:LC}{i:Nat}(h:i<l.length):l.getD i default=l[i]:=by rw[Gb,Ga h];rfl
def JdP (o:Lu)(t:Tr)(i:Nat):Tr:=
 let last:=t.items.getD i 0
 ⟨((t.nodes.drop (fs o last).toNat).take (last.toNat+1-(fs o last).toNat)).map (mvN (-(fs o last))),[last-fs o last]⟩
def noT:Tr:=⟨[],[]⟩
theorem GoodT.item(g:GoodT t o){i:Nat}(hi:i<t.items.length):∃L F:Nat,t.items.getD i 0=(L:Int)/\fs o L=(F:Int)/\F<=L/\L<t.nodes.length/\o.length=t.nodes.length/\o.getD L 0=(F:Int):=by
 have Bf:o.length=t.nodes.length:=by rw[g.ord.len,Kj]
 have hm:t.items.getD i 0∈t.items:=by rw[Gb,Ga hi];exact Gf hi
 obtain⟨_,h2,h3,h4⟩:=QT g.ord.ok Bf _ _ _ g.its _ hm;obtain⟨h5,h6⟩:=Jik g.ord.ok h2 om;generalize t.items.getD i 0=L at *;obtain⟨L,rfl⟩:∃n:Nat,L=(n:Int):=⟨L.toNat,om⟩;exact⟨L,(fs o L).toNat,rfl,om,om,om,Bf,by rw[show o.getD L 0=fs o (L:Int) by simp[fs]];omega⟩
theorem GoodT.kidr(g:GoodT t o){x:Nd}(hx:x∈t.nodes){k:Int}(hk:k∈x.kids):0<=k/\k<t.nodes.length:=by obtain⟨j,hj⟩:=G6 hx;have Ba:=(Gp.1 hj).1;have:=Xo g.ord.h (j:=j) (ks:=x.kids) (by simp[Ju,hj]) k hk;omega
theorem refCut (t:Tr)(ht:t.Fit)(g:GoodT t o)(i:Nat)(hi:i<t.items.length):Fn Gh 17 [t.cv,.int .i64 (i:Int)] (JdP o t i).cv:=by
 have FN:=g.items;have Ah:=g.many;have Aj:(iz t.items).length=t.items.length:=Jf;obtain⟨L,F,hL,Rj,UA,BH,Bf,Sc⟩:=g.item hi;have AA:(iz t.items).getD i []=[.int .i64 (L:Int)]:=by rw[JL hi,hL]
 have hR:=JhX t (ord_take g) (Gi _) L BH;rw[Rj]at hR;have hT:JdP o t i=⟨((t.nodes.drop F).take (L+1-F)).map (mvN (-(F:Int))),[(L:Int)-F]⟩:=by unfold JdP;simp only[hL,Rj,GD]
 rw[hT];obtain⟨O,hO⟩:∃O:Nat->LC,O=λj=>((t.nodes.drop F).take j).map (mvN (-(F:Int))):=⟨_,rfl⟩
 have cO:O 0=[]:=by rw[hO];simp
 have kg:((t.nodes.drop F).take (L+1-F)).map (mvN (-(F:Int)))=O (L+1-F):=by rw[hO]
 have U9:∀j,j<=L+1-F->(O j).length=j:=λj hj=>by rw[hO];simp;omega
 have cK:∀j,j<L+1-F->O (j+1)=O j++[mvN (-(F:Int)) (t.nodes.getD (F+j) default)]:=λj hj=>by rw[hO];simp only;rw[YA (d:=default) (by rw[List.length_drop];omega),Hd];simp[Gb]
 rw[kg];refine YW ?_ rfl rfl;refine J8 c17_ok λN=>?_
 simp -implicitDefEqProofs only[c17,go_sem,Tr.cv,Tr.row,Aj,AA];refine anO ?_;refine Je (id:=0) (z:=2) (els:=[t.row]) rfl rfl ?_;simp only[go_sem,JV,Kv,frz,Qj,Tr.row];refine Kk hR ?_;simp -implicitDefEqProofs only[go_sem,splice,Gc,Gd];refine⟨Ji,?_⟩;refine Je (id:=2) (z:=1) (els:=[[.int .i64 ((L:Int)-F)]]) rfl rfl ?_;simp only[go_sem,JV,Kv,frz,Qj,Gc,Gd,Gn,Gi,if_true,Gv,List.take_succ_cons,List.take_zero];refine XJ ?_;simp only[go_sem,Gq,Gs];refine Js (I:=λj:Nat=>j<=L+1-F) (inv:=λj=>gp [(2,.rptr t.row),(1,.ptr 1 0 0),(0,.int .i64 (L:Int)),(0,.int .i64 (F:Int)),(0,.ptr 3 0 0),(0,.int .i64 ((F+j:Nat):Int))] 33) (hp:=λj=>[.dead,.arr 2 [[.nils,.nils]],.dead,.arr 2 [[JW 4 (ndz (O j)),.rslc 1 [[.int .i64 ((L:Int)-F)]] none]],KT 5 (ndz (O j))]) (μ:=λj=>L+1-F-j) 0 [0,1,2,3,4] om rfl ?_ ?_ ?_
 ·simp[forget,JB,ren,Jm,gp,Tr.row]
 ·rw[cO];rfl
 ·intro j hj;by_cases Ab:j<L+1-F
  ·have d1:(((F+j:Nat):Int)<=(L:Int))=True:=KQ;have dw:F+j<t.nodes.length:=om
   have hg:=QE dw;have IK:t.nodes.getD (F+j) default∈t.nodes:=by rw[rowN dw];exact Gf dw
   have hx:=ht.nodes _ IK;have Rm:∀k∈(t.nodes.getD (F+j) default).kids,InR .i64 (k + -(F:Int)):=λk hk=>by have:=g.kidr IK hk;exact Ji
   have Uq:=cK j Ab;have Ar:=JQ (O (j+1));have CU:(ndz (O j)).length=j:=by rw[Jb,U9 j hj]
   generalize t.nodes.getD (F+j) default=x at hg hx Rm Uq;have Ay:ndz (O (j+1))=ndz (O j)++[(mvN (-(F:Int)) x).cv]:=by rw[Uq];simp[ndz]
   have hM:=JbY x (by have:=hx.kidn;omega) (-(F:Int)) Rm;generalize ndz (O j)=Z at Ay CU|-;simp -implicitDefEqProofs only[go_sem,d1,Tr.row];refine Xz [false,true,false,false,false,false,false,false,false,false,false,true,false,true] Jr vM ?_;simp -implicitDefEqProofs only[go_sem,Jb,hg,Int.zero_sub]
   repeat (refine And.intro (by first|omega|exact Ji|simp[Nd.cv]) ?_)
   refine vh_f hM ?_;simp -implicitDefEqProofs only[go_sem];refine JcJ [(mvN (-(F:Int)) x).cv] rfl rfl rfl rfl ?_;simp -implicitDefEqProofs only[go_sem,Jw,splice,Gc,Gd];refine⟨om,Ji,j+1,[0,1,2,3,5],om,om,rfl,?_,?_⟩
   ·rw[Ay]at Ar;have hc:=Ja (ρ:=[0,1,2,3,5]) Ar;rw[Ay,Km,Kn];simp only[Ko,Gg,Gj,go_sem,Jj,hc];rfl
   ·simp[forget,JB,ren,Jm];omega
  ·have BR:j=L+1-F:=om
   subst BR;have d1:(((F+(L+1-F):Nat):Int)<=(L:Int))=False:=Kq;have Mx:=JQ (O (L+1-F));have Ag:ndz (O (L+1-F))≠[]:=by intro e;have:=congrArg List.length e;rw[Jb,U9 _ (Gi _)]at this;simp at this;omega
   rw[Xb Ag,QX Ag];simp -implicitDefEqProofs only[go_sem,d1,splice];exact .inr ⟨4,5,ndz (O (L+1-F)),rfl,Mx,JhO rfl rfl⟩
theorem mvN0 (x:Nd):mvN 0 x=x:=by obtain⟨k,te,n,ks,p⟩:=x;simp[mvN]
theorem copyO (t:Tr)(ht:t.Fit)(E:Env)(H:Lt):CallsC Gh E 8 [t.cv] H λv H'=>v=.agg [JW H.length (ndz t.nodes),.slc (H.length+1) 0 (iz t.items).length (JaJ (iz t.items))]/\H'=H++[KT 5 (ndz t.nodes),.arr 1 (iz t.items)]:=by
 have Ah:=ht.many;have Mf:=ht.items;have Aj:(iz t.items).length=t.items.length:=Jf;have Em:=Jd t.items;refine CallsC.frameG (mk:=λn=>.agg [JW n (ndz t.nodes),.slc (n+1) 0 (iz t.items).length (JaJ (iz t.items))]) (G:=[KT 5 (ndz t.nodes),.arr 1 (iz t.items)]) ?_ rfl ?_ ?_
 rotate_left
 ·intro o ho;rcases GK.1 ho with rfl|ho
  ·exact Je8 (JQ _)
  ·rw[Gu]at ho;exact .inr ⟨_,_,ho,Em⟩
 ·rintro n own own' imm r ho ⟨vs,rfl,r1,rs1,e1,h1,r2,rs2,e2,⟨x,a,c,hx,gg⟩,h3⟩;exact⟨vs,rfl,r1,rs1,e1,JgE 0 n ho h1,r2,rs2,e2,⟨x,a,c,ho _ _ hx,gg⟩,h3⟩
 refine CallsC.ren (R:=λv H'=>∃ρ,JdC ρ 0 H'.length=true/\ren ρ v=.agg [JW 0 (ndz t.nodes),.slc 1 0 (iz t.items).length (JaJ (iz t.items))]/\Ko ρ H'=[KT 5 (ndz t.nodes),.arr 1 (iz t.items)]) ?_ λv H' h=>h
 refine J8 c8_ok λN=>?_
 obtain⟨R,hR⟩:∃R,R=iz t.items:=⟨_,rfl⟩;simp only[Tr.cv,Tr.row];rw[<-hR]at Em Aj|-
 cases R with
 |nil=>
  simp -implicitDefEqProofs only[c8,go_sem];refine Je (id:=0) (z:=2) (els:=[[.rslc 5 (ndz t.nodes) none,.rslc 1 [] none]]) rfl rfl ?_;simp only[go_sem,JV,Kv,frz,Qj];refine XJ ?_;simp only[go_sem,Gq,Gs];refine Js (I:=λi:Nat=>i<=t.nodes.length) (inv:=λi=>gp [(1,.rptr [.rslc 5 (ndz t.nodes) none,.rslc 1 [] none]),(0,.ptr 1 0 0),(0,.ptr 2 0 0),(0,.int .i64 (i:Int))] 24) (hp:=λi=>[.dead,.arr 2 [[.nils,.nils]],.arr 2 [[JW 4 (ndz (t.nodes.take i)),.slc 3 0 0 (some 0)]],.arr 1 [],KT 5 (ndz (t.nodes.take i))]) (μ:=λi=>t.nodes.length-i) 0 [0,1,3,2,4] om rfl ?_ ?_ ?_
  ·simp[forget,JB,ren,Jm,gp]
  ·rfl
  ·intro i hi;by_cases Ab:i<t.nodes.length
   ·have d1:=dtT i t.nodes.length;have hg:=QE Ab;have hx:=ht.nodes _ (Gf Ab);rw[<-rowg Ab]at hx;have Ay:ndz (t.nodes.take (i+1))=ndz (t.nodes.take i)++[(t.nodes.getD i default).cv]:=by rw[YA (d:=default) Ab];simp[ndz]
    have Ar:=JQ (t.nodes.take (i+1));have CU:(ndz (t.nodes.take i)).length=i:=by rw[Jb,Gy];omega
    generalize t.nodes.getD i default=x at hg hx Ay;generalize ndz (t.nodes.take i)=Z at Ay CU|-;have hM:=JbY x (by have:=hx.kidn;omega) 0 (λk hk=>by rw[GG];exact hx.kids k hk);rw[mvN0]at hM;simp -implicitDefEqProofs only[go_sem,Jb,d1];refine Xz [false,true,false,false,false,false,false,false,false,true,false,true] Jr vM ?_;simp -implicitDefEqProofs only[go_sem,Jb,hg];refine⟨om,by simp[Nd.cv],?_⟩;refine vh_f hM ?_;simp -implicitDefEqProofs only[go_sem];refine JcJ [x.cv] rfl rfl rfl rfl ?_;simp -implicitDefEqProofs only[go_sem,Jw,splice,Gc,Gd];refine⟨om,Ji,i+1,[0,1,2,3,5],om,om,rfl,?_,?_⟩
    ·rw[Ay]at Ar;have hc:=Ja (ρ:=[0,1,2,3,5]) Ar;have BU:=Ja (ρ:=[0,1,2,3,5]) Em;rw[Ay,Km,Kn];simp only[Ko,Gg,Gj,go_sem,Jj,hc];rfl
    ·simp[forget,JB,ren,Jm]
   ·have BS:i=t.nodes.length:=om
    subst BS;have d1:=dfF t.nodes.length t.nodes.length;rw[Gl];have BU:=Ja (ρ:=[4,3]) Em
    cases hN:ndz t.nodes with
    |nil=>
     have BF:(([]:LM).length:Int)=t.nodes.length:=by rw[<-hN,Jb]
     simp only[Gd]at BF;simp -implicitDefEqProofs only[go_sem,XA,YB,Gd,BF,d1,splice];refine⟨[4,3],rfl,by simp[ren,JB,Jm,JaJ],?_⟩;simp only[Ko,Gg,Gj,go_sem,Jj,Jk,BU]
    |cons f fs=>
     have BF:((fs.length+1:Nat):Int)=t.nodes.length:=by rw[<-Gc,<-hN,Jb]
     have hc:=Ja (ρ:=[4,3]) (hN▸JQ t.nodes);have Ag:f::fs≠[]:=sM
     generalize dx:f::fs=FF at *;simp only[Xb Ag,QX Ag];have FQ:FF.length=fs.length+1:=by rw[<-dx];rfl
     simp -implicitDefEqProofs only[go_sem,FQ,BF,d1,splice];refine⟨[4,3],rfl,?_,?_⟩
     ·simp[ren,JB,Jm,JaJ]
     ·simp only[Ko,Gg,Gj,go_sem,Jj,hc,BU]
 |cons e es=>
  have Ef:es.length+1<=40:=by have:=Aj;simp only[Gc]at this;omega
  simp -implicitDefEqProofs only[c8,go_sem,Jw,Gc];refine anO ?_;have hl:es.length+1=(e::es).length:=rfl;have Bi:JaJ (e::es)=none:=rfl;rw[hl,Bi];clear Ef hl Bi;generalize e::es=R' at *;have hz:=Jy (id:=0) (z:=2) (e:=[[.rslc 5 (ndz t.nodes) none,.rslc 1 R' none]]) Em;refine Je (id:=0) (z:=2) (els:=[[.rslc 5 (ndz t.nodes) none,.rslc 1 R' none]]) rfl rfl ?_;simp only[go_sem,JV,Kv,frz,Qj,hz];refine XJ ?_;simp only[go_sem,Gq,Gs];refine Js (I:=λi:Nat=>i<=t.nodes.length) (inv:=λi=>gp [(1,.rptr [.rslc 5 (ndz t.nodes) none,.rslc 1 R' none]),(0,.ptr 1 0 0),(0,.ptr 2 0 0),(0,.int .i64 (i:Int))] 24) (hp:=λi=>[.dead,.arr 2 [[.nils,.nils]],.arr 2 [[JW 4 (ndz (t.nodes.take i)),.slc 3 0 R'.length none]],.arr 1 R',KT 5 (ndz (t.nodes.take i))]) (μ:=λi=>t.nodes.length-i) 0 [0,1,4,3,5] om rfl ?_ ?_ ?_
  ·simp[forget,JB,ren,Jm,gp]
  ·have BU:=Ja (ρ:=[0,1,4,3,5]) Em;simp only[Ko,Gg,Gj,go_sem,Jj];rw[BU];rfl
  ·intro i hi;by_cases Ab:i<t.nodes.length
   ·have d1:=dtT i t.nodes.length;have hg:=QE Ab;have hx:=ht.nodes _ (Gf Ab);rw[<-rowg Ab]at hx;have Ay:ndz (t.nodes.take (i+1))=ndz (t.nodes.take i)++[(t.nodes.getD i default).cv]:=by rw[YA (d:=default) Ab];simp[ndz]
    have Ar:=JQ (t.nodes.take (i+1));have CU:(ndz (t.nodes.take i)).length=i:=by rw[Jb,Gy];omega
    generalize t.nodes.getD i default=x at hg hx Ay;generalize ndz (t.nodes.take i)=Z at Ay CU|-;have hM:=JbY x (by have:=hx.kidn;omega) 0 (λk hk=>by rw[GG];exact hx.kids k hk);rw[mvN0]at hM;simp -implicitDefEqProofs only[go_sem,Jb,d1];refine Xz [false,true,false,false,false,false,false,false,false,true,false,true] Jr vM ?_;simp -implicitDefEqProofs only[go_sem,Jb,hg];refine⟨om,by simp[Nd.cv],?_⟩;refine vh_f hM ?_;simp -implicitDefEqProofs only[go_sem];refine JcJ [x.cv] rfl rfl rfl rfl ?_;simp -implicitDefEqProofs only[go_sem,Jw,splice,Gc,Gd];refine⟨om,Ji,i+1,[0,1,2,3,5],om,om,rfl,?_,?_⟩
    ·rw[Ay]at Ar;have hc:=Ja (ρ:=[0,1,2,3,5]) Ar;have BU:=Ja (ρ:=[0,1,2,3,5]) Em;rw[Ay,Km,Kn];simp only[Ko,Gg,Gj,go_sem,Jj,hc];rw[BU];rfl
    ·simp[forget,JB,ren,Jm]
   ·have BS:i=t.nodes.length:=om
    subst BS;have d1:=dfF t.nodes.length t.nodes.length;rw[Gl];have BU:=Ja (ρ:=[4,3]) Em
    cases hN:ndz t.nodes with
    |nil=>
     have BF:(([]:LM).length:Int)=t.nodes.length:=by rw[<-hN,Jb]
     simp only[Gd]at BF;simp -implicitDefEqProofs only[go_sem,XA,YB,Gd,BF,d1,splice];refine⟨[4,3],rfl,by simp[ren,JB,Jm],?_⟩;simp only[Ko,Gg,Gj,go_sem,Jj,Jk,BU]
    |cons f fs=>
     have BF:((fs.length+1:Nat):Int)=t.nodes.length:=by rw[<-Gc,<-hN,Jb]
     have hc:=Ja (ρ:=[4,3]) (hN▸JQ t.nodes);have Ag:f::fs≠[]:=sM
     generalize dx:f::fs=FF at *;simp only[Xb Ag,QX Ag];have FQ:FF.length=fs.length+1:=by rw[<-dx];rfl
     simp -implicitDefEqProofs only[go_sem,FQ,BF,d1,splice];refine⟨[4,3],rfl,?_,?_⟩
     ·simp[ren,JB,Jm]
     ·simp only[Ko,Gg,Gj,go_sem,Jj,hc,BU]
def QF (a b:Tr):Tr:=⟨a.nodes++b.nodes.map (mvN a.nodes.length),a.items++b.items.map (· + (a.nodes.length:Int))⟩
theorem GoodT.itr(g:GoodT t o){i:Int}(hi:i∈t.items):0<=i/\i<t.nodes.length:=by
 have Bf:o.length=t.nodes.length:=by rw[g.ord.len,Kj]
 obtain⟨_,h2,h3,h4⟩:=QT g.ord.ok Bf _ _ _ g.its _ hi;exact⟨h2,h4⟩
theorem refGlue (a b:Tr)(ha:a.Fit)(hb:b.Fit){oa ob:Lu}(ga:GoodT a oa)(gb:GoodT b ob):Fn Gh 16 [a.cv,b.cv] (QF a b).cv:=by
 have Fx:=ga.many;have MI:=gb.many;have Mv:=ga.items;have PD:=gb.items;obtain⟨n,hn⟩:∃n,n=a.nodes.length:=⟨_,rfl⟩;obtain⟨O,hO⟩:∃O:Nat->LC,O=λj=>a.nodes++(b.nodes.take j).map (mvN n):=⟨_,rfl⟩
 obtain⟨I,hI⟩:∃I:Nat->Lu,I=λj=>a.items++(b.items.take j).map (· + (n:Int)):=⟨_,rfl⟩
 have hT:QF a b=⟨O b.nodes.length,I b.items.length⟩:=by rw[hO,hI,hn];simp[QF]
 have cO:O 0=a.nodes:=by rw[hO];simp
 have FB:I 0=a.items:=by rw[hI];simp
 have U9:∀j,j<=b.nodes.length->(O j).length=n+j:=λj hj=>by rw[hO,hn];simp;omega
 have kJ:∀j,j<=b.items.length->(I j).length=a.items.length+j:=λj hj=>by rw[hI];simp;omega
 have cK:∀j,j<b.nodes.length->O (j+1)=O j++[mvN n (b.nodes.getD j default)]:=λj hj=>by rw[hO];simp only;rw[YA (d:=default) hj];simp
 have kI:∀j,j<b.items.length->I (j+1)=I j++[b.items.getD j 0+(n:Int)]:=λj hj=>by rw[hI];simp only;rw[YA (d:=0) hj];simp
 have BF:(ndz a.nodes).length=n:=by rw[Jb,hn]
 have Be:(iz b.items).length=b.items.length:=Jf;rw[hT];clear hT;refine fn_of_two (i:=4) (j:=5) (z:=5) (y:=1) (Z:=ndz (O b.nodes.length)) (R:=iz (I b.items.length)) (J8 c16_ok λN=>?_) vk rfl (JQ _) (Jd _);simp -implicitDefEqProofs only[c16,go_sem,Tr.cv,Tr.row];refine Je (id:=0) (z:=2) (els:=[a.row]) rfl rfl ?_;simp only[go_sem,JV,Kv,frz,Qj,Tr.row];refine Je (id:=1) (z:=2) (els:=[b.row]) rfl rfl ?_;simp only[go_sem,JV,Kv,frz,Qj,Tr.row];have hC:=copyO a ha Env.none;refine vr_dregP 1 5 [false,true,false,false,false,true,true,false] [false,true,false,false,false,true,true,false] (gp [(3,.rptr b.row),(0,.ptr 2 0 0),(0,.ptr 3 0 0),(0,.int .i64 (n:Int))] 46) [.dead,.dead,.arr 2 [[.nils,.nils]],.arr 2 [[JW 4 (ndz a.nodes),.slc 5 0 (iz a.items).length (JaJ (iz a.items))]],KT 5 (ndz a.nodes),.arr 1 (iz a.items)] Jr vM ?_ ?_ ?_
 ·simp -implicitDefEqProofs only[go_sem,Tr.row];refine⟨_,_,JcA (.inl rfl) (hC _),?_⟩;simp -implicitDefEqProofs only[go_sem,BF,splice,Gc,Gd,Gq,Gs];have hr:ren [0,1,2,5,3,4] (JW 3 (ndz a.nodes))=JW 4 (ndz a.nodes):=JS rfl;have aD:=Ja (ρ:=[0,1,2,5,3,4]) (Jd a.items);refine JaT [0,1,2,5,3,4] rfl (by simp[forget,JB,ren,Jm]) ?_;simp only[Ko,Gg,Gj,go_sem,Jj,Jk,JB,hr,JG (Ja (JQ _)),aD];rfl
 ·simp -implicitDefEqProofs only[swl,swi,QY,List.range,List.range.loop,Gc,Gd,Gg,Gj,List.getD_cons_zero,List.getD_cons_succ,go_sem,Tr.row,BF];refine⟨_,_,JcA (.inl rfl) (hC _),?_⟩;simp -implicitDefEqProofs only[go_sem,splice,Gc,Gd,Gq,Gs];exact Jn (by simp[forget])
 ·simp only[gp,List.replicate];simp -implicitDefEqProofs only[go_sem];refine vr_loopL (I:=λj:Nat=>j<=b.nodes.length) (inv:=λj=>gp [(3,.rptr b.row),(0,.ptr 2 0 0),(0,.ptr 3 0 0),(0,.int .i64 (n:Int)),(0,.int .i64 (j:Int))] 45) (hp:=λj=>[.dead,.dead,.arr 2 [[.nils,.nils]],.arr 2 [[JW 4 (ndz (O j)),.slc 5 0 (iz a.items).length (JaJ (iz a.items))]],KT 5 (ndz (O j)),.arr 1 (iz a.items)]) (μ:=λj=>b.nodes.length-j) 0 om (λQ=>?_) ?_
  ·rw[cO];exact Jn (by simp[forget,gp,Tr.row])
  ·intro j hj;by_cases Ab:j<b.nodes.length
   ·have d1:=dtT j b.nodes.length;have hg:=QE Ab;have IK:b.nodes.getD j default∈b.nodes:=by rw[rowN Ab];exact Gf Ab
    have hx:=hb.nodes _ IK;have Rm:∀k∈(b.nodes.getD j default).kids,InR .i64 (k+(n:Int)):=λk hk=>by have:=gb.kidr IK hk;exact Ji
    have Uq:=cK j Ab;have Ar:=JQ (O (j+1));have CU:(ndz (O j)).length=n+j:=by rw[Jb,U9 j hj]
    generalize b.nodes.getD j default=x at hg hx Rm Uq;have Ay:ndz (O (j+1))=ndz (O j)++[(mvN n x).cv]:=by rw[Uq];simp[ndz]
    have hM:=JbY x (by have:=hx.kidn;omega) (n:Int) Rm;generalize ndz (O j)=Z at Ay CU|-;simp -implicitDefEqProofs only[go_sem,d1,Tr.row,Jb];refine Xz [false,true,false,false,false,false,false,false,false,false,true,false,true] Jr vM ?_;simp -implicitDefEqProofs only[go_sem,Jb,hg]
    repeat (refine And.intro (by first|omega|exact Ji|simp[Nd.cv]) ?_)
    refine vh_f hM ?_;simp -implicitDefEqProofs only[go_sem];refine JcJ [(mvN n x).cv] rfl rfl rfl rfl ?_;simp -implicitDefEqProofs only[go_sem,Jw,splice,Gc,Gd];refine⟨om,Ji,j+1,om,om,λQ=>JaT [0,1,2,3,6,5] rfl ?_ ?_⟩
    ·simp[forget,JB,ren,Jm]
    ·rw[Ay]at Ar;have hc:=Ja (ρ:=[0,1,2,3,6,5]) Ar;have aD:=Ja (ρ:=[0,1,2,3,6,5]) (Jd a.items);rw[Ay,Km,Kn];simp only[Ko,Gg,Gj,go_sem,Jj,hc,aD];rfl
   ·have BR:j=b.nodes.length:=om
    subst BR;have d1:=dfF b.nodes.length b.nodes.length;have Mx:=JQ (O b.nodes.length);generalize ndz (O b.nodes.length)=Z at Mx|-;simp -implicitDefEqProofs only[go_sem,d1,Tr.row,Jb];refine vr_loopL (I:=λj:Nat=>j<=b.items.length) (inv:=λj=>gp [(3,.rptr b.row),(0,.ptr 2 0 0),(0,.ptr 3 0 0),(0,.int .i64 (n:Int)),(1,.int .i64 (j:Int))] 44) (hp:=λj=>[.dead,.dead,.arr 2 [[.nils,.nils]],.arr 2 [[JW 4 Z,.slc 5 0 (iz (I j)).length (JaJ (iz (I j)))]],KT 5 Z,.arr 1 (iz (I j))]) (μ:=λj=>b.items.length-j) 0 om (λQ=>?_) ?_
    ·rw[FB];exact Jn (by simp[forget,gp,Tr.row])
    ·intro j hj;by_cases Ab:j<b.items.length
     ·have d1:=dtT j b.items.length;have hg:=JL Ab;have F4:=gb.itr (i:=b.items.getD j 0) (by rw[Gb,Ga Ab];exact Gf Ab);have FY:=kI j Ab;have CU:(iz (I j)).length=a.items.length+j:=by rw[Jf,kJ j hj]
      generalize b.items.getD j 0=x at hg F4 FY;have Ay:iz (I (j+1))=iz (I j)++[[.int .i64 (x+(n:Int))]]:=by rw[FY];exact KR
      have Ar:=Jd (I (j+1));generalize iz (I j)=R at Ay CU|-;simp -implicitDefEqProofs only[go_sem,d1,Tr.row,Be];refine Xz [false,true,false,false,false,false,false,false,false,false,true,false,true] Jr vM ?_;simp -implicitDefEqProofs only[go_sem,Be,hg]
      repeat (refine And.intro (by first|omega|exact Ji) ?_)
      refine JcJ [[.int .i64 (x+(n:Int))]] rfl rfl rfl rfl ?_;simp -implicitDefEqProofs only[go_sem,Jw,splice,Gc,Gd];refine⟨om,Ji,j+1,om,om,λQ=>JaT [0,1,2,3,4,6] rfl ?_ ?_⟩
      ·simp[forget,JB,ren,Jm]
      ·rw[Ay]at Ar;have hc:=Ja (ρ:=[0,1,2,3,4,6]) Ar;have hr:ren [0,1,2,3,4,6] (JW 4 Z)=JW 4 Z:=JS rfl;rw[Ay,YH];simp only[Ko,Gg,Gj,go_sem,Jj,JB,hr,JG (Ja Mx),hc,List.length_append,Gc,Gd];rfl
     ·have BR:j=b.items.length:=om
      subst BR;have d1:=dfF b.items.length b.items.length;simp -implicitDefEqProofs only[go_sem,d1,Tr.row,Be,splice];exact⟨_,rfl⟩
end Go.Cm
end
namespace Go.Cm
variable {i:Nat}
theorem JfY {o:Lu}{m:Nat}:∀(x y:Lu) (a e:Int),chain o m a (x++y) e↔∃c,chain o m a x c/\chain o m c y e
 |[],y,a,e=>by simp[chain]
 |i::x,y,a,e=>by
  simp only[Gq,chain,JfY x y]
  constructor
  ·rintro⟨h1,c,h2,h3⟩;exact⟨c,⟨h1,h2⟩,h3⟩
  ·rintro⟨c,⟨h1,h2⟩,h3⟩;exact⟨h1,c,h2,h3⟩
theorem fixA_at {α:Type}{q:α->Bool}:∀(l:List α) (i:Nat),X8 q l i = -1/\(∀x∈l,q x=false)\/∃j x,X8 q l i=((i+j:Nat):Int)/\l[j]? = some x/\q x=true:=by
 intro l
 induction l with
 |nil=>intro i;exact .inl ⟨rfl,sM⟩
 |cons y l ih=>
  intro i;simp only[X8]
  cases hq:q y with
  |true=>exact .inr ⟨0,y,sM,rfl,hq⟩
  |false=>
   rcases ih (i+1) with ⟨h1,h2⟩|⟨j,x,h1,h2,h3⟩
   ·exact .inl ⟨by simpa using h1,λx hx=>by
     rcases GK.1 hx with rfl|hx
     ·exact hq
     ·exact h2 x hx⟩
   ·exact .inr ⟨j+1,x,by rw[show i+(j+1)=i+1+j by omega];simpa using h1,by simpa using h2,h3⟩
section
variable {t:Tr}{o:Lu}(g:GoodT t o)
def Yu (t:Tr):Nat->Nat
 |0=>0
 |i+1=>(t.items.getD i 0).toNat+1
include g
theorem YO:∀i,i<=t.items.length->chain o t.nodes.length 0 (t.items.take i) (Yu t i)/\chain o t.nodes.length (Yu t i) (t.items.drop i) t.nodes.length:=by
 intro i hi;have h:=g.its;rw[<-List.take_append_drop i t.items,JfY]at h;obtain⟨c,h1,h2⟩:=h;have hc:c=(Yu t i:Int):=by
  cases i with
  |zero=>simp[chain]at h1;simp[Yu,h1]
  |succ i=>rw[YA (d:=0) om,Jca]at h1;simp only[Yu];omega
 rw[hc]at h1 h2;exact⟨h1,h2⟩
theorem Jfy(hi:i<t.items.length):∃L:Nat,t.items.getD i 0=(L:Int)/\fs o L=(Yu t i:Int)/\Yu t i<=L/\L<t.nodes.length/\Yu t (i+1)=L+1:=by
 obtain⟨L,F,hL,Rj,UA,BH,Bf,Sc⟩:=g.item hi;have h:=(YO g i om).2;have e0:t.items.drop i=t.items.getD i 0::t.items.drop (i+1):=by rw[G5 hi,Gb,Ga hi];rfl
 rw[e0,hL]at h;simp only[chain,GD]at h;have:(F:Int)=Yu t i:=by rw[<-Sc];exact h.1.2.2
 refine⟨L,hL,by rw[Rj];exact this,om,BH,?_⟩;simp only[Yu,hL,GD]
theorem endI_le(hi:i<=t.items.length):Yu t i<=t.nodes.length:=by have h:=JiB g.ord.ok g.olen _ _ _ (YO g i hi).2;omega
theorem endI_all:Yu t t.items.length=t.nodes.length:=by have h:=(YO g t.items.length (Gi _)).2;rw[List.drop_length]at h;simp only[chain]at h;omega
theorem JiA(hi:i<t.items.length):∃o',GoodT (JdP o t i) o':=by
 obtain⟨L,hL,hF,UA,BH,hE⟩:=Jfy g hi;generalize Yu t i=F at *;have hT:JdP o t i=⟨segN t.nodes F (L+1),[(L:Int)-F]⟩:=by unfold JdP segN;simp only[hL,hF,GD];rw[List.drop_take]
 rw[hT];have h2:=getD_seg (l:=o) (d:=F) (m:=L+1) (e:=-(F:Int)) (k:=L) om om (by rw[g.olen];omega);have Sc:o.getD (L:Int).toNat 0=F:=hF;rw[Sc]at h2;have Si:∀j:Nat,F<=j->j<L+1->(F:Int)<=fs o j:=λj h1 h3=>by have:=g.ord.nest L j (by rw[Kj];exact BH) om (by rw[hF];omega) om;rw[hF]at this;exact this
 refine⟨_,g.seg (d:=F) (m:=L+1) om om Si [(L:Int)-F] sM ?_ ?_⟩
 ·simp only[chain];rw[show (L:Int) + -(F:Int)=(L:Int)-F by omega]at h2;refine⟨⟨om,om,?_⟩,om⟩;rw[h2];omega
 ·intro k hk;rw[Gu]at hk;subst hk;have:=segN_kind (l:=t.nodes) (d:=F) (m:=L+1) (k:=L) om om om;rw[show (L:Int) + -(F:Int)=(L:Int)-F by omega]at this;rw[this];refine g.defs _ ?_;rw[<-hL,Gb,Ga hi];exact Gf hi
theorem par_in:∀(N n:Nat),N<t.nodes.length->fs o N<=n->n<N->∃m:Nat,n<m/\m<=N/\(n:Int)∈(t.nodes.getD m default).kids:=by
 intro N
 induction N using Nat.strongRecOn with
 |_ N ih=>
  intro n hN h1 h2;have hK:=JK hN;obtain⟨c,hc,h3,h4⟩:=XO g.ord.ok rfl _ _ _ (n:Int) (g.ord.kids hK) h1 om;have hr:=g.ord.kid_rng hK hc;by_cases he:c=n
  ·subst he;exact⟨N,h2,Gi _,hc⟩
  ·obtain⟨c,rfl⟩:∃k:Nat,c=(k:Int):=⟨c.toNat,om⟩;obtain⟨m,q1,q2,q3⟩:=ih c om n om h3 om;exact⟨m,q1,om,q3⟩
def Kg (t:Tr)(n:Nat):Int:=X8 (λx:Nd=>x.kids.contains (n:Int)) t.nodes 0
theorem Q0 {n:Nat}(hn:n<t.nodes.length):(Kg t n = -1/\∀m:Nat,m<t.nodes.length->(n:Int)∉(t.nodes.getD m default).kids)\/∃m:Nat,Kg t n=(m:Int)/\n<m/\m<t.nodes.length/\(n:Int)∈(t.nodes.getD m default).kids:=by
 rcases fixA_at (q:=λx:Nd=>x.kids.contains (n:Int)) t.nodes 0 with ⟨h1,h2⟩|⟨j,x,h1,h2,h3⟩
 ·refine .inl ⟨h1,λm hm hk=>?_⟩;have:=h2 (t.nodes.getD m default) (by rw[rowN hm];exact Gf hm);simp only[G7,decide_eq_false_iff_not]at this;exact this hk
 ·have hj:=(Gp.1 h2).1;have hx:t.nodes.getD j default=x:=by rw[Gb,h2];rfl
  simp only[G7,decide_eq_true_eq]at h3;rw[<-hx]at h3;have:=g.kid hj h3;exact .inr ⟨j,by rw[Gn]at h1;exact h1,om,hj,h3⟩
end
end Go.Cm
section
set_option maxRecDepth 100000
open Go.Proofs
namespace Go.Cm
variable {τ:Nat->Nat}{els:LM}{f n z:Nat}{H H' H0:Lt}{P:Program}{R:CV->Lt->Prop}{d:Option Nat}{g:Option (Nat×Bool)}
mutual
def mo (τ:Nat->Nat):CV->CV
 |.slc j off len cap=>.slc (τ j) off len cap
 |.ptr j i off=>.ptr (τ j) i off
 |.map j=>.map (τ j)
 |.fn f l1 l2=>.fn f (moL τ l1) (moL τ l2)
 |.iface t c=>.iface t (mo τ c)
 |.agg l=>.agg (moL τ l)
 |.tup l=>.tup (moL τ l)
 |c=>c
def moL (τ:Nat->Nat):Ls->Ls
 |[]=>[]
 |c::cs=>mo τ c::moL τ cs
end
mutual
theorem JgQ {own own':LA}{imm:Nat->Nat->LD}{τ:Nat->Nat}(ho:∀(j:Nat) x,own[j]? = some x->own'[τ j]? = some x):∀(c:CV) (v:Value),rel own imm c v->rel own' imm (mo τ c) v
 |.un,_,_=>by simp only[mo,rel]
 |.bool _,_,h=>by simp only[mo,rel]at h|-;exact h
 |.int _ _,_,h=>by simp only[mo,rel]at h|-;exact h
 |.str _,_,h=>by simp only[mo,rel]at h|-;exact h
 |.nilp,_,h=>by simp only[mo,rel]at h|-;exact h
 |.ptr j i off,v,h=>by simp only[mo,rel]at h|-;obtain⟨x,hx,e⟩:=h;exact⟨x,ho j x hx,e⟩
 |.rptr cs,v,h=>by simp only[mo,rel]at h|-;exact h
 |.nils,_,h=>by simp only[mo,rel]at h|-;exact h
 |.slc j off len cap,v,h=>by simp only[mo,rel]at h|-;obtain⟨x,a,c,hx,e⟩:=h;exact⟨x,a,c,ho j x hx,e⟩
 |.rslc z' e cap,v,h=>by simp only[mo,rel]at h|-;exact h
 |.nilm,_,h=>by simp only[mo,rel]at h|-;exact h
 |.map j,v,h=>by simp only[mo,rel]at h|-;obtain⟨x,hx,e⟩:=h;exact⟨x,ho j x hx,e⟩
 |.fn f l1 l2,_,h=>by simp only[mo,rel]at h|-;obtain⟨vs1,vs2,e,h1,h2⟩:=h;exact⟨vs1,vs2,e,Jfq ho l1 _ h1,Jfq ho l2 _ h2⟩
 |.yld _,_,h=>by simp only[mo,rel]at h|-;exact h
 |.nilf,_,h=>by simp only[mo,rel]at h|-;exact h
 |.iface _ c,_,h=>by simp only[mo,rel]at h|-;obtain⟨r,e,h1⟩:=h;exact⟨r,e,JgQ ho c _ h1⟩
 |.nili,_,h=>by simp only[mo,rel]at h|-;exact h
 |.agg l,_,h=>by simp only[mo,rel]at h|-;obtain⟨vs,e,h1⟩:=h;exact⟨vs,e,Jfq ho l _ h1⟩
 |.tup l,_,h=>by simp only[mo,rel]at h|-;obtain⟨vs,e,h1⟩:=h;exact⟨vs,e,Jfq ho l _ h1⟩
theorem Jfq {own own':LA}{imm:Nat->Nat->LD}{τ:Nat->Nat}(ho:∀(j:Nat) x,own[j]? = some x->own'[τ j]? = some x):∀(l:Ls) (vs:LF),JX own imm l vs->JX own' imm (moL τ l) vs
 |[],vs,h=>by simp only[moL,JX]at h|-;exact h
 |c::cs,vs,h=>by simp only[moL,JX]at h|-;obtain⟨r,rs,e,h1,h2⟩:=h;exact⟨r,rs,e,JgQ ho c _ h1,Jfq ho cs _ h2⟩
end
theorem JgR:∀(l:Ls),(moL τ l).length=l.length
 |[]=>rfl
 |_::cs=>by simp[moL,JgR cs]
theorem moL_get:∀(l:Ls) (i:Nat),(moL τ l)[i]? = (l[i]?).map (mo τ)
 |[],_=>by simp[moL]
 |c::cs,0=>by simp[moL]
 |c::cs,i+1=>by simp[moL,moL_get cs i]
def moO (τ:Nat->Nat):CObj->CObj
 |.arr z e=>.arr z (e.map (moL τ))
 |.map kvs=>.map (kvs.map λp=>(mo τ p.1,mo τ p.2))
 |o=>o
theorem Jax(o:CObj):(moO τ o).alive=o.alive:=by cases o <;> rfl
theorem moO_rel {own own':LA}{imm:Nat->Nat->LD}(ho:∀(j:Nat) x,own[j]? = some x->own'[τ j]? = some x){x:Own}{o:CObj}{w:World}(h:Jab own imm x o w):Jab own' imm x (moO τ o) w:=by
 cases o with
 |arr z' es=>
  obtain⟨a1,c,el,a2,a3,a4,a5,a6⟩:=h;refine⟨a1,c,el,a2,a3,by simpa using a4,λj e he=>?_,a6⟩;rw[Gr]at he
  cases Mm:es[j]? with
  |none=>simp[Mm]at he
  |some e0=>
   simp[Mm]at he;subst he;obtain⟨h1,h2⟩:=a5 j e0 Mm;refine⟨by rw[JgR];exact h1,λt c hc=>?_⟩;rw[moL_get]at hc
   cases ht:e0[t]? with
   |none=>simp[ht]at hc
   |some c0=>simp[ht]at hc;subst hc;obtain⟨r,h3,h4⟩:=h2 t c0 ht;exact⟨r,h3,JgQ ho _ _ h4⟩
 |map kvs=>
  obtain⟨es,clock,a1,a2,a3⟩:=h;refine⟨es,clock,a1,by simpa using a2,λi k v e hk he=>?_⟩;rw[Gr]at hk
  cases Cu:kvs[i]? with
  |none=>simp[Cu]at hk
  |some p=>simp[Cu]at hk;obtain⟨rfl,rfl⟩:=hk;have:=a3 i p.1 p.2 e Cu he;exact⟨JgQ ho _ _ this.1,JgQ ho _ _ this.2⟩
 |dead=>trivial
 |ext s b=>trivial
mutual
theorem Jfr {τ:Nat->Nat}:∀(c:CV),c.closed=true->mo τ c=c
 |.un,_=>rfl
 |.bool _,_=>rfl
 |.int _ _,_=>rfl
 |.str _,_=>rfl
 |.nilp,_=>rfl
 |.ptr _ _ _,h=>by simp[CV.closed]at h
 |.rptr _,_=>rfl
 |.nils,_=>rfl
 |.slc _ _ _ _,h=>by simp[CV.closed]at h
 |.rslc _ _ _,_=>rfl
 |.nilm,_=>rfl
 |.map _,h=>by simp[CV.closed]at h
 |.fn f l1 l2,h=>by simp only[CV.closed,Gm]at h;simp only[mo,YI l1 h.1,YI l2 h.2]
 |.yld _,_=>rfl
 |.nilf,_=>rfl
 |.iface t c,h=>by simp only[CV.closed]at h;simp only[mo,Jfr c h]
 |.nili,_=>rfl
 |.agg l,h=>by simp only[CV.closed]at h;simp only[mo,YI l h]
 |.tup l,h=>by simp only[CV.closed]at h;simp only[mo,YI l h]
theorem YI {τ:Nat->Nat}:∀(l:Ls),Jp l=true->moL τ l=l
 |[],_=>rfl
 |c::cs,h=>by simp only[Jp,Gm]at h;simp only[moL,Jfr c h.1,YI cs h.2]
end
theorem Jbx:∀{els:LM},Jq els=true->els.map (moL τ)=els
 |[],_=>rfl
 |e::l,h=>by simp only[Jq,Gm]at h;simp only[Gg,YI e h.1,Jbx h.2]
theorem mo_rowV{id:Nat}:mo τ (JW id els)=JW (τ id) els:=by cases els <;> rfl
theorem Jh6(hc:Jq els=true):moO τ (KT z els)=KT z els:=by
 cases els with
 |nil=>rfl
 |cons e l=>exact congrArg (CObj.arr z) (Jbx hc)
theorem JaS(hc:Jq els=true):moO τ (.arr z els)=.arr z els:=congrArg (CObj.arr z) (Jbx hc)
theorem Jh7:moO τ .dead=.dead:=rfl
def tau (σ:Lx)(n i:Nat):Nat:=if i<σ.length then σ.getD i 0 else n+(i-σ.length)
def Y5 (σ:Lx)(n k:Nat)(H':Lt):Lt->Lt
 |[]=>(H'.drop σ.length).map (moO (tau σ n))
 |o::H=>(match Jm k σ 0 with|some i=>moO (tau σ n) (H'.getD i .dead)|none=>o)::Y5 σ n (k+1) H' H
theorem backL_get {σ:Lx}:∀(H:Lt) (k j:Nat) (o:CObj),(Y5 σ n k H' H)[j]? = some o->(∃i,j<H.length/\Jm (k+j) σ 0=some i/\o=moO (tau σ n) (H'.getD i .dead))\/(Jm (k+j) σ 0=none/\H[j]? = some o)\/∃i,j=H.length+i/\(H'[σ.length+i]?).map (moO (tau σ n))=some o
 |[],k,j,o,h=>by refine .inr (.inr ⟨j,sM,?_⟩);rw[Y5,Gr,G8]at h;exact h
 |p::H,k,0,o,h=>by
  rw[Y5,List.getElem?_cons_zero,Option.some.injEq]at h
  cases hr:Jm k σ 0 with
  |some i=>rw[hr]at h;exact .inl ⟨i,sM,rfl,h.symm⟩
  |none=>rw[hr]at h;exact .inr (.inl ⟨rfl,congrArg some h⟩)
 |p::H,k,j+1,o,h=>by
  rw[Y5,List.getElem?_cons_succ]at h;rcases backL_get H (k+1) j o h with ⟨i,h1,h2,h3⟩|⟨h1,h2⟩|⟨i,h1,h2⟩
  ·exact .inl ⟨i,by simp;omega,by rw[show k+(j+1)=k+1+j by omega];exact h2,h3⟩
  ·exact .inr (.inl ⟨by rw[show k+(j+1)=k+1+j by omega];exact h1,by simpa using h2⟩)
  ·exact .inr (.inr ⟨i,by simp;omega,h2⟩)
theorem Jf5 {σ:Lx}:∀(H:Lt) (k:Nat),(Y5 σ n k H' H).length=H.length+(H'.length-σ.length)
 |[],k=>by simp[Y5]
 |p::H,k=>by rw[Y5,Gc,Jf5 H,Gc];omega
theorem JgG {id:Nat}:∀(σ:Lx) (i:Nat),Jm id σ i=none->id∉σ
 |[],_,_=>sM
 |k::σ,i,h=>by
  simp only[Jm]at h
  split at h
  ·cases h
  ·rename_i hk;have:=JgG σ (i+1) h;simp only[GK,not_or];exact⟨λh=>hk h.symm,this⟩
def isExt:CObj->Bool
 |.ext _ _=>true
 |_=>false
theorem JfA:isExt (KT z els)=false:=by cases els <;> rfl
theorem JfB:isExt (.arr z els)=false:=rfl
def locOk (σ:Lx)(H:Lt):Bool:=σ.Nodup && σ.all λi=>decide (i<H.length) && !isExt (H.getD i .dead)
section
variable{E:Env}
theorem CallsC.loc{args args0:Ls}(σ:Lx)(h:CallsC P Env.none f args0 H0 R)(ha:JB σ args=args0)(hH:Ko σ H=H0)(Aq:locOk σ H=true) :
  CallsC P E f args H λv H'=>∃v0 H0',R v0 H0'/\v=mo (tau σ H.length) v0/\H'=Y5 σ H.length 0 H0' H:=by
 intro m w vs hs hv;subst ha hH;obtain⟨BQ,Ak⟩:σ.Nodup/\∀i∈σ,i<H.length/\∀s b,H[i]?≠some (.ext s b):=by unfold locOk at Aq;rw[Gm,Gz]at Aq;refine⟨by simpa using Aq.1,λi hi=>?_⟩;have h2:=Aq.2 i hi;rw[Gm,decide_eq_true_eq]at h2;refine⟨h2.1,λs b hb=>?_⟩;rw[Gb,hb]at h2;simp[isExt]at h2
 have Ad:=hs.len
 let own0:LA:=σ.map λid=>m.own.getD id ⟨0,0,0,0⟩
 have ho:∀(j:Nat) id,σ[j]? = some id->own0[j]? = m.own[id]?:=by
  intro j id hj;have Ab:id<m.own.length:=by rw[Ad];exact(Ak id (Gx hj)).1
  simp[own0,hj,Gb,Ga Ab]
 have key0:∀(k:Nat) o x,(Ko σ H)[k]? = some o->own0[k]? = some x->∃id o0,σ[k]? = some id/\H[id]? = some o0/\o=Yd σ o0/\m.own[id]? = some x:=by intro k o x hk hx;obtain⟨id,o0,h1,h2,h3⟩:=Jex (λi hi=>(Ak i hi).1) hk;exact⟨id,o0,h1,h2,h3,(ho k id h1).symm.trans hx⟩
 have E5:Sim Env.none { own:=own0,imm:=m.imm,ext:=λ_=>False } (Ko σ H) w:=by
  refine⟨by simp[own0,Ko],λk o x hk hx=>?_,hs.imm,hs.one,λk k' o o' x x' hk AL ha AX hx Av hB=>?_,λk o x hk ha hx=>?_,λk s b hk=>?_,λk o x hk ha hx=>?_,λB hB=>hs.extlt B (.inr (hB.resolve_left id)),hs.gl.1,λB hB=>hB.elim⟩
  ·obtain⟨id,o0,h1,h2,rfl,h4⟩:=key0 k o x hk hx;have:=hs.obj id o0 x h2 h4;have hf:=JhT (own:=m.own) (own':=own0) (imm:=m.imm) (ρ:=σ) ho
   cases o0 with
   |arr z' es=>obtain⟨a1,c,el,a2,a3,a4,a5,a6⟩:=this;exact⟨a1,c,el,a2,a3,by simpa using a4,relO_ren hf a5,a6⟩
   |map kvs=>
    obtain⟨es,clock,a1,a2,a3⟩:=this;refine⟨es,clock,a1,by simpa using a2,λi k v e hk he=>?_⟩;rw[Gr]at hk
    cases Cu:kvs[i]? with
    |none=>simp[Cu]at hk
    |some p=>simp[Cu]at hk;obtain⟨rfl,rfl⟩:=hk;have:=a3 i p.1 p.2 e Cu he;exact⟨hf _ _ this.1,hf _ _ this.2⟩
   |dead=>trivial
   |ext s b=>trivial
  ·obtain⟨id,o0,h1,h2,rfl,h4⟩:=key0 k o x hk hx;obtain⟨id',o0',DU,F3,rfl,UE⟩:=key0 k' o' x' AL Av;rw[XM]at ha AX;have:=hs.sep id id' o0 o0' x x' h2 F3 ha AX h4 UE hB;subst this;exact(List.getElem?_inj (Gp.1 h1).1 BQ).1 (h1.trans DU.symm)
  ·obtain⟨id,o0,h1,h2,rfl,h4⟩:=key0 k o x hk hx;rw[XM]at ha;exact hs.ro id o0 x h2 ha h4
  ·obtain⟨id,o0,h1,h2,h3⟩:=Jex (λi hi=>(Ak i hi).1) hk;have:o0=.ext s b:=by cases o0 <;> simp[Yd]at h3;simp[h3]
   subst this;exact absurd h2 ((Ak id (Gx h1)).2 s b)
  ·obtain⟨id,o0,h1,h2,rfl,h4⟩:=key0 k o x hk hx;rw[XM]at ha;exact λhB=>hs.extsep id o0 x h2 ha h4 (.inr (hB.resolve_left λh=>h))
 refine(h _ w vs E5 (JaP ho args _ hv)).mono ?_;rintro ev w' ⟨rv,m',v,H',rfl,Ae,AC,hrel,hR⟩;have Cy:(Ko σ H).length=σ.length:=by simp[Ko]
 have Bf:own0.length=σ.length:=by simp[own0]
 have FK:σ.length<=m'.own.length:=by rw[<-Cy];exact Ae.long (by rw[Cy,Bf];exact Gi _)
 have Ec:=AC.len;have hτ:∀(j:Nat) x,m'.own[j]? = some x->(m.own++m'.own.drop σ.length)[tau σ H.length j]? = some x:=λj x hj=>by
  unfold tau;by_cases Ba:j<σ.length
  ·rw[if_pos Ba];have OB:=Ga Ba;have Ab:=(Ak _ (Gf Ba)).1;have e1:own0[j]? = some (m.own[σ[j]]' om):=by rw[ho j _ OB,Ga]
   have e2:=Ae.base j _ (by rw[Cy];exact Ba) e1;rw[hj]at e2;rw[Gb,OB,GV,GI om,Ga om];exact e2.symm
  ·rw[if_neg Ba,GQ om,G8];rw[show σ.length+(H.length+(j-σ.length)-m.own.length)=j by omega];exact hj
 have ownM:∀B,owned { own:=own0,imm:=m.imm,ext:=λ_=>False } (Ko σ H) B->∃id o x,id∈σ/\H[id]? = some o/\o.alive=true/\m.own[id]? = some x/\x.B=B:=by
  rintro B (h|⟨k,o,x,hk,Ao,hx,rfl⟩)
  ·exact h.elim
  ·obtain⟨id,o0,h1,h2,rfl,h4⟩:=key0 k o x hk hx;rw[XM]at Ao;exact⟨id,o0,x,Gx h1,h2,Ao,h4,rfl⟩
 have ownM2:∀B,owned { own:=own0,imm:=m.imm,ext:=λ_=>False } (Ko σ H) B->owned m H B:=λB hB=>by obtain⟨id,o,x,_,h1,h2,h3,h4⟩:=ownM B hB;exact .inr ⟨id,o,x,h1,h2,h3,h4⟩
 have Fa:∀(k:Nat) o x,k∉σ->H[k]? = some o->o.alive=true->m.own[k]? = some x->¬owned { own:=own0,imm:=m.imm,ext:=λ_=>False } (Ko σ H) x.B:=λk o x h1 hk Ao hx hB=>by obtain⟨id,o',x',q1,q2,q3,q4,q5⟩:=ownM _ hB;have:=hs.sep k id _ _ _ _ hk q2 Ao q3 hx q4 q5.symm;subst this;exact h1 q1
 have AP:∀(k:Nat) o x,k∉σ->H[k]? = some o->o.alive=true->m.own[k]? = some x->w'.heap[x.B]? = w.heap[x.B]?:=λk o x h1 hk Ao hx=>Ae.frame _ (Yx hs hk Ao hx) (Fa k o x h1 hk Ao hx)
 have key:∀(k:Nat) o x,(Y5 σ H.length 0 H' H)[k]? = some o->(m.own++m'.own.drop σ.length)[k]? = some x->(∃i o0,H'[i]? = some o0/\o=moO (tau σ H.length) o0/\m'.own[i]? = some x/\tau σ H.length i=k)\/(H[k]? = some o/\m.own[k]? = some x/\k∉σ):=λk o x hk hx=>by
  rcases backL_get H 0 k o hk with ⟨i,h1,h2,h3⟩|⟨h1,h2⟩|⟨i,h1,h2⟩
  ·rw[Gn]at h2;have h4:=JbX h2;have hi:=(Gp.1 h4).1;have h5:tau σ H.length i=k:=by unfold tau;rw[if_pos hi,Gb,h4];rfl
   have h6:=hτ i _ (Ga (show i<m'.own.length by omega));rw[h5,hx]at h6;refine .inl ⟨i,H'[i]' om,Ga om,?_,?_,h5⟩
   ·rw[h3,Gb,Ga (show i<H'.length by omega)];rfl
   ·rw[Ga (show i<m'.own.length by omega),<-h6]
  ·rw[Gn]at h1;have Aw:=(Gp.1 h2).1;rw[GI om]at hx;exact .inr ⟨h2,hx,JgG σ 0 h1⟩
  ·obtain⟨o0,h3,h4⟩:=Option.map_eq_some_iff.1 h2;have Aj:=(Gp.1 h3).1;have h5:tau σ H.length (σ.length+i)=k:=by unfold tau;rw[iN7];omega
   have h6:=hτ (σ.length+i) _ (Ga (show σ.length+i<m'.own.length by omega));rw[h5,hx]at h6;refine .inl ⟨σ.length+i,o0,h3,h4.symm,?_,h5⟩;rw[Ga (show σ.length+i<m'.own.length by omega),<-h6]
 have CB:∀(i:Nat) o0 x,H'[i]? = some o0->o0.alive=true->m'.own[i]? = some x->owned { own:=own0,imm:=m.imm,ext:=λ_=>False } (Ko σ H) x.B\/w.heap.size<=x.B:=λi o0 x h1 h2 h3=>Ae.newOwn x.B (.inr ⟨i,o0,x,h1,h2,h3,rfl⟩)
 have Bd:=K9.append m.own (m'.own.drop σ.length);refine⟨rv,{ m with own:=m.own++m'.own.drop σ.length,imm:=m'.imm },mo (tau σ H.length) v,_,rfl,⟨Ae.size,λB hB hn=>Ae.frame B hB λh=>hn (ownM2 B h),Ae.imm,?_,λB i v hv=>?_,λk x _ hx=>Bd _ _ hx,λh=>by simp;omega,Ae.same⟩,⟨by rw[Jf5];simp;omega,λk o x hk hx=>?_,AC.imm,AC.one,λk k' o o' x x' hk AL ha AX hx Av hB=>?_,λk o x hk Ao hx i hi=>?_,λk a b hk=>?_,λk o x hk Ao hx=>?_,λB hB=>Nat.lt_of_lt_of_le (hs.extlt B hB) Ae.size,AC.gl.1,hs.gl.2⟩,JgQ hτ v rv hrel,v,H',hR,rfl,rfl⟩
 ·rintro B (hB|⟨k,o,x,hk,Ao,hx,rfl⟩)
  ·exact .inl (.inl hB)
  ·rcases key k o x hk hx with ⟨i,o0,h1,rfl,h3,_⟩|⟨h1,h2,_⟩
   ·rw[Jax]at Ao;rcases CB i o0 x h1 Ao h3 with h|h
    ·exact .inl (ownM2 _ h)
    ·exact .inr h
   ·exact .inl (.inr ⟨k,o,x,h1,Ao,h2,rfl⟩)
 ·rcases Ae.newImm B i v hv with h|h|h
  ·exact .inl h
  ·exact .inr (.inl (ownM2 B h))
  ·exact .inr (.inr h)
 ·rcases key k o x hk hx with ⟨i,o0,h1,rfl,h3,_⟩|⟨h1,h2,h3⟩
  ·exact moO_rel hτ (AC.obj i o0 x h1 h3)
  ·by_cases Ao:o.alive=true
   ·exact KO Bd Ae.imm (λ_=>AP k o x h3 h1 Ao h2) (hs.obj k o x h1 h2)
   ·cases o <;> simp[CObj.alive]at Ao <;> trivial
 ·have cross:∀(i:Nat) o0 (k:Nat) o x y,H'[i]? = some o0->o0.alive=true->m'.own[i]? = some x->H[k]? = some o->o.alive=true->m.own[k]? = some y->k∉σ->x.B≠y.B:=λi o0 k o x y h1 h2 h3 h4 h5 h6 h7 hB=>by
   rcases CB i o0 x h1 h2 h3 with h|h
   ·exact Fa k o y h7 h4 h5 h6 (hB▸h)
   ·have:=Yx hs h4 h5 h6;omega
  rcases key k o x hk hx with ⟨i,o0,h1,rfl,h3,h4⟩|⟨h1,h2,h3⟩ <;> rcases key k' o' x' AL Av with ⟨i',o0',DU,rfl,BO,UE⟩|⟨DU,F3,BO⟩
  ·rw[Jax]at ha AX;have:=AC.sep i i' _ _ _ _ h1 DU ha AX h3 BO hB;subst this;exact h4.symm.trans UE
  ·rw[Jax]at ha;exact absurd hB (cross i o0 k' o' x x' h1 ha h3 DU AX F3 BO)
  ·rw[Jax]at AX;exact absurd hB.symm (cross i' o0' k o x' x DU AX BO h1 ha h2 h3)
  ·exact hs.sep k k' _ _ _ _ h1 DU ha AX h2 F3 hB
 ·rcases key k o x hk hx with ⟨j,o0,h1,rfl,h3,h4⟩|⟨h1,h2,h3⟩
  ·rw[Jax]at Ao;exact AC.ro j _ _ h1 Ao h3 i hi
  ·cases hv:m'.imm x.B i with
   |none=>rfl
   |some v=>
    rcases Ae.newImm _ _ _ hv with h|h|h
    ·rw[hs.ro k o x h1 Ao h2 i hi]at h;cases h
    ·exact absurd h (Fa k o x h3 h1 Ao h2)
    ·have:=Yx hs h1 Ao h2;omega
 ·have Aw:=(Gp.1 hk).1;rw[Jf5]at Aw;obtain⟨x,hx⟩:∃x,(m.own++m'.own.drop σ.length)[k]? = some x:=⟨_,Ga (by simp;omega)⟩;rcases key k _ x hk hx with ⟨j,o0,h1,h2,h3,h4⟩|⟨h1,h2,h3⟩
  ·have:o0=.ext a b:=by cases o0 <;> simp[moO]at h2;simp[h2]
   subst this;exact(AC.ext j a b h1).elim
  ·refine E.stable _ _ _ _ _ _ _ (hs.ext k a b h1) (λB hB=>Ae.frame B (hs.extlt B hB) λh=>?_) Ae.size Ae.imm (λB i v hv=>?_) AC.imm AC.one
   ·obtain⟨id,o,x,_,q1,q2,q3,q4⟩:=ownM B h;subst q4;exact hs.extsep id _ _ q1 q2 q3 hB
   ·rcases Ae.newImm B i v hv with h|h|h
    ·exact .inl h
    ·refine .inr λhB=>?_
     obtain⟨id,o,x,_,q1,q2,q3,q4⟩:=ownM B h;subst q4;exact hs.extsep id _ _ q1 q2 q3 (.inl hB)
    ·refine .inr λhB=>?_
     have:=hs.extlt B (.inl hB);omega
 ·rcases key k o x hk hx with ⟨i,o0,h1,rfl,h3,h4⟩|⟨h1,h2,h3⟩
  ·rw[Jax]at Ao;intro hB;rcases CB i o0 x h1 Ao h3 with h|h
   ·obtain⟨id,o,y,_,q1,q2,q3,q4⟩:=ownM _ h;rw[<-q4]at hB;exact hs.extsep id _ _ q1 q2 q3 hB
   ·have:=hs.extlt _ hB;omega
  ·exact hs.extsep k o x h1 Ao h2
end
section
variable{E:Env}{n0:Nat}{N:Fr}{Q:Exit->Ls->Lt->Prop}{k:LJ}{T:Ls}
theorem vr_loc{ags:LK}{l:LB}{args0:Ls}(σ:Lx)(hg:GOk T g)(h:CallsC P Env.none f args0 H0 R)(ha:JB σ (ags.map (Ke T))=args0)(hH:Ko σ H=H0)(Aq:locOk σ H=true)(hk:∀v H',R v H'->KA P E n0 N Q (.ops l::k) (put T d (mo (tau σ H.length) v)) (Y5 σ H.length 0 H' H)):Ok P E n0 N Q (.ops (⟨d,.call f ags,g⟩::l)::k) T H:=Ky hg (h.loc σ ha hH Aq) λv H' ⟨v0,H0,hR,e1,e2⟩=>by rw[e1,e2];exact hk v0 H0 hR
theorem vr_locE{ags:LK}{l:LB}{args0:Ls}{H1 H2:Lt}{v v2:CV}(σ:Lx)(hg:GOk T g)(h:CallsC P Env.none f args0 H0 λv' H'=>v'=v/\H'=H1)(ha:JB σ (ags.map (Ke T))=args0)(hH:Ko σ H=H0)(Aq:locOk σ H=true)(hv:mo (tau σ H.length) v=v2)(h2:Y5 σ H.length 0 H1 H=H2)(hk:KA P E n0 N Q (.ops l::k) (put T d v2) H2):Ok P E n0 N Q (.ops (⟨d,.call f ags,g⟩::l)::k) T H:=vr_loc σ hg h ha hH Aq λv' H' ⟨e1,e2⟩=>by rw[e1,e2,hv,h2];exact hk
end
end Go.Cm
end
section
set_option maxRecDepth 100000
namespace Go.Cm
variable {op:IOp}{T:Ls}{H H':Lt}{v:CV}{d:Option Nat}{b f:Nat}
def looks:IOp->Bool
 |.load _ _ _=>true
 |.iaddr _ _ _=>true
 |_=>false
theorem JgT{c:Cond}(hl:looks op=true)(he:exec op T H=some (c,v,H')):H'=H:=by
 cases op <;> simp only[looks]at hl <;> first|(cases hl;done)|skip
 all_goals
  simp only[exec]at he
  repeat' split at he
  all_goals first|(cases he;done)|(simp only[Option.some.injEq,Prod.mk.injEq]at he;exact he.2.2.symm)
def Jen (b:Nat):Foot×Foot:=if b=0 then Foot.no else if b=1 then(.all,.on []) else Foot.any
def JeN (b:Nat)(op:IOp)(T:Ls)(H:Lt):Option (Cond×CV×Lt):=if b=0 then JfD false op T H else if b=1 then(if looks op=true then exec op T H else none) else exec op T H
section
variable (P:Program)(E:Env)(n0:Nat)(N:Fr)(Q:Exit->Ls->Lt->Prop)
def vdx (k:LJ):LB->Lx->Ls->Lt->Prop
 |[],_,T,H=>KA P E n0 N Q k T H
 |_::_,[],_,_=>False
 |⟨d,op,none⟩::l,b::bs,T,H=>match JeN b op T H with
  |some (c,v,H')=>c.holds/\vdx k l bs (put T d v) H'
  |none=>∃v H',HS P E ⟨d,op,none⟩ T H v H' (Jen b)/\vdx k l bs (put T d v) H'
 |⟨d,op,some g⟩::l,b::bs,T,H=>∃v H',HS P E ⟨d,op,some g⟩ T H v H' (Jen b)/\vdx k l bs (put T d v) H'
def vdxR (r:Option (Cond×CV×Lt))(d:Option Nat)(op:IOp)(b:Nat)(k:LJ)(l:LB)(bs:Lx)(T:Ls)(H:Lt):Prop:=
 match r with
 |some (c,v,H')=>c.holds/\vdx P E n0 N Q k l bs (put T d v) H'
 |none=>∃v H',HS P E ⟨d,op,none⟩ T H v H' (Jen b)/\vdx P E n0 N Q k l bs (put T d v) H'
end
section
variable {P:Program}{E:Env}{n0:Nat}{N:Fr}{Q:Exit->Ls->Lt->Prop}{k:LJ}{l:LB}{es:List Lx}{bs:Lx}
theorem vx_nil:vdx P E n0 N Q k [] bs T H=KA P E n0 N Q k T H:=propext (by cases bs <;> exact Iff.rfl)
theorem vx_op:vdx P E n0 N Q k (⟨d,op,none⟩::l) (b::bs) T H=vdxR P E n0 N Q (JeN b op T H) d op b k l bs T H:=propext Iff.rfl
theorem vdxR_some{c:Cond}:vdxR P E n0 N Q (some (c,v,H')) d op b k l bs T H=(c.holds/\vdx P E n0 N Q k l bs (put T d v) H'):=propext Iff.rfl
theorem vdx_look {T':Ls}{H':Lt}(hT:T=T')(hH:H=H'):vdx P E n0 N Q k l bs T H=vdx P E n0 N Q k l bs T' H':=by rw[hT,hH]
theorem vdxR_look {r r':Option (Cond×CV×Lt)}(h:r=r'):vdxR P E n0 N Q r d op b k l bs T H=vdxR P E n0 N Q r' d op b k l bs T H:=by rw[h]
attribute [congr] vdx_look vdxR_look
theorem hs_ro {io:IOper}{x:CV}{c:Cond}(hg:GOk T io.guard)(he:exec io.op T H=some (c,x,H))(hc:c.holds):HS P E io T H x H (.all,.on []):=by
 have h:=hs_op (P:=P) (E:=E) hg he hc;refine⟨λ_ _=>rfl,λT2 H2 ag hx=>?_⟩;have hH:H2=H:=Jao λy=>hx y trivial
 obtain⟨H2',h1,_,h3⟩:=h.run T2 H2 ag λy _=>hx y trivial
 have dh:H2'=H:=Jao λy=>h1 y trivial
 subst hH dh;exact⟨_,λy hy=>(by cases hy),λ_ _=>rfl,h3⟩
theorem xexec_sound{c:Cond}(he:JeN b op T H=some (c,v,H'))(hc:c.holds):HS P E ⟨d,op,none⟩ T H v H' (Jen b):=by
 unfold JeN at he;unfold Jen
 split at he
 ·rename_i h;rw[if_pos h];exact JcB he hc
 ·rename_i h;rw[if_neg h]
  split at he
  ·rename_i h1;rw[if_pos h1]
   split at he
   ·rename_i h2;obtain rfl:=JgT h2 he;exact hs_ro (.inl rfl) he hc
   ·cases he
  ·rename_i h1;rw[if_neg h1];exact hs_op (.inl rfl) he hc
theorem vdx_vals:∀(l:LB) (bs:Lx) (T:Ls) (H:Lt),vdx P E n0 N Q k l bs T H->l.length=bs.length->∃(v:Nat->CV) (hh:Nat->Lt),hh 0=H/\(∀j,j<l.length->HS P E (QY l j) (tst l v T j) (hh j) (v j) (hh (j+1)) (Xv (bs.map Jen) j))/\KA P E n0 N Q k (tst l v T l.length) (hh l.length)
 |[],bs,T,H,h,_=>⟨λ_=>.un,λ_=>H,rfl,sM,by rw[vx_nil]at h;exact h⟩
 |io::l,[],T,H,h,hl=>by simp at hl
 |io::l,b::bs,T,H,h,hl=>by
  have Ep:∃v0 H',HS P E io T H v0 H' (Jen b)/\vdx P E n0 N Q k l bs (put T io.dst v0) H':=by
   obtain⟨d,op,g⟩:=io
   cases g with
   |none=>
    rw[vx_op]at h;unfold vdxR at h
    split at h
    ·rename_i c v H' he;exact⟨v,H',xexec_sound he h.1,h.2⟩
    ·exact h
   |some g=>exact h
  obtain⟨v0,H',h1,h2⟩:=Ep;obtain⟨v,hh,h0,h3,h4⟩:=vdx_vals l bs _ _ h2 (by simpa using hl)
  let v':Nat->CV:=λj=>match j with|0=>v0|j+1=>v j
  let EC:Nat->Lt:=λj=>match j with|0=>H|j+1=>hh j
  have key:∀j,tst (io::l) v' T (j+1)=tst l v (put T io.dst v0) j:=by
   intro j
   induction j with
   |zero=>rfl
   |succ j ih=>rw[tst,ih];rfl
  refine⟨v',EC,rfl,λj hj=>?_,?_⟩
  ·cases j with
   |zero=>have e:EC (0+1)=H':=h0;rw[e];exact h1
   |succ j=>rw[key];exact h3 j (by simpa using hj)
  ·rw[Gc,key];exact h4
theorem JcI (bs:Lx)(hm:P.follows .mixedOrders=true)(AJ:(l.length == bs.length && (JaF l.length es (clo es) && Qd l (clo es) (bs.map Jen)))=true)(h:vdx P E n0 N Q k l bs T H):Ok P E n0 N Q (.code (.dreg l es)::k) T H:=by simp only[Gm,beq_iff_eq]at AJ;obtain⟨v,hh,h0,h1,h2⟩:=vdx_vals l bs T H h AJ.1;exact Jez AJ.2.1 hm AJ.2.2 h1 h0 (Jz _ _ _ h2)
theorem vx_f{xa:LK}(Af:Fn P f (xa.map (Ke T)) v)(h:vdx P E n0 N Q k l bs (put T d v) H):vdxR P E n0 N Q none d (.call f xa) 0 k l bs T H:=⟨v,H,hs_f (.inl rfl) Af,h⟩
theorem vx_call{xa:LK}{H':Lt}(Af:CallsC P E f (xa.map (Ke T)) H λv2 H2=>v2=v/\H2=H')(h:vdx P E n0 N Q k l bs (put T d v) H'):vdxR P E n0 N Q none d (.call f xa) 2 k l bs T H:=⟨v,H',JcA (.inl rfl) Af,h⟩
end
theorem xexec0:JeN 0 op T H=JfD false op T H:=rfl
theorem xexec1:JeN 1 op T H=if looks op=true then exec op T H else none:=rfl
theorem xexec2:JeN 2 op T H=exec op T H:=rfl
attribute [go_sem] xexec0 xexec1 xexec2 looks vx_nil vx_op vdxR_some
end Go.Cm
end
end
