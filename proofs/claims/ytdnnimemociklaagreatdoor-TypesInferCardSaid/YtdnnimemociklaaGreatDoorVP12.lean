/-
  A part of the proof. Conditions: none.
-/
import Derived.Test.YtdnnimemociklaaGreatDoorVP7
import Derived.Lib.Join
import Derived.Lib.ItoaLen
set_option linter.unusedSimpArgs false
set_option linter.unusedVariables false
open Go.Proofs.Tryz renaming prog->Gc
open Int renaming cast_ofNat_Int->Gy,toNat_natCast->GX,add_zero->GY
open Nat renaming le_refl->Gg,zero_add->Gq,lt_or_ge->GI
open Bool renaming and_eq_true->Gi,eq_false_or_eq_true->Gs,true_and->Gp,not_false->Gt,and_eq_false_iff->GJ,not_true->Gz,eq_iff_iff->GK,false_and->GL,or_eq_false_iff->GZ,not_eq_true->G5
open List renaming getD_eq_getElem?_getD->Gb,getElem?_eq_getElem->Ga,getElem_mem->Gd,getElem?_eq_some_iff->Gm,length_cons->Gf,take_length->Gj,map_cons->Gh,take_succ_eq_append_getElem->GA,length_nil->Gn,take_of_length_le->Gu,drop_eq_nil_of_le->Gv,map_nil->Gl,getElem?_map->Gr,mem_of_getElem?->Gw,getElem?_append_left->GD,drop_eq_getElem_cons->GG,all_eq_true->Gx,getElem?_append_right->GM,mem_singleton->GH,length_take->GN,cons_append->GQ,mem_append->GR,drop_zero->GU,mem_cons->GV,contains_eq_mem->G6,getElem?_drop->G7,any_eq_false->G8,all_eq_false->G9,nil_append->Ha,foldl_cons->Hd,mem_range->He
noncomputable section
section
set_option maxRecDepth 100000
set_option maxHeartbeats 40000000
open Go.Proofs
namespace Go.Cm
theorem refKin28 (t:Tr)(x:Nd)(hx:x.Fit)(hm:t.nodes.length<=1400)(hn:∀y∈t.nodes,y.k<256)(hk:∀k∈x.kids,0<=k/\k<t.nodes.length)(Eb:x.k=28) :
  Fn Gc 95 [t.cv,.agg x.cv] (.bool (Qk x.k x.n (lets t.nodes x))):=by
 have Bh:=hx.kidn;have Cx:=KG (l:=t.nodes) (x:=x);have hK:∀(c:Nat) (b:UInt8),(c,b)∈([(200,101),(201,116),(202,99),(40,66),(41,83),(42,98),(43,73),(44,78),(45,71),(48,79),(64,80)]:List (Nat×UInt8))->∀p q:Int,Fn Gc 149 [t.cv,.agg x.cv,.int .i64 p,.int .i64 q,.int .u8 c] (.bool (Kc (lets t.nodes x) p q b)):=by intro c b Fy p q;have:=refKids t x hx hm hk p q c;rw[kids_conv hn hk (λk h=>cls_all ⟨k,h⟩ (c,b) Fy)]at this;exact this
 have hM:=refMany t x hx hk 41;rw[Jfg (b:=83) hn hk (λk h=>(let_all ⟨k,h⟩).1)]at hM;have aK:Qy 83 (lets t.nodes x)<=30:=Nat.le_trans (cntB_le _ _) om;have K200:=hK 200 101 vk;have K41:=hK 41 83 vk;have K43:=hK 43 73 vk;have K44:=hK 44 78 vk;have K45:=hK 45 71 vk;simp only[Gy]at K200 K41 K43 K44 K45 hM;obtain⟨k,text,n,kids,pl⟩:=x;simp only at Eb;subst Eb;generalize lets t.nodes ⟨28,text,n,kids,pl⟩=hv at Cx K200 K41 K43 K44 K45 hM aK|-;obtain⟨cs,Eh⟩:∃cs:Int,cs=(Qy 83 hv:Int):=⟨_,rfl⟩;rw[<-Eh]at hM;simp only[Nd.cv,Tr.cv,Tr.row]at Bh Cx K200 K41 K43 K44 K45 hM|-;clear hK;obtain⟨m,Dm⟩:∃m:Int,m=(kids.length:Int):=⟨_,rfl⟩;refine Jc c95_ok rfl rfl λN=>?_
 simp (maxSteps:=2000000) -implicitDefEqProofs only[c95,go_sem,Jf,Gy,<-Dm];refine J3 hM ?_;by_cases h0:0<=n
 ·have f0:((0:Int)<=n)=True:=eq_true h0;by_cases h1:n<m
  ·have f1:(n<m)=True:=eq_true h1;simp (maxSteps:=2000000) -implicitDefEqProofs only[go_sem,f0,f1];have Bz:Qk 28 n hv=(Kc hv 0 n 73 && Kc hv n (n+1) 101 && Kc hv (n+1) (n+1+cs) 83 && Kc hv (n+1+cs) (m-1) 78 && Kc hv (m-1) m 71):=by simp[Qk,Cx,<-Dm,<-Eh,h0,h1]
   rw[Bz];refine Kk (gok rfl) (K43 (0) n) ?_
   cases g0:Kc hv (0) n 73 with
   |false=>simp (maxSteps:=2000000) -implicitDefEqProofs only[go_sem];try simp
   |true=>
    simp (maxSteps:=2000000) -implicitDefEqProofs only[go_sem];refine⟨Jg,?_⟩;refine Kk (gok rfl) (K200 (n) (n+1)) ?_
    cases g1:Kc hv (n) (n+1) 101 with
    |false=>simp (maxSteps:=2000000) -implicitDefEqProofs only[go_sem];try simp
    |true=>
     simp (maxSteps:=2000000) -implicitDefEqProofs only[go_sem];refine⟨Jg,?_⟩;refine⟨Jg,?_⟩;refine⟨Jg,?_⟩;refine Kk (gok rfl) (K41 (n+1) (n+1+cs)) ?_
     cases g2:Kc hv (n+1) (n+1+cs) 83 with
     |false=>simp (maxSteps:=2000000) -implicitDefEqProofs only[go_sem];try simp
     |true=>
      simp (maxSteps:=2000000) -implicitDefEqProofs only[go_sem];refine⟨Jg,?_⟩;refine⟨Jg,?_⟩;refine⟨Jg,?_⟩;refine Kk (gok rfl) (K44 (n+1+cs) (m-1)) ?_
      cases g3:Kc hv (n+1+cs) (m-1) 78 with
      |false=>simp (maxSteps:=2000000) -implicitDefEqProofs only[go_sem];try simp
      |true=>
       simp (maxSteps:=2000000) -implicitDefEqProofs only[go_sem];refine⟨Jg,?_⟩;refine Kk (gok rfl) (K45 (m-1) m) ?_
       cases g4:Kc hv (m-1) m 71 with
       |false=>simp (maxSteps:=2000000) -implicitDefEqProofs only[go_sem];try simp
       |true=>
        simp (maxSteps:=2000000) -implicitDefEqProofs only[go_sem]
        try simp
  ·have f1:(n<m)=False:=eq_false h1;simp (maxSteps:=2000000) -implicitDefEqProofs only[go_sem,f0,f1];simp[Qk,Cx,<-Dm,h1]
 ·have f0:((0:Int)<=n)=False:=eq_false h0;simp (maxSteps:=2000000) -implicitDefEqProofs only[go_sem,f0];simp[Qk,h0]
end Go.Cm
end
section
open Go.Shelf Go.RowKit Go.Proofs
namespace Go.Proofs
open Go.Cm in
set_option maxHeartbeats 4000000 in
set_option maxRecDepth 100000 in
theorem Tryz.kinMax_walk (ta tb:Value)(s:ByteArray)(b:Option Addr)(len cap:Nat)(pl:Int)(hl:len<=1000)(w:World) :
  Calls Gc 95 #[.agg #[ta,tb],.agg #[.int .u8 41,.string s,.int .i64 9223372036854775807,.slice b len cap,.int .i64 pl]] w λe w'=>e=.returned (.bool false)/\Below w.heap.size w w':=by
 have hw:wrap64 9223372036854775808 = -9223372036854775808:=by decide +kernel
 have Ai:¬((len:Int)=wrap64 9223372036854775808):=by omega
 go_enter Tryz.func95,Tryz.ntmps95
 go_wp2
 all_goals first
  |(exfalso;omega)
  |skip
 go_ret
 exact⟨rfl,((Below.refl _ _).alloc (Gg _) _).alloc (show _<=(w.heap.push _).size by rw[Array.size_push];omega) _⟩
end Go.Proofs
namespace Go.Cm
theorem refKinMax (t:Tr)(x:Nd)(hx:x.Fit)(BC:x.k=41)(hm:x.n=9223372036854775807):Fn Gc 95 [t.cv,.agg x.cv] (.bool (Qk x.k x.n (lets t.nodes x))):=by
 have Bh:=hx.kidn;have Cx:=KG (l:=t.nodes) (x:=x);have hf:Qk x.k x.n (lets t.nodes x)=false:=by
  rw[BC,hm];have:((lets t.nodes x).length:Int)≠9223372036854775808:=om
  simp[Qk,this]
 rw[hf];intro E H;refine KZ λm w vs hs hv=>?_
 obtain⟨k,text,n,kids,pl⟩:=x;simp only at BC hm;subst BC hm;simp only[JY,rel,Tr.cv,Tr.row,Nd.cv]at hv;obtain⟨r,rs,e,⟨v1,rfl,ra,ras,e1,-,rb,rbs,e2,-,e3⟩,x,xs,e4,⟨v2,rfl,y1,ys1,f1,g1,y2,ys2,f2,g2,y3,ys3,f3,g3,y4,ys4,f4,g4,y5,ys5,f5,g5,f6⟩,e5⟩:=hv;have BF:vs=#[.agg v1,.agg v2]:=by cases vs;simp_all
 have h1:v1=#[ra,rb]:=by cases v1;simp_all
 have h2:v2=#[y1,y2,y3,y4,y5]:=by cases v2;simp_all
 subst BF h1 h2 g1 g2 g3 g5;have h4:∃b c,y4=.slice b kids.length c:=by
  rcases g4 with ⟨-,h,b,rfl⟩|⟨B,o,c,rfl,-⟩
  ·have:kids.length=0:=by rw[<-Jf (l:=kids),h];rfl
   exact⟨b,0,by rw[this]⟩
  ·exact⟨_,c,by rw[Jf]⟩
 obtain⟨b,c,rfl⟩:=h4;exact⟨_,Tryz.kinMax_walk ra rb ⟨⟨text⟩⟩ b kids.length c pl (by simp only at Bh;omega) w,rfl⟩
theorem refKin (t:Tr)(x:Nd)(hx:x.Fit)(hm:t.nodes.length<=1400)(hn:∀y∈t.nodes,y.k<256)(hk:∀k∈x.kids,0<=k/\k<t.nodes.length):Fn Gc 95 [t.cv,.agg x.cv] (.bool (Qk x.k x.n (lets t.nodes x))):=by
 by_cases Eb:x.k=28
 ·exact refKin28 t x hx hm hn hk Eb
 ·by_cases BC:x.k=41/\x.n=9223372036854775807
  ·exact refKinMax t x hx BC.1 BC.2
  ·exact refKin1 t x hx hm hn hk (λh=>by
   have h5:x.n<=9223372036854775807:=hx.n.2;have h6:x.n≠9223372036854775807:=λe=>BC ⟨h,e⟩
   omega) Eb
end Go.Cm
end
section
set_option maxRecDepth 100000
set_option maxHeartbeats 40000000
open Go.Proofs
namespace Go.Cm
variable {t:Tr}{i n:Nat}{cap:Option Nat}
theorem refFields (x:Nd)(kk:Nat)(nmd:Bool)(hq:(kk == 2)=nmd)(hn:Fn Gc 150 [S x.text] (.int .u8 kk)):Fn Gc 96 [.agg x.cv] (.bool (Q0 nmd x.k x.text x.n x.pl)):=by
 have DX:((kk:Int) != 2) = !nmd:=by
  rw[<-hq,bne]
  congr 1
  rw[GK];simp;omega
 obtain⟨k,text,n,kids,pl⟩:=x;simp only[Nd.cv]at hn|-;by_cases hC:k=1\/k=2\/k=3\/k=26\/k=42\/k=43\/k=44\/k=64\/k=65\/k=47\/k=48\/k=40\/k=41\/k=28\/k=29
 rotate_left
 ·have hE:Q0 nmd k text n pl=(text == [] && (n == 0 && inI 0 2500 pl)):=by simp only[Q0];have d1:decide (k=3\/k=26\/k=42\/k=43\/k=44\/k=64\/k=65\/k=47)=false:=decide_eq_false om;have d2:decide (k=65\/k=47\/k=40\/k=41\/k=28\/k=29)=false:=decide_eq_false om;rw[iN7,iN7,iN7,d1,d2];simp
  rw[hE];simp only[not_or]at hC;refine Jc c96_ok rfl rfl λN=>?_
  cases t1:text == [] <;> cases h0:n == 0 <;> repeat first
   |refine Kk (gok rfl) (JbI pl 0 2500) ?_
   |simp (maxSteps:=2000000) -implicitDefEqProofs only[c96,go_sem,t1,h0,kbo,hC,not_false_eq_true]
 rcases hC with rfl|rfl|rfl|rfl|rfl|rfl|rfl|rfl|rfl|rfl|rfl|rfl|rfl|rfl|rfl <;> (
  simp only[Q0];refine Jc c96_ok rfl rfl λN=>?_
  repeat first
   |refine J3 (JbI n 0 1000000000) ?_
   |refine J3 (JbI n 0 1) ?_
   |refine Kk (gok rfl) (JbI pl 0 2500) ?_
   |refine Kk (gok rfl) hn ?_;clear hq hn;revert DX;cases nmd <;> intro DX <;> simp only[Gz,Gt]at DX
   |simp (maxSteps:=2000000) -implicitDefEqProofs only[c96,go_sem,Gy,DX]
   |rcases Gs (text == []) with t1|t1 <;> rw[t1]
   |rcases Gs (text == [35]) with t2|t2 <;> rw[t2]
   |rcases Gs (n == 0) with h0|h0 <;> rw[h0]
   |rcases Gs (inI 0 1000000000 n) with hc|hc <;> rw[hc]
   |rcases Gs (inI 0 1 n) with hc|hc <;> rw[hc]
  all_goals first|simp|simp_all)
def mD (d:Lu)(ks:Lu):Int:=ks.foldl (λa k=>mx a (d.getD k.toNat 0)) 0
theorem mx_succ (a b:Int):mx (a+1) (b+1)=mx a b+1:=by unfold mx;split <;> split <;> omega
theorem ownD_mD (d ks:Lu):ownD d ks=mD d ks+1:=by
 have key:∀(l:Lu) (a:Int),l.foldl (λa k=>mx a (d.getD k.toNat 0+1)) (a+1)=l.foldl (λa k=>mx a (d.getD k.toNat 0)) a+1:=by
  intro l
  induction l with
  |nil=>intro a;rfl
  |cons k l ih=>intro a;rw[Hd,Hd,mx_succ];exact ih _
 exact key ks 0
theorem mD_rng {d:Lu}{m:Int}(h:∀v∈d,1<=v/\v<=m)(hm:0<=m)(ks:Lu):0<=mD d ks/\mD d ks<=m:=by have:=Jhf (m:=m) h hm ks 1 om om;have e:=ownD_mD d ks;unfold ownD at e;omega
theorem JfS (t:Tr)(ht:t.Fit){o:Lu}(ho:JB (JN t.nodes) []=some o):Fn Gc 78 [t.cv] (.bool (Jbj t)):=by
 have Ag:=ht.many;refine Jc c78_ok rfl rfl λN=>?_
 simp only[c78,go_sem,Tr.cv,Tr.row];refine Je (id:=0) (z:=2) (els:=[t.row]) rfl rfl ?_;simp only[go_sem,JM,KA,frz,Kn];refine Jr (I:=λi:Nat=>i<=t.nodes.length/\∀v∈QS ((JN t.nodes).take i) [],v<=30) (inv:=λi=>gp [(1,.rptr t.row),(1,.slc 1 0 (iz (QS ((JN t.nodes).take i) [])).length (Jd8 (iz (QS ((JN t.nodes).take i) [])))),(0,.int .i64 (i:Int))] 43)
  (hp:=λi=>[.dead,.arr 1 (iz (QS ((JN t.nodes).take i) []))]) (μ:=λi=>t.nodes.length-i) 0 [0,1] ⟨om,by simp[QS]⟩ rfl ?_ rfl ?_
 ·simp[forget,JG,ren,Jk,gp,QS,iz,Jd8]
 ·rintro i ⟨hi,Aj⟩;have Be:(QS ((JN t.nodes).take i) []).length=i:=by rw[JcG,GN];simp[JN];omega
  have E9:=JhK ((JN t.nodes).take i) [] (by intro v hv;simp at hv);by_cases Ab:i<t.nodes.length
  ·have Ar:=Jgm (Km Ab);have IP:=XL ho (Km Ab);have hx:=ht.nodes _ (Gd Ab);rw[<-rowg Ab]at hx;have Ct:=Be;clear Be;have CZ:∀v∈QS ((JN t.nodes).take (i+1)) [],v∈QS (JN t.nodes) []:=by intro v hv;rw[deepF_take (by rw[QD];omega)]at hv;exact List.mem_of_mem_take hv
   generalize hD:QS ((JN t.nodes).take i) []=d at Ar Ct E9 Aj|-;have d1:=dtT i t.nodes.length;simp only[go_sem,Tr.row,Ja,d1];have hg:=QC Ab;generalize t.nodes.getD i default=x at Ar IP hx hg|-;have Bh:=hx.kidn;have F5:∀v∈d,1<=v/\v<=i:=λv hv=>by have:=E9 v hv;omega
   refine JL (I:=λj:Nat=>j<=x.kids.length) (inv:=λj=>gp [(1,.rptr t.row),(1,.slc 1 0 (iz d).length (Jd8 (iz d))),(0,.int .i64 (i:Int)),(0,.int .i64 (mD d (x.kids.take j))),(0,.int .i64 (j:Int))] 41)
    (hp:=λ_=>[.dead,.arr 1 (iz d)]) (μ:=λj=>x.kids.length-j) 0 om ?_ rfl ?_
   ·simp[forget,gp,mD,Tr.row]
   ·intro j hj;have Bn:(iz x.kids).length=x.kids.length:=Jf;by_cases A7:j<x.kids.length
    ·have d2:=dtT j x.kids.length;have AO:x.kids.getD j 0∈x.kids:=by rw[Gb,Ga A7];exact Gd A7
     have hb:=IP _ AO;have Al:mD d (x.kids.take (j+1))=mx (mD d (x.kids.take j)) (d.getD (x.kids.getD j 0).toNat 0):=by
      have Dz:x.kids.getD j 0=x.kids[j]:=by rw[Gb,Ga A7];rfl
      unfold mD;rw[GA A7,List.foldl_append,Dz];rfl
     have Ay:=JF A7;generalize x.kids.getD j 0=k at hb Al Ay;have Dz:=JF (l:=d) (i:=k.toNat) om;have Pq:=Jht (m:=i) (λv hv=>by have:=F5 v hv;omega) om k.toNat;have Sa:(iz d).length=d.length:=Jf;simp only[go_sem,Tr.row,Ja,hg,Nd.cv,Bn,d2,Ay,Dz];refine⟨om,om,om,om,om,Jg,j+1,om,om,?_⟩;rw[Al];simp[forget,mx]
    ·have Cf:j=x.kids.length:=om
     subst Cf;have d2:=dfF x.kids.length x.kids.length;rw[Gj];have gL:=mD_rng F5 om x.kids;have Sa:(iz d).length=d.length:=Jf;rw[ownD_mD]at Ar;have hz:iz (d++[mD d x.kids+1])=iz d++[[.int .i64 (mD d x.kids+1)]]:=Qo;have Aw:=Jh (d++[mD d x.kids+1]);generalize mD d x.kids=v at Ar gL hz Aw|-;by_cases hv:30<v+1
     ·have d3:((30:Int)<v+1)=True:=eq_true hv;have hB:Jbj t=true:=by rw[Jbj,List.any_eq_true];exact⟨v+1,CZ _ (by rw[Ar];simp),by simpa using hv⟩
      simp only[go_sem,Tr.row,Ja,hg,Nd.cv,Bn,d2,d3,JA,hB]
      repeat' apply And.intro
      all_goals first|omega|exact Jg
     ·have d3:((30:Int)<v+1)=False:=eq_false hv;simp only[go_sem,Tr.row,Ja,hg,Nd.cv,Bn,d2,d3,JA];refine⟨om,Jg,om,Jg,Jg,i+1,[0,3],⟨om,?_⟩,om,rfl,?_,?_⟩
      ·rw[Ar];intro u hu;rcases GR.1 hu with hu|hu
       ·exact Aj u hu
       ·rw[GH.1 hu];omega
      ·rw[Ar];have hc:=Jb (ρ:=[0,3]) Aw;simp only[KD,Gh,Gl,go_sem,Jo];rw[hz]at hc|-;rw[hc];rfl
      ·rw[Ar,hz,Yv];simp[forget,JG,ren,Jk,Jf]
  ·have Cy:i=t.nodes.length:=om
   subst Cy;have d1:=dfF t.nodes.length t.nodes.length;have hB:Jbj t=false:=by rw[Jbj,<-Gu (l:=JN t.nodes) (i:=t.nodes.length) (by simp[JN]),G8];intro v hv;have:=Aj v hv;simp;omega
   rw[hB];simp only[go_sem,Tr.row,Ja,d1]
theorem Jbn(h1:¬(700<t.nodes.length\/20<t.items.length))(h2:frm t=false):chk t=4:=by unfold chk;rw[if_neg h1,if_neg (by rw[h2];simp)]
theorem frm_none(h:JB (JN t.nodes) []=none):frm t=false:=by unfold frm;rw[h]
theorem frm_kid(hi:i<t.nodes.length){k:Int}(hk:k∈(t.nodes.getD i default).kids)(hb:¬(0<=k/\k<i)):frm t=false:=by
 cases h:JB (JN t.nodes) []with
 |none=>exact frm_none h
 |some o=>exact absurd (XL h (Km hi) k hk) hb
theorem frm_nd(hi:i<t.nodes.length)(hb:ndI t.nodes (t.nodes.getD i default)=false):frm t=false:=by
 unfold frm
 cases h:JB (JN t.nodes) []with
 |none=>rfl
 |some o=>
  simp only[GJ]
  right
  rw[G9];refine⟨t.nodes.getD i default,?_,by rw[hb];simp⟩;rw[Gb,Ga hi];exact Gd hi
theorem step_ord {K:LP}{o ks:Lu}(ho:JB (K.take i) []=some o)(hk:K[i]? = some ks) :
  (JB (K.take (i+1)) []=none/\(Jfz (fs o) ks.reverse i).2=false)\/(∃f,JB (K.take (i+1)) []=some (o++[f])/\(Jfz (fs o) ks.reverse i).2=true):=by
 obtain⟨h1,h2⟩:=Jdz ho hk;have Ao:=QU _ _ _ Xf.nil ho;have h3:=JfX (fst:=fs o) Ao (λk _ _=>rfl) ks.reverse ((o.length:Int)-1) om;rw[h1];unfold Jel;have e:((o.length:Int)-1+1)=(i:Int):=om
 rw[e]at h3
 cases h4:Xy o ks.reverse ((o.length:Int)-1) with
 |none=>rw[h4]at h3;exact .inl ⟨rfl,h3⟩
 |some b=>rw[h4]at h3;simp only at h3;exact .inr ⟨b+1,rfl,by rw[h3]⟩
theorem ndI_R (l:LC)(x:Nd):ndI l x=(Qk x.k x.n (lets l x) && Q0 (JdH x.text) x.k x.text x.n x.pl && Qp x.k x.n (lets l x)):=by unfold ndI;rw[node_eq];rfl
theorem refCheck (t:Tr)(ht:t.Fit):Fn Gc 56 [t.cv] (.int .i64 (chk t)):=by
 have Ag:=ht.many;have OP:=ht.items;refine Jc c56_ok rfl rfl λN=>?_
 simp -implicitDefEqProofs only[c56,go_sem,Tr.cv,Tr.row];refine Je (id:=0) (z:=2) (els:=[t.row]) rfl rfl ?_;simp only[go_sem,JM,KA,frz,Kn,Tr.row];refine J3 (refLimits t) ?_;by_cases h1:700<t.nodes.length\/20<t.items.length
 ·have hc:chk t=5:=by unfold chk;rw[if_pos h1]
  rw[decide_eq_false (not_not_intro h1),hc];simp -implicitDefEqProofs only[go_sem]
 ·rw[decide_eq_true h1];simp -implicitDefEqProofs only[go_sem];refine JL (I:=λi:Nat=>i<=t.nodes.length/\∀j,j<i->∀k∈(t.nodes.getD j default).kids,0<=k/\k<j) (inv:=λi=>gp [(1,.rptr t.row),(1,.int .i64 (i:Int))] 123) (hp:=λ_=>[.dead]) (μ:=λi=>t.nodes.length-i) 0 ⟨om,om⟩ ?_ rfl ?_
  ·simp[forget,gp,Tr.row]
  ·rintro i ⟨hi,Fq⟩;by_cases Ab:i<t.nodes.length
   ·have d1:=dtT i t.nodes.length;have hx:=ht.nodes _ (Gd Ab);rw[<-rowg Ab]at hx;have hg:=QC Ab;have ak:=λ{k:Int} (hk:k∈(t.nodes.getD i default).kids) (hb:¬(0<=k/\k<i))=>frm_kid Ab hk hb
    have MN:(∀k∈(t.nodes.getD i default).kids,0<=k/\k<i)->∀j,j<i+1->∀k∈(t.nodes.getD j default).kids,0<=k/\k<j:=by
     intro h j hj;by_cases e:j=i
     ·subst e;exact h
     ·exact Fq j om
    generalize t.nodes.getD i default=x at hx hg ak MN;have Bh:=hx.kidn;have Bn:(iz x.kids).length=x.kids.length:=Jf;simp -implicitDefEqProofs only[go_sem,Tr.row,Ja,d1];refine JL (I:=λj:Nat=>j<=x.kids.length/\∀k∈x.kids.take j,0<=k/\k<i) (inv:=λj=>gp [(1,.rptr t.row),(1,.int .i64 (i:Int)),(0,.int .i64 (j:Int))] 122) (hp:=λ_=>[.dead]) (μ:=λj=>x.kids.length-j) 0 ⟨om,sM⟩ ?_ rfl ?_
    ·simp[forget,gp,Tr.row]
    ·rintro j ⟨hj,El⟩;by_cases A7:j<x.kids.length
     ·have d2:=dtT j x.kids.length;have Ay:=JF A7;have AO:x.kids.getD j 0∈x.kids:=by rw[Gb,Ga A7];exact Gd A7
      have AC:x.kids.take (j+1)=x.kids.take j++[x.kids.getD j 0]:=by rw[GA A7,Gb,Ga A7];rfl
      generalize x.kids.getD j 0=k at Ay AO AC;simp -implicitDefEqProofs only[go_sem,Tr.row,Ja,hg,Nd.cv,Bn,d2,Ay];refine⟨om,om,om,Jg,?_⟩;refine J3 (JbI k 0 ((i:Int)-1)) ?_
      cases AR:inI 0 ((i:Int)-1) k with
      |true=>
       simp only[inI,Gi,decide_eq_true_eq]at AR;simp -implicitDefEqProofs only[go_sem];refine⟨Jg,j+1,⟨om,?_⟩,om,?_⟩
       ·rw[AC];intro u hu;rcases GR.1 hu with hu|hu
        ·exact El u hu
        ·rw[GH.1 hu];omega
       ·simp[forget]
      |false=>
       have hb:¬(0<=k/\k<i):=by simp only[inI,GJ,decide_eq_false_iff_not]at AR;omega
       rw[Jbn h1 (ak AO hb)];simp -implicitDefEqProofs only[go_sem]
     ·have Cf:j=x.kids.length:=om
      subst Cf;rw[Gj]at El;have d2:=dfF x.kids.length x.kids.length;simp -implicitDefEqProofs only[go_sem,Tr.row,Ja,hg,Nd.cv,Bn,d2];refine⟨om,Jg,i+1,⟨om,MN El⟩,om,?_⟩;simp[forget]
   ·have Cy:i=t.nodes.length:=om
    subst Cy;have d1:=dfF t.nodes.length t.nodes.length;simp -implicitDefEqProofs only[go_sem,Tr.row,Ja,d1];refine JL (I:=λi:Nat=>i<=t.nodes.length/\(∃o,JB ((JN t.nodes).take i) []=some o)/\∀j,j<i->ndI t.nodes (t.nodes.getD j default)=true) (inv:=λi=>gp [(1,.rptr t.row),(3,.int .i64 (i:Int))] 121) (hp:=λ_=>[.dead]) (μ:=λi=>t.nodes.length-i) 0 ⟨om,⟨[],by simp[JB]⟩,om⟩ ?_ rfl ?_
    ·simp[forget,gp,Tr.row]
    ·rintro i ⟨hi,⟨o,ho⟩,FQ⟩;by_cases Ab:i<t.nodes.length
     ·have d1:=dtT i t.nodes.length;have hx:=ht.nodes _ (Gd Ab);rw[<-rowg Ab]at hx;have hg:=QC Ab;have ER:=Km Ab;have Bz:=Fq i Ab;have Ui:=λhb=>frm_nd Ab hb
      have Ml:=ndI_R t.nodes (t.nodes.getD i default);have hS:=refSized t i Ab Ag hx (λy hy=>(ht.nodes y hy).k) (λk hk=>by have:=Bz k hk;omega);have Ar:=step_ord ho ER;have BD:ndI t.nodes (t.nodes.getD i default)=true->∀j,j<i+1->ndI t.nodes (t.nodes.getD j default)=true:=by
       intro h j hj;by_cases e:j=i
       ·subst e;exact h
       ·exact FQ j om
      generalize t.nodes.getD i default=x at hx hg ER Bz Ui Ml hS Ar BD;have hO:=JfT t ho hi Ag x.kids (by have:=hx.kidn;omega) i (Gg _);have ji:=refKin t x hx Ag (λy hy=>(ht.nodes y hy).k) (λk hk=>by have:=Bz k hk;omega);have hF:=refFields x (kindR x.text) (JdH x.text) (kindR_name x.text) (refKind x.text (by have:=hx.text;omega));simp -implicitDefEqProofs only[go_sem,Tr.row,Ja,d1];refine JP Jm vk ?_;simp -implicitDefEqProofs only[go_sem,Ja,hg];refine anO ?_;simp -implicitDefEqProofs only[go_sem,Nd.cv];refine J9 (.inl rfl) hO ?_;simp -implicitDefEqProofs only[go_sem];refine JP Jm vk ?_;rcases Ar with ⟨s1,s2⟩|⟨f,s1,s2⟩
      ·simp -implicitDefEqProofs only[go_sem,s2];rw[Jbn h1 (frm_none (JdA s1))]
      ·simp -implicitDefEqProofs only[go_sem,Ja,s2,hg];refine anO ?_;refine⟨by simp[Nd.cv],?_⟩;refine J9 (gok rfl) ji ?_
       cases b1:Qk x.k x.n (lets t.nodes x) with
       |false=>rw[b1,GL,GL]at Ml;simp -implicitDefEqProofs only[go_sem];rw[Jbn h1 (Ui Ml)]
       |true=>
        simp -implicitDefEqProofs only[go_sem,Ja,hg];refine⟨om,by simp[Nd.cv],?_⟩;refine J9 (gok rfl) hF ?_
        cases b2:Q0 (JdH x.text) x.k x.text x.n x.pl with
        |false=>rw[b1,b2,Gp,GL]at Ml;simp -implicitDefEqProofs only[go_sem];rw[Jbn h1 (Ui Ml)]
        |true=>
         simp -implicitDefEqProofs only[go_sem];refine J9 (gok rfl) hS ?_
         cases b3:Qp x.k x.n (lets t.nodes x) with
         |false=>rw[b1,b2,b3,Gp,Gp]at Ml;simp -implicitDefEqProofs only[go_sem];rw[Jbn h1 (Ui Ml)]
         |true=>rw[b1,b2,b3,Gp,Gp]at Ml;simp -implicitDefEqProofs only[go_sem];refine⟨Jg,i+1,⟨om,⟨_,s1⟩,BD Ml⟩,om,?_⟩;simp[forget]
     ·have Cy:i=t.nodes.length:=om
      subst Cy;have d1:=dfF t.nodes.length t.nodes.length;have Pk:JB (JN t.nodes) []=some o:=by rw[<-Gu (l:=JN t.nodes) (i:=t.nodes.length) (by simp[JN])];exact ho
      have Ao:=QU _ _ _ Xf.nil Pk;have Ba:=QQ _ _ _ Pk;simp only[Gn,Gq,QD]at Ba;have hO:=JfT t ho (Gg _) Ag t.items om t.nodes.length (Gg _);have IB:=items_eq (fst:=fs o) (isD:=λi=>Jv t.nodes i == 65) Ao Ba (λk _ _=>rfl) t.items;have Aj:t.nodes.all (ndI t.nodes)=true:=by rw[Gx];intro y hy;obtain⟨j,hj⟩:=List.getElem?_of_mem hy;have A7:=(Gm.1 hj).1;have:=FQ j A7;rw[Gb,hj]at this;exact this
      have MC:frm t=YZ o (λi=>Jv t.nodes i == 65) t.nodes.length t.items 0:=by unfold frm;rw[Pk];simp only[Aj,Bool.and_true]
      simp -implicitDefEqProofs only[go_sem,Tr.row,Ja,d1];refine J3 hO ?_;simp -implicitDefEqProofs only[go_sem]
      cases b1:(Jfz (fs o) t.items.reverse t.nodes.length).2 with
      |false=>
       rw[Jbn h1 (by rw[MC,IB,decide_eq_false (λh=>by rw[h]at b1;cases b1)];rfl)];simp -implicitDefEqProofs only[go_sem]
      |true=>
       by_cases b2:(Jfz (fs o) t.items.reverse t.nodes.length).1=0
       ·have e2:((Jfz (fs o) t.items.reverse t.nodes.length).1 != 0)=false:=by simp[b2]
        have Ro:Jfz (fs o) t.items.reverse t.nodes.length=(0,true):=Prod.ext b2 b1;rw[Ro,decide_eq_true rfl,Gp]at IB;simp -implicitDefEqProofs only[go_sem,e2];have dw:=(Jc8 Ao Ba (fst:=fs o) (λk _ _=>rfl) t.items.reverse t.nodes.length om om).1 Ro;rw[List.reverse_reverse]at dw;have AO:=λi hi=>QT Ao rfl t.items 0 t.nodes.length (by rw[Ba];exact dw) i hi
        refine JL (I:=λi:Nat=>i<=t.items.length/\∀k∈t.items.take i,(Jv t.nodes k == 65)=true) (inv:=λi=>gp [(1,.rptr t.row),(8,.int .i64 (i:Int))] 116) (hp:=λ_=>[.dead]) (μ:=λi=>t.items.length-i) 0 ⟨om,sM⟩ ?_ rfl ?_
        ·simp[forget,gp,Tr.row]
        ·rintro i ⟨hi,E9⟩;have Af:(iz t.items).length=t.items.length:=Jf;by_cases Ab:i<t.items.length
         ·have d2:=dtT i t.items.length;have Ay:=JF Ab;have Cc:t.items.getD i 0∈t.items:=by rw[Gb,Ga Ab];exact Gd Ab
          have AC:t.items.take (i+1)=t.items.take i++[t.items.getD i 0]:=by rw[GA Ab,Gb,Ga Ab];rfl
          generalize t.items.getD i 0=k at Ay Cc AC;have Ej:=AO k Cc;have Dz:=QC (l:=t.nodes) (i:=k.toNat) om;have Bz:Jv t.nodes k=(t.nodes.getD k.toNat default).k:=rfl;generalize t.nodes.getD k.toNat default=x at Dz Bz;simp -implicitDefEqProofs only[go_sem,Tr.row,Af,d2];refine JP Jm vk ?_;simp -implicitDefEqProofs only[go_sem,Ja,Af,Ay];refine anO ?_;simp -implicitDefEqProofs only[go_sem,Dz,Nd.cv];refine anO ?_;have q65:=JdE 65 x.k;simp only[Gy]at q65
          cases b3:(x.k == 65) with
          |true=>
           have e3:((x.k:Int) != 65)=false:=by rw[bne,q65,b3];rfl
           simp -implicitDefEqProofs only[go_sem,e3];refine⟨Jg,i+1,⟨om,?_⟩,om,?_⟩
           ·rw[AC];intro u hu;rcases GR.1 hu with hu|hu
            ·exact E9 u hu
            ·rw[GH.1 hu,Bz];exact b3
           ·simp[forget]
          |false=>
           have e3:((x.k:Int) != 65)=true:=by rw[bne,q65,b3];rfl
           have hf:frm t=false:=by rw[MC,IB,G9];exact⟨k,Cc,by rw[Bz,b3];simp⟩
           rw[Jbn h1 hf];simp -implicitDefEqProofs only[go_sem,e3]
         ·have Cy:i=t.items.length:=om
          subst Cy;rw[Gj]at E9;have d2:=dfF t.items.length t.items.length;have hf:frm t=true:=by rw[MC,IB,Gx];exact E9
          have hc:chk t=if Jbj t=true then 5 else 0:=by unfold chk;rw[if_neg h1,if_pos hf]
          rw[hc];simp -implicitDefEqProofs only[go_sem,Tr.row,Af,d2];refine J3 (JfS t ht Pk) ?_
          cases b4:Jbj t with
          |true=>simp -implicitDefEqProofs only[go_sem]
          |false=>simp -implicitDefEqProofs only[go_sem]
       ·have e2:((Jfz (fs o) t.items.reverse t.nodes.length).1 != 0)=true:=by simp[b2]
        rw[Jbn h1 (by rw[MC,IB,decide_eq_false (λh=>by rw[h]at b2;exact b2 rfl)];rfl)];simp -implicitDefEqProofs only[go_sem,e2]
theorem Jbr {α:Type}{l:List α}{d:α}(h:i<l.length):l.take (i+1)=l.take i++[l.getD i d]:=by rw[GA h,Gb,Ga h];rfl
theorem JeE (a b:Lu)(ha:a.length<=100000):Fn Gc 65 [.rslc 1 (iz a) none,.rslc 1 (iz b) none] (.bool (a == b)):=by
 have Am:(iz a).length=a.length:=Jf;have Br:(iz b).length=b.length:=Jf;refine Jc c65_ok rfl rfl λN=>?_
 by_cases hl:a.length=b.length
 ·have e1:((a.length:Int) != (b.length:Int))=false:=by simp[hl]
  simp -implicitDefEqProofs only[c65,go_sem,Am,Br,e1];refine JL (I:=λi:Nat=>i<=a.length/\a.take i=b.take i) (inv:=λi=>gp [(0,.rslc 1 (iz a) none),(0,.rslc 1 (iz b) none),(3,.int .i64 (i:Int))] 20) (hp:=λ_=>[]) (μ:=λi=>a.length-i) 0 ⟨om,sM⟩ ?_ rfl ?_
  ·simp[forget,gp]
  ·rintro i ⟨hi,Aa⟩;by_cases Ab:i<a.length
   ·have d1:=dtT i a.length;have CX:=JF Ab;have IX:=JF (l:=b) (i:=i) om;have UT:=Jbr (d:=0) Ab;have UR:=Jbr (l:=b) (i:=i) (d:=0) om;simp -implicitDefEqProofs only[go_sem,Am,Br,d1];refine JP Jm vk ?_;simp -implicitDefEqProofs only[go_sem,Am,Br,CX,IX];refine⟨om,om,?_⟩;by_cases he:a.getD i 0=b.getD i 0
    ·have e2:(a.getD i 0 != b.getD i 0)=false:=by rw[he];simp
     simp -implicitDefEqProofs only[go_sem,e2];refine⟨Jg,i+1,⟨om,by rw[UT,UR,Aa,he]⟩,om,?_⟩;simp[forget]
    ·have e2:(a.getD i 0 != b.getD i 0)=true:=by simpa using he
     have Ai:(a == b)=false:=by rw[beq_eq_false_iff_ne];rintro rfl;exact he rfl
     simp -implicitDefEqProofs only[go_sem,e2,Ai]
   ·have d1:=dfF i a.length;have he:(a == b)=true:=by
     rw[beq_iff_eq];have h1:i=a.length:=om
     rw[h1,Gj,Gu om]at Aa;exact Aa
    simp -implicitDefEqProofs only[go_sem,Am,Br,d1,he]
 ·have e1:((a.length:Int) != (b.length:Int))=true:=by simp;omega
  have Ai:(a == b)=false:=by rw[beq_eq_false_iff_ne];rintro rfl;exact hl rfl
  simp -implicitDefEqProofs only[c65,go_sem,Am,Br,e1,Ai]
def JgW (x y:Nd):Bool:=x.k == y.k && x.text == y.text && x.n == y.n && x.kids == y.kids
theorem sameN_self (x:Nd):JgW x x=true:=by simp[JgW]
def YR:LC->LC->Bool
 |[],[]=>true
 |x::l,y::m=>JgW x y && YR l m
 |_,_=>false
theorem JfO:∀l:LC,YR l l=true
 |[]=>rfl
 |x::l=>by simp[YR,sameN_self,JfO l]
theorem sameL_len:∀{l m:LC},YR l m=true->l.length=m.length
 |[],[],_=>rfl
 |x::l,y::m,h=>by simp[YR]at h;simp[sameL_len h.2]
 |[],_::_,h=>by simp[YR]at h
 |_::_,[],h=>by simp[YR]at h
theorem sameL_drop {l m:LC}(hi:i<l.length)(hm:i<m.length):YR (l.drop i) (m.drop i)=(JgW (l.getD i default) (m.getD i default) && YR (l.drop (i+1)) (m.drop (i+1))):=by rw[GG hi,GG hm,YR];simp[Gb,hi,hm]
def JgV (a b:Tr):Bool:=a.items == b.items && YR a.nodes b.nodes
theorem refSame (a b:Tr)(ha:a.Fit)(hb:b.Fit):Fn Gc 35 [a.cv,b.cv] (.bool (JgV a b)):=by
 have Am:=ha.many;have iM:=ha.items;refine Jc c35_ok rfl rfl λN=>?_
 by_cases hl:a.nodes.length=b.nodes.length
 ·have e1:((a.nodes.length:Int) != (b.nodes.length:Int))=false:=by simp[hl]
  simp -implicitDefEqProofs only[c35,go_sem,Tr.cv,Tr.row,Ja,e1];refine Je (id:=0) (z:=2) (els:=[a.row]) rfl rfl ?_;simp only[go_sem,JM,KA,frz,Kn];refine Je (id:=1) (z:=2) (els:=[b.row]) rfl rfl ?_;simp only[go_sem,JM,KA,frz,Kn,Tr.row,Ja];refine Kk (gok rfl) (JeE a.items b.items om) ?_
  cases h2:(a.items == b.items) with
  |false=>
   have hs:JgV a b=false:=by unfold JgV;rw[h2];rfl
   simp -implicitDefEqProofs only[go_sem,hs]
  |true=>
   have hs:JgV a b=YR a.nodes b.nodes:=by unfold JgV;rw[h2];rfl
   rw[hs];simp -implicitDefEqProofs only[go_sem];refine Jr (I:=λi:Nat=>i<=a.nodes.length/\YR a.nodes b.nodes=YR (a.nodes.drop i) (b.nodes.drop i)) (inv:=λi=>gp [(2,.rptr a.row),(0,.rptr b.row),(1,.int .i64 (i:Int))] 61) (hp:=λ_=>[.dead,.dead]) (μ:=λi=>a.nodes.length-i) 0 [0,1] ⟨om,rfl⟩ rfl ?_ rfl ?_
   ·simp[forget,gp,JG,ren,Jk,Tr.row]
   ·rintro i ⟨hi,Aa⟩;by_cases Ab:i<a.nodes.length
    ·have d1:=dtT i a.nodes.length;have CX:=QC Ab;have IX:=QC (l:=b.nodes) (i:=i) om;have hx:=ha.nodes _ (Gd Ab);rw[<-rowg Ab]at hx;rw[sameL_drop Ab om]at Aa;generalize a.nodes.getD i default=x at CX hx Aa;generalize b.nodes.getD i default=y at IX Aa;simp -implicitDefEqProofs only[go_sem,Tr.row,Ja,d1];refine vr_dregP 10 11 [false,false,false,false,false,false,false,false,false,false,true,true,true,true] [false,false,false,false,false,false,false,false,false,false,true,true,true,true] (gp [(2,.rptr a.row),(0,.rptr b.row),(1,.int .i64 (i:Int)),(0,.ptr 2 0 0),(0,.ptr 3 0 0)] 59) [.dead,.dead,.arr 5 [x.cv],.arr 5 [y.cv]] Jm vM ?_ ?_ ?_
     ·simp -implicitDefEqProofs only[go_sem,Tr.row,Ja,CX,IX,Nd.cv,splice];exact⟨om,om,Jhl [0,1,2,3] rfl (by simp[forget,JG,ren,Jk]) (by simp only[KD,Gh,Gl,go_sem,Jo,Jn];rfl)⟩
     ·simp -implicitDefEqProofs only[swl,swi,Q4,List.range,List.range.loop,Gf,Gn,Gh,Gl,List.getD_cons_zero,List.getD_cons_succ,go_sem,Tr.row,Ja,CX,IX,Nd.cv,splice];exact⟨om,om,Jhl [0,1,3,2] rfl (by simp[forget,JG,ren,Jk]) (by simp only[KD,Gh,Gl,go_sem,Jo,Jn];rfl)⟩
     ·have jW:=hx.kidn;have hK:=JeE x.kids y.kids om;obtain⟨k1,t1,n1,ks1,p1⟩:=x;obtain⟨k2,t2,n2,ks2,p2⟩:=y;simp only[gp,List.replicate]
      dsimp only at hK Aa
      have c1:((k1:Int) != (k2:Int)) = !(k1 == k2):=by rw[bne];congr 1;rw[GK,beq_iff_eq,beq_iff_eq];omega
      cases b1:(k1 == k2) with
      |false=>
       rw[b1]at c1;have hR:YR a.nodes b.nodes=false:=by rw[Aa];simp[JgW,b1]
       simp -implicitDefEqProofs only[go_sem,Nd.cv,c1,hR,Gt]
      |true=>
       rw[b1]at c1
       cases b2:(t1 == t2) with
       |false=>
        have hR:YR a.nodes b.nodes=false:=by rw[Aa];simp[JgW,b2]
        simp -implicitDefEqProofs only[go_sem,Nd.cv,c1,b2,hR,Gz,Gt]
       |true=>
        cases b3:(n1 == n2) with
        |false=>
         have e3:(n1 != n2)=true:=by rw[bne,b3];rfl
         have hR:YR a.nodes b.nodes=false:=by rw[Aa];simp[JgW,b3]
         simp -implicitDefEqProofs only[go_sem,Nd.cv,c1,b2,e3,hR,Gz,Gt]
        |true=>
         have e3:(n1 != n2)=false:=by rw[bne,b3];rfl
         simp -implicitDefEqProofs only[go_sem,Nd.cv,c1,b2,e3,Gz,Gt];refine Kk (gok rfl) hK ?_
         cases b4:(ks1 == ks2) with
         |false=>
          have hR:YR a.nodes b.nodes=false:=by rw[Aa];simp[JgW,b4]
          simp -implicitDefEqProofs only[go_sem,hR]
         |true=>
          have hR:YR a.nodes b.nodes=YR (a.nodes.drop (i+1)) (b.nodes.drop (i+1)):=by rw[Aa];simp only[JgW,b1,b2,b3,b4,Gp]
          simp -implicitDefEqProofs only[go_sem];refine⟨Jg,i+1,[0,1],⟨om,hR⟩,om,rfl,?_,?_⟩
          ·simp only[KD,Gh,Gl,go_sem,Jn]
          ·simp[forget,JG,ren,Jk,Tr.row]
    ·have Cy:i=a.nodes.length:=om
     have d1:=dfF i a.nodes.length;have hR:YR a.nodes b.nodes=true:=by rw[Aa,Gv om,Gv om];rfl
     simp -implicitDefEqProofs only[go_sem,Tr.row,Ja,d1,hR]
 ·have e1:((a.nodes.length:Int) != (b.nodes.length:Int))=true:=by simp;omega
  have hs:JgV a b=false:=by
   unfold JgV
   cases h:YR a.nodes b.nodes with
   |false=>simp
   |true=>exact absurd (sameL_len h) hl
  simp -implicitDefEqProofs only[c35,go_sem,Tr.cv,Tr.row,Ja,e1,hs]
theorem refAlike (a:Tr)(ha:a.Fit):Fn Gc 11 [a.cv,a.cv] (.bool true):=by
 have Am:=ha.many;have hS:=refSame a a ha ha;rw[show JgV a a=true by simp[JgV,JfO]]at hS;refine Jc c11_ok rfl rfl λN=>?_
 simp only[c11,go_sem,Tr.cv,Tr.row];refine Je (id:=0) (z:=2) (els:=[a.row]) rfl rfl ?_;simp only[go_sem,JM,KA,frz,Kn];refine Je (id:=1) (z:=2) (els:=[a.row]) rfl rfl ?_;simp only[go_sem,JM,KA,frz,Kn,Tr.row];refine J3 hS ?_;simp only[go_sem];refine JL (I:=λi:Nat=>i<=a.nodes.length) (inv:=λi=>gp [(2,.rptr a.row),(0,.rptr a.row),(1,.int .i64 (i:Int))] 24) (hp:=λ_=>[.dead,.dead]) (μ:=λi=>a.nodes.length-i) 0 om ?_ rfl ?_
 ·simp[forget,gp,Tr.row]
 ·intro i hi;by_cases Ab:i<a.nodes.length
  ·have d1:=dtT i a.nodes.length;have CX:=QC Ab;generalize a.nodes.getD i default=x at CX;have e:(x.pl != x.pl)=false:=sM
   simp only[go_sem,Tr.row,Ja,d1];refine JP Jm vk ?_;simp only[go_sem,Tr.row,Ja,CX,Nd.cv,e];refine⟨om,om,Jg,i+1,om,om,?_⟩;simp[forget,Tr.row]
  ·have d1:=dfF i a.nodes.length;simp only[go_sem,Tr.row,Ja,d1]
def JcU (x:Nd):Bool:=decide (30<x.kids.length) || decide (60<x.text.length)
def vastH (t:Tr):Bool:=(decide (250<t.nodes.length) && decide (t.nodes.length<=700)) || decide (1400<t.nodes.length) || decide (40<t.items.length)
def vastT (t:Tr):Bool:=vastH t || t.nodes.any JcU
theorem row_agg5 {x:Nd}{id:Nat}(hn:n=x.kids.length):wk (frz id 1 (iz x.kids) (.agg [.int .u8 x.k,S x.text,.int .i64 x.n,.slc id 0 n cap,.int .i64 x.pl])) (.agg x.cv):=by subst hn;have hl:(iz x.kids).length=x.kids.length:=Jf;simp only[frz,JM,if_true,Gq,hl,Gg,GU];rw[<-hl,Gj];exact Jdm ⟨wk.refl _,wk.refl _,wk.refl _,wk.rslc,wk.refl _,trivial⟩
theorem refMoved (x:Nd)(hx:x.kids.length<=1000)(d:Int)(hk:∀k∈x.kids,InR .i64 (k+d)):Fn Gc 28 [.agg x.cv,.int .i64 d] (.agg (mvN d x).cv):=by
 have Bn:(iz x.kids).length=x.kids.length:=Jf;refine Jbe ?_ rfl rfl;refine Ke c28_ok λN=>?_
 simp only[c28,go_sem,Nd.cv];refine Jr (I:=λi:Nat=>i<=x.kids.length) (inv:=λi=>gp [(1,.int .i64 d),(0,.ptr 0 0 0),(1,.ptr 1 0 0),(0,.slc 2 0 (iz ((x.kids.take i).map (· + d))).length (Jd8 (iz ((x.kids.take i).map (· + d))))),(0,.int .i64 (i:Int))] 21)
  (hp:=λi=>[.arr 5 [x.cv],.arr 5 [[.int .u8 0,S [],.int .i64 0,.nils,.int .i64 0]],.arr 1 (iz ((x.kids.take i).map (· + d)))]) (μ:=λi=>x.kids.length-i) 0 [0,1,2] om rfl ?_ rfl ?_
 ·simp[forget,JG,ren,Jk,gp,iz,Jd8]
 ·intro i hi;by_cases Ab:i<x.kids.length
  ·have d1:=dtT i x.kids.length;have Ay:=JF Ab;have AC:(x.kids.take (i+1)).map (· + d)=(x.kids.take i).map (· + d)++[x.kids.getD i 0+d]:=by rw[Jbr (d:=0) Ab,List.map_append];rfl
   have Ba:((x.kids.take i).map (· + d)).length=i:=by simp;omega
   have AO:x.kids.getD i 0∈x.kids:=by rw[Gb,Ga Ab];exact Gd Ab
   have AR:=hk _ AO;generalize x.kids.getD i 0=k at Ay AC AR;generalize (x.kids.take i).map (· + d)=L at AC Ba|-;have aZ:(iz L).length=L.length:=Jf;have hz:iz (L++[k+d])=iz L++[[.int .i64 (k+d)]]:=Qo;simp only[go_sem,Nd.cv,Bn,d1,Ay,JA];refine⟨om,AR,om,Jg,i+1,[0,1,4],om,om,rfl,?_,?_⟩
   ·have hc:=Jb (ρ:=[0,1,4]) (Jh (L++[k+d]));rw[hz]at hc;rw[AC,hz];simp only[KD,Gh,Gl,go_sem,Jo,hc];rfl
   ·rw[AC,hz,Yv];simp[forget,JG,ren,Jk]
  ·have Cy:i=x.kids.length:=om
   subst Cy;have d1:=dfF x.kids.length x.kids.length;rw[Gj];simp only[go_sem,Nd.cv,Bn,d1,splice];exact .inr ⟨2,1,iz (x.kids.map (· + d)),rfl,Jh _,row_agg5 (x:=mvN d x) (by simp[Jf,mvN])⟩
theorem row_aggT {z:Nat}{els:LM}{id:Nat}{y:CV}(hy:y.closed=true)(hn:n=els.length):wk (frz id z els (.agg [.slc id 0 n cap,y])) (.agg [.rslc z els none,y]):=by subst hn;simp only[frz,JM,if_true,Gq,Gg,GU,Gj,XZ y hy];exact Jdm ⟨wk.rslc,wk.refl _,trivial⟩
theorem refCopy (t:Tr)(ht:t.Fit):Fn Gc 8 [t.cv] t.cv:=by
 have Ag:=ht.many;have OP:=ht.items;have Af:(iz t.items).length=t.items.length:=Jf;have IR:=Jh t.items;refine Jbe ?_ rfl rfl;refine Ke c8_ok λN=>?_
 obtain⟨R,hR⟩:∃R,R=iz t.items:=⟨_,rfl⟩;simp only[Tr.cv,Tr.row];rw[<-hR]at IR Af|-
 cases R with
 |nil=>
  simp only[c8,go_sem];refine Je (id:=0) (z:=2) (els:=[[.rslc 5 (ndz t.nodes) none,.rslc 1 [] none]]) rfl rfl ?_;simp only[go_sem,JM,KA,frz,Kn];refine Je (id:=2) (z:=1) (els:=[]) rfl rfl ?_;simp only[go_sem,JM,KA,frz,Kn];refine YD ?_;simp only[go_sem,GQ,Ha];refine Jr (I:=λi:Nat=>i<=t.nodes.length) (inv:=λi=>gp [(1,.rptr [.rslc 5 (ndz t.nodes) none,.rslc 1 [] none]),(0,.ptr 1 0 0),(0,.ptr 2 0 0),(0,.int .i64 (i:Int))] 24) (hp:=λi=>[.dead,.arr 2 [[.nils,.nils]],.arr 2 [[Qq 3 (ndz (t.nodes.take i)),.rslc 1 [] none]],Xj 5 (ndz (t.nodes.take i))]) (μ:=λi=>t.nodes.length-i) 0 [0,1,3,4] om rfl ?_ ?_ ?_
  ·simp[forget,JG,ren,Jk,gp]
  ·rfl
  ·intro i hi;by_cases Ab:i<t.nodes.length
   ·have d1:=dtT i t.nodes.length;have hg:=QC Ab;have hx:=ht.nodes _ (Gd Ab);rw[<-rowg Ab]at hx;have AC:ndz (t.nodes.take (i+1))=ndz (t.nodes.take i)++[(t.nodes.getD i default).cv]:=by rw[Jbr (d:=default) Ab];simp[ndz]
    have Aw:=Xd (t.nodes.take (i+1));have Mi:(ndz (t.nodes.take i)).length=i:=by rw[Ja,GN];omega
    generalize t.nodes.getD i default=x at hg hx AC;generalize ndz (t.nodes.take i)=Z at AC Mi|-;have hM:=refMoved x (by have:=hx.kidn;omega) 0 (λk hk=>by rw[GY];exact hx.kids k hk);have Z0:mvN 0 x=x:=by obtain⟨k,te,n,ks,p⟩:=x;simp[mvN]
    rw[Z0]at hM;simp only[go_sem,Ja,d1];refine Jas [false,true,false,false,false,false,false,false,false,true,false,true] Jm vM ?_;simp only[go_sem,Ja,hg];refine⟨om,by simp[Nd.cv],?_⟩;refine vh_f hM ?_;simp only[go_sem];refine vh_row [x.cv] rfl rfl rfl rfl ?_;simp only[go_sem,JA,splice,Gf,Gn];refine⟨om,Jg,i+1,[0,1,2,4],om,om,rfl,?_,?_⟩
    ·rw[AC]at Aw;have hc:=Jb (ρ:=[0,1,2,4]) Aw;rw[AC,KJ,KL];simp only[KD,Gh,Gl,go_sem,Jo,hc];rfl
    ·simp[forget,JG,ren,Jk]
   ·have Cy:i=t.nodes.length:=om
    subst Cy;have d1:=dfF t.nodes.length t.nodes.length;rw[Gj];have Rw:=Xd t.nodes
    cases hN:ndz t.nodes with
    |nil=>
     have DJ:(([]:LM).length:Int)=t.nodes.length:=by rw[<-hN,Ja]
     simp only[Gn]at DJ;simp only[go_sem,X5,Jau,Gn,DJ,d1,splice];exact .inl (Jdm ⟨wk.nils,wk.refl _,trivial⟩)
    |cons f fs=>
     have DJ:((fs.length+1:Nat):Int)=t.nodes.length:=by rw[<-Gf,<-hN,Ja]
     rw[Y4 sM,YF sM];simp only[go_sem,Gf,DJ,d1,splice];rw[hN]at Rw;exact .inr ⟨3,5,f::fs,rfl,Rw,row_aggT rfl rfl⟩
 |cons e es=>
  have EG:es.length+1<=40:=by have:=Af;simp only[Gf]at this;omega
  simp only[c8,go_sem,JA,Gf];refine anO ?_;refine Je (id:=3) (z:=1) (els:=e::es) rfl IR ?_;simp only[go_sem,JM,KA,frz,Kn,Gf,GU,Gu (l:=e::es) (i:=es.length+1) (Gg _)];refine Je (id:=0) (z:=2) (els:=[[.rslc 5 (ndz t.nodes) none,.rslc 1 (e::es) none]]) rfl rfl ?_;simp only[go_sem,JM,KA,frz,Kn];refine YD ?_;simp only[go_sem,GQ,Ha];refine Jr (I:=λi:Nat=>i<=t.nodes.length) (inv:=λi=>gp [(1,.rptr [.rslc 5 (ndz t.nodes) none,.rslc 1 (e::es) none]),(0,.ptr 1 0 0),(0,.ptr 2 0 0),(0,.int .i64 (i:Int))] 24) (hp:=λi=>[.dead,.arr 2 [[.nils,.nils]],.arr 2 [[Qq 3 (ndz (t.nodes.take i)),.rslc 1 (e::es) none]],Xj 5 (ndz (t.nodes.take i))]) (μ:=λi=>t.nodes.length-i) 0 [0,1,4,5] om rfl ?_ ?_ ?_
  ·simp[forget,JG,ren,Jk,gp]
  ·rfl
  ·intro i hi;by_cases Ab:i<t.nodes.length
   ·have d1:=dtT i t.nodes.length;have hg:=QC Ab;have hx:=ht.nodes _ (Gd Ab);rw[<-rowg Ab]at hx;have AC:ndz (t.nodes.take (i+1))=ndz (t.nodes.take i)++[(t.nodes.getD i default).cv]:=by rw[Jbr (d:=default) Ab];simp[ndz]
    have Aw:=Xd (t.nodes.take (i+1));have Mi:(ndz (t.nodes.take i)).length=i:=by rw[Ja,GN];omega
    generalize t.nodes.getD i default=x at hg hx AC;generalize ndz (t.nodes.take i)=Z at AC Mi|-;have hM:=refMoved x (by have:=hx.kidn;omega) 0 (λk hk=>by rw[GY];exact hx.kids k hk);have Z0:mvN 0 x=x:=by obtain⟨k,te,n,ks,p⟩:=x;simp[mvN]
    rw[Z0]at hM;simp only[go_sem,Ja,d1];refine Jas [false,true,false,false,false,false,false,false,false,true,false,true] Jm vM ?_;simp only[go_sem,Ja,hg];refine⟨om,by simp[Nd.cv],?_⟩;refine vh_f hM ?_;simp only[go_sem];refine vh_row [x.cv] rfl rfl rfl rfl ?_;simp only[go_sem,JA,splice,Gf,Gn];refine⟨om,Jg,i+1,[0,1,2,4],om,om,rfl,?_,?_⟩
    ·rw[AC]at Aw;have hc:=Jb (ρ:=[0,1,2,4]) Aw;rw[AC,KJ,KL];simp only[KD,Gh,Gl,go_sem,Jo,hc];rfl
    ·simp[forget,JG,ren,Jk]
   ·have Cy:i=t.nodes.length:=om
    subst Cy;have d1:=dfF t.nodes.length t.nodes.length;rw[Gj];have Rw:=Xd t.nodes
    cases hN:ndz t.nodes with
    |nil=>
     have DJ:(([]:LM).length:Int)=t.nodes.length:=by rw[<-hN,Ja]
     simp only[Gn]at DJ;simp only[go_sem,X5,Jau,Gn,DJ,d1,splice];exact .inl (Jdm ⟨wk.nils,wk.refl _,trivial⟩)
    |cons f fs=>
     have DJ:((fs.length+1:Nat):Int)=t.nodes.length:=by rw[<-Gf,<-hN,Ja]
     rw[Y4 sM,YF sM];simp only[go_sem,Gf,DJ,d1,splice];rw[hN]at Rw;exact .inr ⟨3,5,f::fs,rfl,Rw,row_aggT rfl rfl⟩
end Go.Cm
end
namespace Go.Cm
structure Nd.Ty (x:Nd):Prop where
 k:x.k<256
 n:InR .i64 x.n
 kids:∀i∈x.kids,InR .i64 i
 pl:InR .i64 x.pl
structure Tr.Ty (t:Tr):Prop where
 nodes:∀x∈t.nodes,x.Ty
 items:∀i∈t.items,InR .i64 i
theorem Tr.Ty.fit {t:Tr}(h:t.Ty)(hv:vastT t=false):t.Fit:=by unfold vastT vastH at hv;simp only[GZ,GJ,decide_eq_false_iff_not,G8]at hv;obtain⟨⟨⟨_,h2⟩,h3⟩,h4⟩:=hv;refine⟨om,om,λx hx=>?_,h.items⟩;have hn:=h4 x hx;unfold JcU at hn;simp only[G5,GZ,decide_eq_false_iff_not]at hn;have ty:=h.nodes x hx;exact⟨ty.k,om,ty.n,om,ty.kids,ty.pl⟩
end Go.Cm
section
set_option maxRecDepth 100000
set_option maxHeartbeats 4000000
open Go.Proofs
namespace Go.Cm
variable {o:Lu}
theorem indexI (l:Lu)(x:Int)(hl:l.length<=100000):Fn Gc 135 [.rslc 1 (iz l) none,.int .i64 x] (.int .i64 (XT (λy=>x == y) l 0)):=by
 have Af:(iz l).length=l.length:=Jf;refine Jc c135_ok rfl rfl λN=>?_
 simp only[c135,go_sem,Af];refine JL (I:=λi:Nat=>i<=l.length/\XT (λy=>x == y) l 0=XT (λy=>x == y) (l.drop i) i) (inv:=λi=>gp [(0,.rslc 1 (iz l) none),(0,.int .i64 x),(5,.int .i64 (l.length:Int)),(0,.int .i64 (i:Int))] 10) (hp:=λ_=>[]) (μ:=λi=>l.length-i) 0 ⟨om,rfl⟩ ?_ rfl ?_
 ·simp[forget,gp]
 ·rintro i ⟨hi,Aa⟩;by_cases Ab:i<l.length
  ·have d1:=dtT i l.length;have Ay:=JF Ab;have BS:l[i]? = some (l.getD i 0):=by rw[Gb,Ga Ab];rfl
   rw[Xn BS]at Aa;simp only[go_sem,Af,d1,Ay];generalize l.getD i 0=y at Aa|-;refine anO ?_
   cases he:(x == y) with
   |true=>rw[he,if_pos rfl]at Aa;simp only[go_sem,Aa]
   |false=>rw[he]at Aa;simp only[go_sem];refine⟨Jg,i+1,⟨om,by simpa using Aa⟩,om,?_⟩;simp[forget]
  ·have d1:=dfF i l.length;rw[Gv om]at Aa;simp only[go_sem,d1,Aa,XT]
theorem containsI (l:Lu)(x:Int)(hl:l.length<=100000):Fn Gc 85 [.rslc 1 (iz l) none,.int .i64 x] (.bool (l.contains x)):=by
 refine Jc c85_ok rfl rfl λN=>?_
 simp only[c85,go_sem];refine J3 (indexI l x hl) ?_;have e:decide (0<=XT (λy=>x == y) l 0)=l.contains x:=by rw[JaD,List.contains_eq_any_beq]
 simp only[go_sem,e]
theorem fixA_skip {α:Type}{q:α->Bool}{l:List α}:∀(n:Nat),n<=l.length->(∀j (h:j<l.length),j<n->q l[j]=false)->XT q l 0=XT q (l.drop n) n
 |0,_,_=>rfl
 |n+1,h,hq=>by rw[fixA_skip n om λj hj hn=>hq j hj om,Xn (Ga (by omega:n<l.length)),hq n om om];simp
theorem refParent (t:Tr)(ht:t.Fit)(g:GoodT t o)(n:Nat)(hn:n<t.nodes.length):Fn Gc 99 [t.cv,.int .i64 n] (.int .i64 (XT (λx:Nd=>x.kids.contains (n:Int)) t.nodes 0)):=by
 have Ag:=ht.many;refine Jc c99_ok rfl rfl λN=>?_
 simp only[c99,go_sem,Tr.cv,Tr.row];refine⟨Jg,?_⟩;refine Je (id:=0) (z:=2) (els:=[t.row]) rfl rfl ?_;simp only[go_sem,JM,KA,frz,Kn,Tr.row];have P8:XT (λx:Nd=>x.kids.contains (n:Int)) t.nodes 0=XT (λx:Nd=>x.kids.contains (n:Int)) (t.nodes.drop (n+1)) (n+1):=by
  refine fixA_skip (n+1) om λj hj MZ=>?_
  rw[<-G5,List.contains_iff_mem];intro hm;have:=g.kid hj (k:=n) (by rw[rowg hj];exact hm);omega
 refine JL (I:=λi:Nat=>i<=t.nodes.length/\XT (λx:Nd=>x.kids.contains (n:Int)) t.nodes 0=XT (λx:Nd=>x.kids.contains (n:Int)) (t.nodes.drop i) i) (inv:=λi=>gp [(1,.int .i64 (n:Int)),(0,.rptr t.row),(2,.int .i64 (i:Int))] 33) (hp:=λ_=>[.dead]) (μ:=λi=>t.nodes.length-i) (n+1) ⟨om,P8⟩ ?_ rfl ?_
 ·simp[forget,gp,Tr.row]
 ·rintro i ⟨hi,Aa⟩;by_cases Ab:i<t.nodes.length
  ·have d1:=dtT i t.nodes.length;have hg:=QC Ab;have hx:=ht.nodes _ (Gd Ab);rw[<-rowg Ab]at hx;have BS:t.nodes[i]? = some (t.nodes.getD i default):=by rw[Gb,Ga Ab];rfl
   rw[Xn BS]at Aa;generalize t.nodes.getD i default=x at hg Aa hx;have Bh:=hx.kidn;have Bn:(iz x.kids).length=x.kids.length:=Jf;simp only[go_sem,Tr.row,Ja,d1];refine JL (I:=λj:Nat=>j<=x.kids.length/\x.kids.contains (n:Int)=(x.kids.drop j).contains (n:Int)) (inv:=λj=>gp [(1,.int .i64 (n:Int)),(0,.rptr t.row),(2,.int .i64 (i:Int)),(0,.int .i64 (j:Int))] 32) (hp:=λ_=>[.dead]) (μ:=λj=>x.kids.length-j) 0 ⟨om,rfl⟩ ?_ rfl ?_
   ·simp[forget,gp,Tr.row]
   ·rintro j ⟨hj,ES⟩;by_cases A7:j<x.kids.length
    ·have d2:=dtT j x.kids.length;have Ay:=JF A7;rw[GG A7,List.contains_cons,show x.kids[j]=x.kids.getD j 0 by rw[Gb,Ga A7];rfl]at ES;generalize x.kids.getD j 0=k at Ay ES;have Ii:(k == (n:Int))=((n:Int) == k):=by rw[GK,beq_iff_eq,beq_iff_eq];exact eq_comm
     cases he:(k == (n:Int)) with
     |true=>rw[<-Ii,he,Bool.true_or]at ES;rw[ES,if_pos rfl]at Aa;simp only[go_sem,Tr.row,Ja,hg,Nd.cv,Bn,d2,Ay,he,Aa];omega
     |false=>rw[<-Ii,he,Bool.false_or]at ES;simp only[go_sem,Tr.row,Ja,hg,Nd.cv,Bn,d2,Ay,he];refine⟨om,om,om,Jg,j+1,⟨om,ES⟩,om,?_⟩;simp[forget]
    ·have d2:=dfF j x.kids.length;rw[Gv om]at ES;rw[ES]at Aa;simp only[go_sem,Tr.row,Ja,hg,Nd.cv,Bn,d2];refine⟨om,Jg,i+1,⟨om,by simpa using Aa⟩,om,?_⟩;simp[forget]
  ·have d1:=dfF i t.nodes.length;rw[Gv om]at Aa;simp only[go_sem,Tr.row,Ja,d1,Aa,XT]
theorem ord_take {t:Tr}(g:GoodT t o):JB ((JN t.nodes).take t.nodes.length) []=some o:=by rw[Gu (by rw[QD];exact Gg _)];exact g.ord.h
theorem refIsBelow (t:Tr)(ht:t.Fit)(g:GoodT t o)(a:Int)(i:Nat)(hi:i<t.nodes.length):Fn Gc 151 [t.cv,.int .i64 a,.int .i64 i] (.bool (decide (a<=i) && decide (fs o i<=a))):=by
 refine Jc c151_ok rfl rfl λN=>?_
 by_cases h:a<=(i:Int)
 ·have d1:(a<=(i:Int))=True:=eq_true h;simp only[c151,go_sem,Tr.cv,Tr.row,d1];refine Kk (gok rfl) (Jha t (ord_take g) (Gg _) i hi) ?_;simp only[go_sem]
 ·have d1:(a<=(i:Int))=False:=eq_false h;simp only[c151,go_sem,Tr.cv,Tr.row,d1]
def kid (x:Nd)(i:Nat):Int:=x.kids.getD i 0
end Go.Cm
end
namespace Go.Cm
variable {P:Program}{f n z:Nat}{e els:LM}
def flat (o:CObj):Prop:=o=.dead\/∃z els,o=.arr z els/\Jq els=true
section
variable{E:Env}{H:Lt}
theorem Jdk {α:Type}{a b:List α}{k:Nat}{x:α}(h:(a++b)[k]? = some x):(k<a.length/\a[k]? = some x)\/∃j,k=a.length+j/\b[j]? = some x:=by
 rcases GI k a.length with Ab|BS
 ·rw[GD Ab]at h;exact .inl ⟨Ab,h⟩
 ·rw[GM BS]at h;exact .inr ⟨k-a.length,om,h⟩
theorem app_get2 {α:Type}{a b:List α}{j:Nat}:(a++b)[a.length+j]? = b[j]?:=by rw[GM om];congr 1;omega
theorem CallsC.frameG{args:Ls}{G:Lt}{mk:Nat->CV}(h:CallsC P Env.none f args [] λv H'=>v=mk 0/\H'=G)(ha:Jl args=true)(hG:∀o∈G,flat o)
  (FW:∀(n:Nat) (own own':LA) imm r,(∀(k:Nat) x,own[k]? = some x->own'[n+k]? = some x)->rel own imm (mk 0) r->rel own' imm (mk n) r):CallsC P E f args H λv H'=>v=mk H.length/\H'=H++G:=by
 intro m w vs hs hv;refine(h _ w vs hs.nothing (KY _ _ ha hv)).mono ?_;rintro e w' ⟨r,m',v,H',rfl,Ae,AA,hrel,rfl,rfl⟩;obtain⟨h1,h2⟩:=hs.back Ae AA;have Cg:∀B,¬owned { own:=[],imm:=m.imm,ext:=λ_=>False } [] B:=by
  rintro B (h|⟨k,o,x,hk,_⟩)
  ·exact h
  ·simp at hk
 have Ad:m.own.length=H.length:=hs.len;have Iu:∀(k:Nat) o x,H[k]? = some o->o.alive=true->m.own[k]? = some x->x.B<w.heap.size:=λk o x hk Am hx=>Yn hs hk Am hx
 have Fj:∀(k:Nat) o x,H'[k]? = some o->o.alive=true->m'.own[k]? = some x->w.heap.size<=x.B:=λk o x hk Am hx=>(Ae.newOwn x.B (.inr ⟨k,o,x,hk,Am,hx,rfl⟩)).resolve_left (Cg _)
 have two:∀(k:Nat) o x,(H++H')[k]? = some o->(m.own++m'.own)[k]? = some x->(k<H.length/\H[k]? = some o/\m.own[k]? = some x)\/∃j,k=H.length+j/\H'[j]? = some o/\m'.own[j]? = some x:=by
  intro k o x hk hx;rcases Jdk hk with ⟨Ab,Au⟩|⟨j,rfl,Au⟩
  ·rw[GD om]at hx;exact .inl ⟨Ab,Au,hx⟩
  ·rw[<-Ad,app_get2]at hx;exact .inr ⟨j,rfl,Au,hx⟩
 have Bb:=KX.append m.own m'.own;refine⟨r,{ m with own:=m.own++m'.own,imm:=m'.imm },mk H.length,H++H',rfl,?_,?_,?_,rfl,rfl⟩
 ·have hE:=h2 H.length;refine⟨hE.size,hE.frame,hE.imm,?_,hE.newImm,λk x _ hx=>Bb _ _ hx,λh=>by simp;omega,hE.same⟩;rintro B (hB|⟨k,o,x,hk,Am,hx,rfl⟩)
  ·exact .inl (.inl hB)
  ·rcases two k o x hk hx with ⟨_,hk,hx⟩|⟨j,_,hk,hx⟩
   ·exact .inl (.inr ⟨k,o,x,hk,Am,hx,rfl⟩)
   ·exact .inr (Fj j o x hk Am hx)
 ·refine⟨by simp[hs.len,AA.len],λk o x hk hx=>?_,h1.imm,h1.one,λk k' o o' x x' hk AB ha AV hx Av hB=>?_,λk o x hk Am hx=>?_,λk s b hk=>?_,λk o x hk Am hx=>?_,h1.extlt,h1.gl⟩
  ·rcases two k o x hk hx with ⟨_,hk,hx⟩|⟨j,_,hk,hx⟩
   ·exact KM Bb (KI.refl _) (λ_=>rfl) (h1.obj k o x hk hx)
   ·have ho:=AA.obj j o x hk hx;rcases hG o (Gw hk) with rfl|⟨z,els,rfl,hc⟩
    ·trivial
    ·obtain⟨hz,c,elem,g1,g2,g3,g4,g5⟩:=ho;exact⟨hz,c,elem,g1,g2,g3,λj e he=>⟨(g4 j e he).1,λt c Dg=>let ⟨r,q1,q2⟩:=(g4 j e he).2 t c Dg;⟨r,q1,Qs c r (YO (Yu hc _ _ he) _ _ Dg) q2⟩⟩,g5⟩
  ·rcases two k o x hk hx with ⟨_,hk,hx⟩|⟨j,rfl,hk,hx⟩ <;> rcases two k' o' x' AB Av with ⟨_,AB,Av⟩|⟨j',rfl,AB,Av⟩
   ·exact h1.sep k k' o o' x x' hk AB ha AV hx Av hB
   ·have a1:=Iu k o x hk ha hx;have a2:=Fj j' o' x' AB AV Av;omega
   ·have a1:=Iu k' o' x' AB AV Av;have a2:=Fj j o x hk ha hx;omega
   ·rw[AA.sep j j' o o' x x' hk AB ha AV hx Av hB]
  ·rcases two k o x hk hx with ⟨_,hk,hx⟩|⟨j,rfl,hk,hx⟩
   ·exact h1.ro k o x hk Am hx
   ·exact AA.ro j o x hk Am hx
  ·rcases Jdk hk with ⟨_,Au⟩|⟨j,rfl,Au⟩
   ·exact h1.ext k s b Au
   ·rcases hG _ (Gw Au) with h|⟨z,els,h,_⟩ <;> cases h
  ·rcases two k o x hk hx with ⟨_,hk,hx⟩|⟨j,rfl,hk,hx⟩
   ·exact h1.extsep k o x hk Am hx
   ·intro hB;have a1:=Fj j o x hk Am hx;have a2:=hs.extlt x.B hB;omega
 ·exact FW H.length m'.own (m.own++m'.own) m'.imm r (λk x hk=>by rw[<-Ad,app_get2];exact hk) hrel
theorem JI{id:Nat}:∀{els:LM},Jq els=true->els.map (JM id z e)=els
 |[],_=>rfl
 |x::xs,h=>by simp only[Jq,Gi]at h;rw[Gh,QP _ h.1,JI h.2]
theorem Fn.args{args args':Ls}{v:CV}(h:Fn P f args v)(hw:wks args' args):Fn P f args' v:=λE H m w vs hs hv=>h E H m w vs hs (Jap hw hv)
theorem rowV_shift(i n:Nat){own own':LA}{imm:Nat->Nat->LD}{r:Value}(ho:∀(k:Nat) x,own[k]? = some x->own'[n+k]? = some x)(h:rel own imm (Qq i els) r):rel own' imm (Qq (n+i) els) r:=by
 cases els with
 |nil=>exact h
 |cons e l=>simp only[Qq,rel]at h|-;obtain⟨x,a,c,hx,g⟩:=h;exact⟨x,a,c,ho _ _ hx,g⟩
theorem rowO_flat(h:Jq els=true):flat (Xj z els):=by
 cases els with
 |nil=>exact .inl rfl
 |cons e l=>exact .inr ⟨_,_,rfl,h⟩
theorem rowV_one {id:Nat}:(Qq id els).oneCell=true:=by cases els <;> rfl
attribute [go_sem ↓] rowV_one
theorem Jcz{id j:Nat}(h:j≠id):frz id z e (Qq j els)=Qq j els:=by
 cases els with
 |nil=>rfl
 |cons x l=>simp only[Qq,frz];rw[if_neg h]
theorem Jbd{id y:Nat}(h:Jq els=true):Kn id z e (Xj y els)=Xj y els:=by
 cases els with
 |nil=>rfl
 |cons x l=>simp only[Xj,Kn];rw[JI h]
inductive Frzs (v0:CV):CV->Lt->Prop
 |done {v:CV} {H:Lt}:wk v v0->Frzs v0 v H
 |step {v:CV} {H:Lt} (id z:Nat) (els:LM):H[id]? = some (.arr z els)->Jq els=true->Frzs v0 (frz id z els v) (KA id z els H)->Frzs v0 v H
theorem Jal{args:Ls}{v0:CV}(h:CallsC P Env.none f args [] λv H'=>Frzs v0 v H')(ha:Jl args=true)(hv:v0.closed=true):Fn P f args v0:=by
 refine Jhz ?_ ha hv;intro m w vs hs BF;refine(h m w vs hs BF).mono ?_;rintro e w' ⟨r,m',v,H',h1,h2,h3,h4,g⟩;subst h1
 induction g generalizing m' with
 |done hw=>exact⟨r,m',v0,_,rfl,h2,h3,hw _ _ _ h4,rfl⟩
 |step id z els g1 g2 _ ih=>obtain⟨imm',AA,he,hf⟩:=Sim.freeze (n0:=([]:Lt).length) h3 g1 g2;exact ih _ (h2.trans he) AA (hf _ _ h4)
def JdJ (P:Program)(f:Nat)(args:Ls)(z:Nat)(els:LM):Prop:=∀(E:Env) (H:Lt),CallsC P E f args H λv H'=>v=Qq H.length els/\H'=H++[Xj z els]
theorem Jd4{args:Ls}(h:CallsC P Env.none f args [] λv H'=>∃id,v=Qq id els/\H'[id]? = some (Xj z els))(ha:Jl args=true)(hc:Jq els=true):JdJ P f args z els:=λE H=>by
 refine CallsC.frameG (mk:=λn=>Qq n els) (G:=[Xj z els]) (h.ren λv H' ⟨id,hv,hH⟩=>⟨[id],?_,?_,?_⟩) ha (λo ho=>by simp only[GH]at ho;rw[ho];exact rowO_flat hc) λn own own' imm r ho h=>rowV_shift 0 n ho h
 ·have:=(Gm.1 hH).1;simp[Jc3,this]
 ·rw[hv];exact QK (by simp[ren,Jk])
 ·simp only[KD,Gh,Gl,Gb,hH,Option.getD_some]
  cases els with
  |nil=>rfl
  |cons e l=>have:=Jb (ρ:=[id]) hc;simp only[Xj,Jo,this]
theorem JdJ.fn{args:Ls}(h:JdJ P f args z els)(ha:Jl args=true)(hc:Jq els=true):Fn P f args (.rslc z els none):=Jgh ((h Env.none []).mono λv H' ⟨h1,h2⟩=>⟨0,h1,by rw[h2];rfl⟩) ha hc
end
section
variable{E:Env}{n0:Nat}{N:Fr}{Q:Exit->Ls->Lt->Prop}{H:Lt}{T:Ls}{k:LJ}{l:LB}{es:List Lx}
theorem JfD {d:Option Nat}{g:Option (Nat×Bool)}{xa:LK}{l:LB}(hg:GOk T g)(Ah:JdJ P f (xa.map (Kb T)) z els)(h:Ky P E n0 N Q (.ops l::k) (put T d (Qq H.length els)) (H++[Xj z els])):Ok P E n0 N Q (.ops (⟨d,.call f xa,g⟩::l)::k) T H:=Kq hg (Ah E H) λv H' ⟨h1,h2⟩=>by rw[h1,h2];exact h
def Jfv (P:Program)(E:Env)(n0:Nat)(N:Fr)(Q:Exit->Ls->Lt->Prop)(k:LJ)(l:LB)(es:List Lx)(T:Ls)(H:Lt):Prop:=∀is,Sched l.length es (λ_=>false) is->Ok P E n0 N Q (.ops (is.map (Q4 l))::k) T H
theorem JgA (hm:P.follows .mixedOrders=true)(h:Jfv P E n0 N Q k l es T H):Ok P E n0 N Q (.code (.dreg l es)::k) T H:=ok_draw hm h
theorem JcF (i j:Nat)(hb:(!(i == j) && decide (i<es.length) && decide (j<es.length))=true)(h1:Jfv P E n0 N Q k l (Jao es j i) T H)(h2:Jfv P E n0 N Q k l (Jao es i j) T H):Jfv P E n0 N Q k l es T H:=by
 intro is hs;simp only[Gi,Bool.not_eq_true',beq_eq_false_iff_ne,decide_eq_true_eq]at hb;rcases JfN hb.1.1 hb.1.2 hb.2 hs rfl rfl with h|h
 ·exact h1 is h
 ·exact h2 is h
theorem Yc (bs:LH)(T':Ls)(H':Lt)(AJ:(l.length == bs.length && (JaG l.length es (clo es) && Qe l (clo es) (bs.map QX)))=true)(Az:Ok P E n0 N Q k T' H')(h:vdk P E (leads P E n0 N Q T' H') l bs T H):Jfv P E n0 N Q k l es T H:=λ_ hs=>Jep AJ h Az hs
def pm (p:Lx)(a:Nat):Nat:=p.getD a a
theorem pm_out {p:Lx}{a:Nat}(h:p.length<=a):pm p a=a:=by unfold pm;rw[Gb,List.getElem?_eq_none h];rfl
def Jdv (n:Nat)(p q:Lx):Bool:=p.length == n && q.length == n && (List.range n).all λa=>decide (pm p a<n) && decide (pm q a<n) && pm q (pm p a) == a && pm p (pm q a) == a
theorem sched_perm{p q:Lx}(hb:Jdv n p q=true){es2:List Lx}(he:∀a,a<n->es2.getD a []=(es.getD (pm p a) []).map (pm q)){S:Nat->Bool}{is:Lx}(h:Sched n es S is):Sched n es2 (λa=>S (pm p a)) (is.map (pm q)):=by
 simp only[Jdv,Gi,beq_iff_eq,Gx,He,decide_eq_true_eq]at hb;obtain⟨⟨Mi,Rl⟩,Aj⟩:=hb;have Ip:∀a,pm p (pm q a)=a:=λa=>by
  rcases GI a n with h|h
  ·exact(Aj a h).2
  ·rw[pm_out (p:=q) om,pm_out om]
 have gy:∀a,pm q (pm p a)=a:=λa=>by
  rcases GI a n with h|h
  ·exact(Aj a h).1.2
  ·rw[pm_out (p:=p) om,pm_out om]
 induction h with
 |nil hn=>
  refine .nil λa ha hS=>?_
  obtain⟨e,h1,h2⟩:=hn _ (Aj a ha).1.1.1 hS;exact⟨pm q e,by rw[he a ha];exact List.mem_map_of_mem h1,by rw[Ip];exact h2⟩
 |cons ha hS hr _ ih=>
  rename_i S a is _;refine .cons (Aj a ha).1.1.2 (by rw[Ip];exact hS) (λe hm=>?_) ?_
  ·rw[he _ (Aj a ha).1.1.2,Ip]at hm;obtain⟨e',h1,rfl⟩:=List.mem_map.1 hm;rw[Ip];exact hr e' h1
  ·have e:(λb=>S (pm p b) || b == pm q a)=λb=>S (pm p b) || pm p b == a:=by
    funext b
    congr 1
    by_cases h:b=pm q a
    ·subst h;rw[Ip];simp
    ·have:pm p b≠a:=λhh=>h (by rw[<-hh,gy])
     rw[beq_false_of_ne h,beq_false_of_ne this]
   rw[e];exact ih
theorem sched_mem{S:Nat->Bool}{is:Lx}(h:Sched n es S is):∀a∈is,a<n:=by
 induction h with
 |nil _=>intro a ha;cases ha
 |cons h _ _ _ ih=>intro a ha;exact(GV.1 ha).elim (λh'=>by subst h';exact h) (ih a)
def prl (p:Lx)(l:LB):LB:=p.map λa=>Q4 l a
def pre (p q:Lx)(es:List Lx):List Lx:=p.map λa=>(es.getD a []).map (pm q)
theorem JcE (p q:Lx)(hb:Jdv l.length p q=true)(h:Jfv P E n0 N Q k (prl p l) (pre p q es) T H):Jfv P E n0 N Q k l es T H:=by
 intro is hs;have BX:=hb;simp only[Jdv,Gi,beq_iff_eq,Gx,He,decide_eq_true_eq]at BX;obtain⟨⟨Mi,Rl⟩,Aj⟩:=BX;have Ad:(prl p l).length=l.length:=by rw[prl,List.length_map];exact Mi
 have Im:=sched_perm hb (es2:=pre p q es) (λa ha=>by unfold pre pm;rw[Gb,Gr,Ga om];simp[Gb,Ga (show a<p.length by omega)]) hs
 rw[<-Ad]at Im;have:=h _ Im;have e:(is.map (pm q)).map (Q4 (prl p l))=is.map (Q4 l):=by
  rw[List.map_map];refine List.map_congr_left λa ha=>?_
  have Am:=sched_mem hs a ha;have h1:=(Aj a Am).1.1.2;have h2:=(Aj a Am).2;simp only[Function.comp];unfold prl Q4;rw[Gb,Gr,Ga om];simp only[Option.map_some,Option.getD_some];have e2:p[pm q a]' om=a:=by unfold pm at h2|-;rw[Gb,Ga (by simpa [pm]using (by omega:pm q a<p.length))]at h2;exact h2
  rw[e2]
 rw[e]at this;exact this
end
end Go.Cm
section
set_option maxRecDepth 100000
set_option maxHeartbeats 4000000
open Go.Proofs
namespace Go.Cm
theorem rowN {l:LC}{i:Nat}(h:i<l.length):l.getD i default=l[i]:=by rw[Gb,Ga h];rfl
theorem GoodT.item {t:Tr}{o:Lu}(g:GoodT t o){i:Nat}(hi:i<t.items.length):∃L F:Nat,t.items.getD i 0=(L:Int)/\fs o L=(F:Int)/\F<=L/\L<t.nodes.length/\o.length=t.nodes.length/\o.getD L 0=(F:Int):=by
 have Ba:o.length=t.nodes.length:=by rw[g.ord.len,QD]
 have hm:t.items.getD i 0∈t.items:=by rw[Gb,Ga hi];exact Gd hi
 obtain⟨_,h2,h3,h4⟩:=QT g.ord.ok Ba _ _ _ g.its _ hm;obtain⟨h5,h6⟩:=Jhw g.ord.ok h2 om;generalize t.items.getD i 0=L at *;obtain⟨L,rfl⟩:∃n:Nat,L=(n:Int):=⟨L.toNat,om⟩;exact⟨L,(fs o L).toNat,rfl,om,om,om,Ba,by rw[show o.getD L 0=fs o (L:Int) by simp[fs]];omega⟩
theorem GoodT.itr {t:Tr}{o:Lu}(g:GoodT t o){i:Int}(hi:i∈t.items):0<=i/\i<t.nodes.length:=by
 have Ba:o.length=t.nodes.length:=by rw[g.ord.len,QD]
 obtain⟨_,h2,h3,h4⟩:=QT g.ord.ok Ba _ _ _ g.its _ hi;exact⟨h2,h4⟩
end Go.Cm
end
namespace Go.Cm
theorem chain_app {o:Lu}{m:Nat}:∀(x y:Lu) (a e:Int),chain o m a (x++y) e↔∃c,chain o m a x c/\chain o m c y e
 |[],y,a,e=>by simp[chain]
 |i::x,y,a,e=>by
  simp only[GQ,chain,chain_app x y]
  constructor
  ·rintro⟨h1,c,h2,h3⟩;exact⟨c,⟨h1,h2⟩,h3⟩
  ·rintro⟨c,⟨h1,h2⟩,h3⟩;exact⟨h1,c,h2,h3⟩
theorem fixA_at {α:Type}{q:α->Bool}:∀(l:List α) (i:Nat),XT q l i = -1/\(∀x∈l,q x=false)\/∃j x,XT q l i=((i+j:Nat):Int)/\l[j]? = some x/\q x=true:=by
 intro l
 induction l with
 |nil=>intro i;exact .inl ⟨rfl,sM⟩
 |cons y l ih=>
  intro i;simp only[XT]
  cases hq:q y with
  |true=>exact .inr ⟨0,y,sM,rfl,hq⟩
  |false=>
   rcases ih (i+1) with ⟨h1,h2⟩|⟨j,x,h1,h2,h3⟩
   ·exact .inl ⟨by simpa using h1,λx hx=>by
     rcases GV.1 hx with rfl|hx
     ·exact hq
     ·exact h2 x hx⟩
   ·exact .inr ⟨j+1,x,by rw[show i+(j+1)=i+1+j by omega];simpa using h1,by simpa using h2,h3⟩
section
variable {t:Tr}{o:Lu}(g:GoodT t o)
def endI (t:Tr):Nat->Nat
 |0=>0
 |i+1=>(t.items.getD i 0).toNat+1
include g
theorem Ja5:∀i,i<=t.items.length->chain o t.nodes.length 0 (t.items.take i) (endI t i)/\chain o t.nodes.length (endI t i) (t.items.drop i) t.nodes.length:=by
 intro i hi;have h:=g.its;rw[<-List.take_append_drop i t.items,chain_app]at h;obtain⟨c,h1,h2⟩:=h;have hc:c=(endI t i:Int):=by
  cases i with
  |zero=>simp[chain]at h1;simp[endI,h1]
  |succ i=>rw[Jbr (d:=0) om,JbF]at h1;simp only[endI];omega
 rw[hc]at h1 h2;exact⟨h1,h2⟩
theorem item_at {i:Nat}(hi:i<t.items.length):∃L:Nat,t.items.getD i 0=(L:Int)/\fs o L=(endI t i:Int)/\endI t i<=L/\L<t.nodes.length/\endI t (i+1)=L+1:=by
 obtain⟨L,F,hL,jv,kC,Bd,Ba,gG⟩:=g.item hi;have h:=(Ja5 g i om).2;have e0:t.items.drop i=t.items.getD i 0::t.items.drop (i+1):=by rw[GG hi,Gb,Ga hi];rfl
 rw[e0,hL]at h;simp only[chain,GX]at h;have:(F:Int)=endI t i:=by rw[<-gG];exact h.1.2.2
 refine⟨L,hL,by rw[jv];exact this,om,Bd,?_⟩;simp only[endI,hL,GX]
theorem par_in:∀(N n:Nat),N<t.nodes.length->fs o N<=n->n<N->∃m:Nat,n<m/\m<=N/\(n:Int)∈(t.nodes.getD m default).kids:=by
 intro N
 induction N using Nat.strongRecOn with
 |_ N ih=>
  intro n hN h1 h2;have hK:=Km hN;obtain⟨c,hc,h3,h4⟩:=XC g.ord.ok rfl _ _ _ (n:Int) (g.ord.kids hK) h1 om;have hr:=g.ord.kid_rng hK hc;by_cases he:c=n
  ·subst he;exact⟨N,h2,Gg _,hc⟩
  ·obtain⟨c,rfl⟩:∃k:Nat,c=(k:Int):=⟨c.toNat,om⟩;obtain⟨m,q1,q2,q3⟩:=ih c om n om h3 om;exact⟨m,q1,om,q3⟩
def Kv (t:Tr)(n:Nat):Int:=XT (λx:Nd=>x.kids.contains (n:Int)) t.nodes 0
theorem Xq {n:Nat}(hn:n<t.nodes.length):(Kv t n = -1/\∀m:Nat,m<t.nodes.length->(n:Int)∉(t.nodes.getD m default).kids)\/∃m:Nat,Kv t n=(m:Int)/\n<m/\m<t.nodes.length/\(n:Int)∈(t.nodes.getD m default).kids:=by
 rcases fixA_at (q:=λx:Nd=>x.kids.contains (n:Int)) t.nodes 0 with ⟨h1,h2⟩|⟨j,x,h1,h2,h3⟩
 ·refine .inl ⟨h1,λm hm hk=>?_⟩;have:=h2 (t.nodes.getD m default) (by rw[rowN hm];exact Gd hm);simp only[G6,decide_eq_false_iff_not]at this;exact this hk
 ·have hj:=(Gm.1 h2).1;have hx:t.nodes.getD j default=x:=by rw[Gb,h2];rfl
  simp only[G6,decide_eq_true_eq]at h3;rw[<-hx]at h3;have:=g.kid hj h3;exact .inr ⟨j,by rw[Gq]at h1;exact h1,om,hj,h3⟩
end
end Go.Cm
section
set_option maxRecDepth 100000
open Go.Proofs
namespace Go.Cm
variable {τ:Nat->Nat}{f n:Nat}{H H' H0:Lt}{P:Program}{R:CV->Lt->Prop}{d:Option Nat}{g:Option (Nat×Bool)}
mutual
def mo (τ:Nat->Nat):CV->CV
 |.slc j off len cap=>.slc (τ j) off len cap
 |.ptr j i off=>.ptr (τ j) i off
 |.map j=>.map (τ j)
 |.fn f l1 l2=>.fn f (moL τ l1) (moL τ l2)
 |.iface t c=>.iface t (mo τ c)
 |.agg l=>.agg (moL τ l)
 |.tup l=>.tup (moL τ l)
 |c=>c
def moL (τ:Nat->Nat):Ls->Ls
 |[]=>[]
 |c::cs=>mo τ c::moL τ cs
end
mutual
theorem Jf2 {own own':LA}{imm:Nat->Nat->LD}{τ:Nat->Nat}(ho:∀(j:Nat) x,own[j]? = some x->own'[τ j]? = some x):∀(c:CV) (v:Value),rel own imm c v->rel own' imm (mo τ c) v
 |.un,_,_=>by simp only[mo,rel]
 |.bool _,_,h=>by simp only[mo,rel]at h|-;exact h
 |.int _ _,_,h=>by simp only[mo,rel]at h|-;exact h
 |.str _,_,h=>by simp only[mo,rel]at h|-;exact h
 |.nilp,_,h=>by simp only[mo,rel]at h|-;exact h
 |.ptr j i off,v,h=>by simp only[mo,rel]at h|-;obtain⟨x,hx,e⟩:=h;exact⟨x,ho j x hx,e⟩
 |.rptr cs,v,h=>by simp only[mo,rel]at h|-;exact h
 |.nils,_,h=>by simp only[mo,rel]at h|-;exact h
 |.slc j off len cap,v,h=>by simp only[mo,rel]at h|-;obtain⟨x,a,c,hx,e⟩:=h;exact⟨x,a,c,ho j x hx,e⟩
 |.rslc z' e cap,v,h=>by simp only[mo,rel]at h|-;exact h
 |.nilm,_,h=>by simp only[mo,rel]at h|-;exact h
 |.map j,v,h=>by simp only[mo,rel]at h|-;obtain⟨x,hx,e⟩:=h;exact⟨x,ho j x hx,e⟩
 |.fn f l1 l2,_,h=>by simp only[mo,rel]at h|-;obtain⟨vs1,vs2,e,h1,h2⟩:=h;exact⟨vs1,vs2,e,JeR ho l1 _ h1,JeR ho l2 _ h2⟩
 |.yld _,_,h=>by simp only[mo,rel]at h|-;exact h
 |.nilf,_,h=>by simp only[mo,rel]at h|-;exact h
 |.iface _ c,_,h=>by simp only[mo,rel]at h|-;obtain⟨r,e,h1⟩:=h;exact⟨r,e,Jf2 ho c _ h1⟩
 |.nili,_,h=>by simp only[mo,rel]at h|-;exact h
 |.agg l,_,h=>by simp only[mo,rel]at h|-;obtain⟨vs,e,h1⟩:=h;exact⟨vs,e,JeR ho l _ h1⟩
 |.tup l,_,h=>by simp only[mo,rel]at h|-;obtain⟨vs,e,h1⟩:=h;exact⟨vs,e,JeR ho l _ h1⟩
theorem JeR {own own':LA}{imm:Nat->Nat->LD}{τ:Nat->Nat}(ho:∀(j:Nat) x,own[j]? = some x->own'[τ j]? = some x):∀(l:Ls) (vs:LF),JY own imm l vs->JY own' imm (moL τ l) vs
 |[],vs,h=>by simp only[moL,JY]at h|-;exact h
 |c::cs,vs,h=>by simp only[moL,JY]at h|-;obtain⟨r,rs,e,h1,h2⟩:=h;exact⟨r,rs,e,Jf2 ho c _ h1,JeR ho cs _ h2⟩
end
theorem Jf3:∀(l:Ls),(moL τ l).length=l.length
 |[]=>rfl
 |_::cs=>by simp[moL,Jf3 cs]
theorem moL_get:∀(l:Ls) (i:Nat),(moL τ l)[i]? = (l[i]?).map (mo τ)
 |[],_=>by simp[moL]
 |c::cs,0=>by simp[moL]
 |c::cs,i+1=>by simp[moL,moL_get cs i]
def moO (τ:Nat->Nat):CObj->CObj
 |.arr z e=>.arr z (e.map (moL τ))
 |.map kvs=>.map (kvs.map λp=>(mo τ p.1,mo τ p.2))
 |o=>o
theorem Jaj(o:CObj):(moO τ o).alive=o.alive:=by cases o <;> rfl
theorem moO_rel {own own':LA}{imm:Nat->Nat->LD}(ho:∀(j:Nat) x,own[j]? = some x->own'[τ j]? = some x){x:Own}{o:CObj}{w:World}(h:YY own imm x o w):YY own' imm x (moO τ o) w:=by
 cases o with
 |arr z' es=>
  obtain⟨a1,c,el,a2,a3,a4,a5,a6⟩:=h;refine⟨a1,c,el,a2,a3,by simpa using a4,λj e he=>?_,a6⟩;rw[Gr]at he
  cases II:es[j]? with
  |none=>simp[II]at he
  |some e0=>
   simp[II]at he;subst he;obtain⟨h1,h2⟩:=a5 j e0 II;refine⟨by rw[Jf3];exact h1,λt c hc=>?_⟩;rw[moL_get]at hc
   cases ht:e0[t]? with
   |none=>simp[ht]at hc
   |some c0=>simp[ht]at hc;subst hc;obtain⟨r,h3,h4⟩:=h2 t c0 ht;exact⟨r,h3,Jf2 ho _ _ h4⟩
 |map kvs=>
  obtain⟨es,clock,a1,a2,a3⟩:=h;refine⟨es,clock,a1,by simpa using a2,λi k v e hk he=>?_⟩;rw[Gr]at hk
  cases Ce:kvs[i]? with
  |none=>simp[Ce]at hk
  |some p=>simp[Ce]at hk;obtain⟨rfl,rfl⟩:=hk;have:=a3 i p.1 p.2 e Ce he;exact⟨Jf2 ho _ _ this.1,Jf2 ho _ _ this.2⟩
 |dead=>trivial
 |ext s b=>trivial
mutual
theorem Jcr {τ:Nat->Nat}:∀(c:CV),c.closed=true->mo τ c=c
 |.un,_=>rfl
 |.bool _,_=>rfl
 |.int _ _,_=>rfl
 |.str _,_=>rfl
 |.nilp,_=>rfl
 |.ptr _ _ _,h=>by simp[CV.closed]at h
 |.rptr _,_=>rfl
 |.nils,_=>rfl
 |.slc _ _ _ _,h=>by simp[CV.closed]at h
 |.rslc _ _ _,_=>rfl
 |.nilm,_=>rfl
 |.map _,h=>by simp[CV.closed]at h
 |.fn f l1 l2,h=>by simp only[CV.closed,Gi]at h;simp only[mo,Yy l1 h.1,Yy l2 h.2]
 |.yld _,_=>rfl
 |.nilf,_=>rfl
 |.iface t c,h=>by simp only[CV.closed]at h;simp only[mo,Jcr c h]
 |.nili,_=>rfl
 |.agg l,h=>by simp only[CV.closed]at h;simp only[mo,Yy l h]
 |.tup l,h=>by simp only[CV.closed]at h;simp only[mo,Yy l h]
theorem Yy {τ:Nat->Nat}:∀(l:Ls),Jl l=true->moL τ l=l
 |[],_=>rfl
 |c::cs,h=>by simp only[Jl,Gi]at h;simp only[moL,Jcr c h.1,Yy cs h.2]
end
theorem Jdx:∀{els:LM},Jq els=true->els.map (moL τ)=els
 |[],_=>rfl
 |e::l,h=>by simp only[Jq,Gi]at h;simp only[Gh,Yy e h.1,Jdx h.2]
theorem JbB{z:Nat}{els:LM}(hc:Jq els=true):moO τ (.arr z els)=.arr z els:=congrArg (CObj.arr z) (Jdx hc)
def tau (σ:Lx)(n i:Nat):Nat:=if i<σ.length then σ.getD i 0 else n+(i-σ.length)
def Yw (σ:Lx)(n k:Nat)(H':Lt):Lt->Lt
 |[]=>(H'.drop σ.length).map (moO (tau σ n))
 |o::H=>(match Jk k σ 0 with|some i=>moO (tau σ n) (H'.getD i .dead)|none=>o)::Yw σ n (k+1) H' H
theorem backL_get {σ:Lx}:∀(H:Lt) (k j:Nat) (o:CObj),(Yw σ n k H' H)[j]? = some o->(∃i,j<H.length/\Jk (k+j) σ 0=some i/\o=moO (tau σ n) (H'.getD i .dead))\/(Jk (k+j) σ 0=none/\H[j]? = some o)\/∃i,j=H.length+i/\(H'[σ.length+i]?).map (moO (tau σ n))=some o
 |[],k,j,o,h=>by refine .inr (.inr ⟨j,sM,?_⟩);rw[Yw,Gr,G7]at h;exact h
 |p::H,k,0,o,h=>by
  rw[Yw,List.getElem?_cons_zero,Option.some.injEq]at h
  cases hr:Jk k σ 0 with
  |some i=>rw[hr]at h;exact .inl ⟨i,sM,rfl,h.symm⟩
  |none=>rw[hr]at h;exact .inr (.inl ⟨rfl,congrArg some h⟩)
 |p::H,k,j+1,o,h=>by
  rw[Yw,List.getElem?_cons_succ]at h;rcases backL_get H (k+1) j o h with ⟨i,h1,h2,h3⟩|⟨h1,h2⟩|⟨i,h1,h2⟩
  ·exact .inl ⟨i,by simp;omega,by rw[show k+(j+1)=k+1+j by omega];exact h2,h3⟩
  ·exact .inr (.inl ⟨by rw[show k+(j+1)=k+1+j by omega];exact h1,by simpa using h2⟩)
  ·exact .inr (.inr ⟨i,by simp;omega,h2⟩)
theorem Jfo {σ:Lx}:∀(H:Lt) (k:Nat),(Yw σ n k H' H).length=H.length+(H'.length-σ.length)
 |[],k=>by simp[Yw]
 |p::H,k=>by rw[Yw,Gf,Jfo H,Gf];omega
theorem JfR {id:Nat}:∀(σ:Lx) (i:Nat),Jk id σ i=none->id∉σ
 |[],_,_=>sM
 |k::σ,i,h=>by
  simp only[Jk]at h
  split at h
  ·cases h
  ·rename_i hk;have:=JfR σ (i+1) h;simp only[GV,not_or];exact⟨λh=>hk h.symm,this⟩
def isExt:CObj->Bool
 |.ext _ _=>true
 |_=>false
def locOk (σ:Lx)(H:Lt):Bool:=σ.Nodup && σ.all λi=>decide (i<H.length) && !isExt (H.getD i .dead)
section
variable{E:Env}
theorem CallsC.loc{args args0:Ls}(σ:Lx)(h:CallsC P Env.none f args0 H0 R)(ha:JG σ args=args0)(hH:KD σ H=H0)(Ao:locOk σ H=true) :
  CallsC P E f args H λv H'=>∃v0 H0',R v0 H0'/\v=mo (tau σ H.length) v0/\H'=Yw σ H.length 0 H0' H:=by
 intro m w vs hs hv;subst ha hH;obtain⟨FQ,Aj⟩:σ.Nodup/\∀i∈σ,i<H.length/\∀s b,H[i]?≠some (.ext s b):=by unfold locOk at Ao;rw[Gi,Gx]at Ao;refine⟨by simpa using Ao.1,λi hi=>?_⟩;have h2:=Ao.2 i hi;rw[Gi,decide_eq_true_eq]at h2;refine⟨h2.1,λs b hb=>?_⟩;rw[Gb,hb]at h2;simp[isExt]at h2
 have Ad:=hs.len
 let own0:LA:=σ.map λid=>m.own.getD id ⟨0,0,0,0⟩
 have ho:∀(j:Nat) id,σ[j]? = some id->own0[j]? = m.own[id]?:=by
  intro j id hj;have Ab:id<m.own.length:=by rw[Ad];exact(Aj id (Gw hj)).1
  simp[own0,hj,Gb,Ga Ab]
 have key0:∀(k:Nat) o x,(KD σ H)[k]? = some o->own0[k]? = some x->∃id o0,σ[k]? = some id/\H[id]? = some o0/\o=Xk σ o0/\m.own[id]? = some x:=by intro k o x hk hx;obtain⟨id,o0,h1,h2,h3⟩:=JdU (λi hi=>(Aj i hi).1) hk;exact⟨id,o0,h1,h2,h3,(ho k id h1).symm.trans hx⟩
 have EM:Sim Env.none { own:=own0,imm:=m.imm,ext:=λ_=>False } (KD σ H) w:=by
  refine⟨by simp[own0,KD],λk o x hk hx=>?_,hs.imm,hs.one,λk k' o o' x x' hk AB ha AV hx Av hB=>?_,λk o x hk ha hx=>?_,λk s b hk=>?_,λk o x hk ha hx=>?_,λB hB=>hs.extlt B (.inr (hB.resolve_left id)),hs.gl.1,λB hB=>hB.elim⟩
  ·obtain⟨id,o0,h1,h2,rfl,h4⟩:=key0 k o x hk hx;have:=hs.obj id o0 x h2 h4;have hf:=Jg7 (own:=m.own) (own':=own0) (imm:=m.imm) (ρ:=σ) ho
   cases o0 with
   |arr z' es=>obtain⟨a1,c,el,a2,a3,a4,a5,a6⟩:=this;exact⟨a1,c,el,a2,a3,by simpa using a4,relO_ren hf a5,a6⟩
   |map kvs=>
    obtain⟨es,clock,a1,a2,a3⟩:=this;refine⟨es,clock,a1,by simpa using a2,λi k v e hk he=>?_⟩;rw[Gr]at hk
    cases Ce:kvs[i]? with
    |none=>simp[Ce]at hk
    |some p=>simp[Ce]at hk;obtain⟨rfl,rfl⟩:=hk;have:=a3 i p.1 p.2 e Ce he;exact⟨hf _ _ this.1,hf _ _ this.2⟩
   |dead=>trivial
   |ext s b=>trivial
  ·obtain⟨id,o0,h1,h2,rfl,h4⟩:=key0 k o x hk hx;obtain⟨id',o0',DD,FC,rfl,SX⟩:=key0 k' o' x' AB Av;rw[XB]at ha AV;have:=hs.sep id id' o0 o0' x x' h2 FC ha AV h4 SX hB;subst this;exact(List.getElem?_inj (Gm.1 h1).1 FQ).1 (h1.trans DD.symm)
  ·obtain⟨id,o0,h1,h2,rfl,h4⟩:=key0 k o x hk hx;rw[XB]at ha;exact hs.ro id o0 x h2 ha h4
  ·obtain⟨id,o0,h1,h2,h3⟩:=JdU (λi hi=>(Aj i hi).1) hk;have:o0=.ext s b:=by cases o0 <;> simp[Xk]at h3;simp[h3]
   subst this;exact absurd h2 ((Aj id (Gw h1)).2 s b)
  ·obtain⟨id,o0,h1,h2,rfl,h4⟩:=key0 k o x hk hx;rw[XB]at ha;exact λhB=>hs.extsep id o0 x h2 ha h4 (.inr (hB.resolve_left λh=>h))
 refine(h _ w vs EM (Jaw ho args _ hv)).mono ?_;rintro ev w' ⟨rv,m',v,H',rfl,Ae,AA,hrel,hR⟩;have A8:(KD σ H).length=σ.length:=by simp[KD]
 have Ba:own0.length=σ.length:=by simp[own0]
 have Fp:σ.length<=m'.own.length:=by rw[<-A8];exact Ae.long (by rw[A8,Ba];exact Gg _)
 have Eu:=AA.len;have hτ:∀(j:Nat) x,m'.own[j]? = some x->(m.own++m'.own.drop σ.length)[tau σ H.length j]? = some x:=λj x hj=>by
  unfold tau;by_cases A7:j<σ.length
  ·rw[if_pos A7];have M5:=Ga A7;have Ab:=(Aj _ (Gd A7)).1;have e1:own0[j]? = some (m.own[σ[j]]' om):=by rw[ho j _ M5,Ga]
   have e2:=Ae.base j _ (by rw[A8];exact A7) e1;rw[hj]at e2;rw[Gb,M5,Option.getD_some,GD om,Ga om];exact e2.symm
  ·rw[if_neg A7,GM om,G7];rw[show σ.length+(H.length+(j-σ.length)-m.own.length)=j by omega];exact hj
 have ownM:∀B,owned { own:=own0,imm:=m.imm,ext:=λ_=>False } (KD σ H) B->∃id o x,id∈σ/\H[id]? = some o/\o.alive=true/\m.own[id]? = some x/\x.B=B:=by
  rintro B (h|⟨k,o,x,hk,Am,hx,rfl⟩)
  ·exact h.elim
  ·obtain⟨id,o0,h1,h2,rfl,h4⟩:=key0 k o x hk hx;rw[XB]at Am;exact⟨id,o0,x,Gw h1,h2,Am,h4,rfl⟩
 have ownM2:∀B,owned { own:=own0,imm:=m.imm,ext:=λ_=>False } (KD σ H) B->owned m H B:=λB hB=>by obtain⟨id,o,x,_,h1,h2,h3,h4⟩:=ownM B hB;exact .inr ⟨id,o,x,h1,h2,h3,h4⟩
 have EO:∀(k:Nat) o x,k∉σ->H[k]? = some o->o.alive=true->m.own[k]? = some x->¬owned { own:=own0,imm:=m.imm,ext:=λ_=>False } (KD σ H) x.B:=λk o x h1 hk Am hx hB=>by obtain⟨id,o',x',q1,q2,q3,q4,q5⟩:=ownM _ hB;have:=hs.sep k id _ _ _ _ hk q2 Am q3 hx q4 q5.symm;subst this;exact h1 q1
 have AQ:∀(k:Nat) o x,k∉σ->H[k]? = some o->o.alive=true->m.own[k]? = some x->w'.heap[x.B]? = w.heap[x.B]?:=λk o x h1 hk Am hx=>Ae.frame _ (Yn hs hk Am hx) (EO k o x h1 hk Am hx)
 have key:∀(k:Nat) o x,(Yw σ H.length 0 H' H)[k]? = some o->(m.own++m'.own.drop σ.length)[k]? = some x->(∃i o0,H'[i]? = some o0/\o=moO (tau σ H.length) o0/\m'.own[i]? = some x/\tau σ H.length i=k)\/(H[k]? = some o/\m.own[k]? = some x/\k∉σ):=λk o x hk hx=>by
  rcases backL_get H 0 k o hk with ⟨i,h1,h2,h3⟩|⟨h1,h2⟩|⟨i,h1,h2⟩
  ·rw[Gq]at h2;have h4:=Jbx h2;have hi:=(Gm.1 h4).1;have h5:tau σ H.length i=k:=by unfold tau;rw[if_pos hi,Gb,h4];rfl
   have h6:=hτ i _ (Ga (show i<m'.own.length by omega));rw[h5,hx]at h6;refine .inl ⟨i,H'[i]' om,Ga om,?_,?_,h5⟩
   ·rw[h3,Gb,Ga (show i<H'.length by omega)];rfl
   ·rw[Ga (show i<m'.own.length by omega),<-h6]
  ·rw[Gq]at h1;have Aq:=(Gm.1 h2).1;rw[GD om]at hx;exact .inr ⟨h2,hx,JfR σ 0 h1⟩
  ·obtain⟨o0,h3,h4⟩:=Option.map_eq_some_iff.1 h2;have Af:=(Gm.1 h3).1;have h5:tau σ H.length (σ.length+i)=k:=by unfold tau;rw[iN7];omega
   have h6:=hτ (σ.length+i) _ (Ga (show σ.length+i<m'.own.length by omega));rw[h5,hx]at h6;refine .inl ⟨σ.length+i,o0,h3,h4.symm,?_,h5⟩;rw[Ga (show σ.length+i<m'.own.length by omega),<-h6]
 have DK:∀(i:Nat) o0 x,H'[i]? = some o0->o0.alive=true->m'.own[i]? = some x->owned { own:=own0,imm:=m.imm,ext:=λ_=>False } (KD σ H) x.B\/w.heap.size<=x.B:=λi o0 x h1 h2 h3=>Ae.newOwn x.B (.inr ⟨i,o0,x,h1,h2,h3,rfl⟩)
 have Bb:=KX.append m.own (m'.own.drop σ.length);refine⟨rv,{ m with own:=m.own++m'.own.drop σ.length,imm:=m'.imm },mo (tau σ H.length) v,_,rfl,⟨Ae.size,λB hB hn=>Ae.frame B hB λh=>hn (ownM2 B h),Ae.imm,?_,λB i v hv=>?_,λk x _ hx=>Bb _ _ hx,λh=>by simp;omega,Ae.same⟩,⟨by rw[Jfo];simp;omega,λk o x hk hx=>?_,AA.imm,AA.one,λk k' o o' x x' hk AB ha AV hx Av hB=>?_,λk o x hk Am hx i hi=>?_,λk a b hk=>?_,λk o x hk Am hx=>?_,λB hB=>Nat.lt_of_lt_of_le (hs.extlt B hB) Ae.size,AA.gl.1,hs.gl.2⟩,Jf2 hτ v rv hrel,v,H',hR,rfl,rfl⟩
 ·rintro B (hB|⟨k,o,x,hk,Am,hx,rfl⟩)
  ·exact .inl (.inl hB)
  ·rcases key k o x hk hx with ⟨i,o0,h1,rfl,h3,_⟩|⟨h1,h2,_⟩
   ·rw[Jaj]at Am;rcases DK i o0 x h1 Am h3 with h|h
    ·exact .inl (ownM2 _ h)
    ·exact .inr h
   ·exact .inl (.inr ⟨k,o,x,h1,Am,h2,rfl⟩)
 ·rcases Ae.newImm B i v hv with h|h|h
  ·exact .inl h
  ·exact .inr (.inl (ownM2 B h))
  ·exact .inr (.inr h)
 ·rcases key k o x hk hx with ⟨i,o0,h1,rfl,h3,_⟩|⟨h1,h2,h3⟩
  ·exact moO_rel hτ (AA.obj i o0 x h1 h3)
  ·by_cases Am:o.alive=true
   ·exact KM Bb Ae.imm (λ_=>AQ k o x h3 h1 Am h2) (hs.obj k o x h1 h2)
   ·cases o <;> simp[CObj.alive]at Am <;> trivial
 ·have cross:∀(i:Nat) o0 (k:Nat) o x y,H'[i]? = some o0->o0.alive=true->m'.own[i]? = some x->H[k]? = some o->o.alive=true->m.own[k]? = some y->k∉σ->x.B≠y.B:=λi o0 k o x y h1 h2 h3 h4 h5 h6 h7 hB=>by
   rcases DK i o0 x h1 h2 h3 with h|h
   ·exact EO k o y h7 h4 h5 h6 (hB▸h)
   ·have:=Yn hs h4 h5 h6;omega
  rcases key k o x hk hx with ⟨i,o0,h1,rfl,h3,h4⟩|⟨h1,h2,h3⟩ <;> rcases key k' o' x' AB Av with ⟨i',o0',DD,rfl,CF,SX⟩|⟨DD,FC,CF⟩
  ·rw[Jaj]at ha AV;have:=AA.sep i i' _ _ _ _ h1 DD ha AV h3 CF hB;subst this;exact h4.symm.trans SX
  ·rw[Jaj]at ha;exact absurd hB (cross i o0 k' o' x x' h1 ha h3 DD AV FC CF)
  ·rw[Jaj]at AV;exact absurd hB.symm (cross i' o0' k o x' x DD AV CF h1 ha h2 h3)
  ·exact hs.sep k k' _ _ _ _ h1 DD ha AV h2 FC hB
 ·rcases key k o x hk hx with ⟨j,o0,h1,rfl,h3,h4⟩|⟨h1,h2,h3⟩
  ·rw[Jaj]at Am;exact AA.ro j _ _ h1 Am h3 i hi
  ·cases hv:m'.imm x.B i with
   |none=>rfl
   |some v=>
    rcases Ae.newImm _ _ _ hv with h|h|h
    ·rw[hs.ro k o x h1 Am h2 i hi]at h;cases h
    ·exact absurd h (EO k o x h3 h1 Am h2)
    ·have:=Yn hs h1 Am h2;omega
 ·have Aq:=(Gm.1 hk).1;rw[Jfo]at Aq;obtain⟨x,hx⟩:∃x,(m.own++m'.own.drop σ.length)[k]? = some x:=⟨_,Ga (by simp;omega)⟩;rcases key k _ x hk hx with ⟨j,o0,h1,h2,h3,h4⟩|⟨h1,h2,h3⟩
  ·have:o0=.ext a b:=by cases o0 <;> simp[moO]at h2;simp[h2]
   subst this;exact(AA.ext j a b h1).elim
  ·refine E.stable _ _ _ _ _ _ _ (hs.ext k a b h1) (λB hB=>Ae.frame B (hs.extlt B hB) λh=>?_) Ae.size Ae.imm (λB i v hv=>?_) AA.imm AA.one
   ·obtain⟨id,o,x,_,q1,q2,q3,q4⟩:=ownM B h;subst q4;exact hs.extsep id _ _ q1 q2 q3 hB
   ·rcases Ae.newImm B i v hv with h|h|h
    ·exact .inl h
    ·refine .inr λhB=>?_
     obtain⟨id,o,x,_,q1,q2,q3,q4⟩:=ownM B h;subst q4;exact hs.extsep id _ _ q1 q2 q3 (.inl hB)
    ·refine .inr λhB=>?_
     have:=hs.extlt B (.inl hB);omega
 ·rcases key k o x hk hx with ⟨i,o0,h1,rfl,h3,h4⟩|⟨h1,h2,h3⟩
  ·rw[Jaj]at Am;intro hB;rcases DK i o0 x h1 Am h3 with h|h
   ·obtain⟨id,o,y,_,q1,q2,q3,q4⟩:=ownM _ h;rw[<-q4]at hB;exact hs.extsep id _ _ q1 q2 q3 hB
   ·have:=hs.extlt _ hB;omega
  ·exact hs.extsep k o x h1 Am h2
end
section
variable{E:Env}{n0:Nat}{N:Fr}{Q:Exit->Ls->Lt->Prop}{k:LJ}{T:Ls}
theorem vr_loc{ags:LK}{l:LB}{args0:Ls}(σ:Lx)(hg:GOk T g)(h:CallsC P Env.none f args0 H0 R)(ha:JG σ (ags.map (Kb T))=args0)(hH:KD σ H=H0)(Ao:locOk σ H=true)(hk:∀v H',R v H'->Ky P E n0 N Q (.ops l::k) (put T d (mo (tau σ H.length) v)) (Yw σ H.length 0 H' H)):Ok P E n0 N Q (.ops (⟨d,.call f ags,g⟩::l)::k) T H:=Kq hg (h.loc σ ha hH Ao) λv H' ⟨v0,H0,hR,e1,e2⟩=>by rw[e1,e2];exact hk v0 H0 hR
theorem vr_locE{ags:LK}{l:LB}{args0:Ls}{H1 H2:Lt}{v v2:CV}(σ:Lx)(hg:GOk T g)(h:CallsC P Env.none f args0 H0 λv' H'=>v'=v/\H'=H1)(ha:JG σ (ags.map (Kb T))=args0)(hH:KD σ H=H0)(Ao:locOk σ H=true)(hv:mo (tau σ H.length) v=v2)(h2:Yw σ H.length 0 H1 H=H2)(hk:Ky P E n0 N Q (.ops l::k) (put T d v2) H2):Ok P E n0 N Q (.ops (⟨d,.call f ags,g⟩::l)::k) T H:=vr_loc σ hg h ha hH Ao λv' H' ⟨e1,e2⟩=>by rw[e1,e2,hv,h2];exact hk
end
end Go.Cm
end
section
set_option maxRecDepth 100000
namespace Go.Cm
variable {op:IOp}{T:Ls}{H H':Lt}{d:Option Nat}{b:Nat}
def looks:IOp->Bool
 |.load _ _ _=>true
 |.iaddr _ _ _=>true
 |_=>false
theorem looks_heap{c:Cond}{v:CV}(hl:looks op=true)(he:exec op T H=some (c,v,H')):H'=H:=by
 cases op <;> simp only[looks]at hl <;> first|(cases hl;done)|skip
 all_goals
  simp only[exec]at he
  repeat' split at he
  all_goals first|(cases he;done)|(simp only[Option.some.injEq,Prod.mk.injEq]at he;exact he.2.2.symm)
def footQ (b:Nat):Foot×Foot:=if b=0 then Foot.no else if b=1 then(.all,.on []) else Foot.any
def Jgv (b:Nat)(op:IOp)(T:Ls)(H:Lt):Option (Cond×CV×Lt):=if b=0 then JeY false op T H else if b=1 then(if looks op=true then exec op T H else none) else exec op T H
section
variable (P:Program)(E:Env)(n0:Nat)(N:Fr)(Q:Exit->Ls->Lt->Prop)
def vdx (k:LJ):LB->Lx->Ls->Lt->Prop
 |[],_,T,H=>Ky P E n0 N Q k T H
 |_::_,[],_,_=>False
 |⟨d,op,none⟩::l,b::bs,T,H=>match Jgv b op T H with
  |some (c,v,H')=>c.holds/\vdx k l bs (put T d v) H'
  |none=>∃v H',HS P E ⟨d,op,none⟩ T H v H' (footQ b)/\vdx k l bs (put T d v) H'
 |⟨d,op,some g⟩::l,b::bs,T,H=>∃v H',HS P E ⟨d,op,some g⟩ T H v H' (footQ b)/\vdx k l bs (put T d v) H'
def vdxR (r:Option (Cond×CV×Lt))(d:Option Nat)(op:IOp)(b:Nat)(k:LJ)(l:LB)(bs:Lx)(T:Ls)(H:Lt):Prop:=
 match r with
 |some (c,v,H')=>c.holds/\vdx P E n0 N Q k l bs (put T d v) H'
 |none=>∃v H',HS P E ⟨d,op,none⟩ T H v H' (footQ b)/\vdx P E n0 N Q k l bs (put T d v) H'
end
section
variable {P:Program}{E:Env}{n0:Nat}{N:Fr}{Q:Exit->Ls->Lt->Prop}{k:LJ}{l:LB}{es:List Lx}{bs:Lx}
theorem vx_nil:vdx P E n0 N Q k [] bs T H=Ky P E n0 N Q k T H:=propext (by cases bs <;> exact Iff.rfl)
theorem vx_op:vdx P E n0 N Q k (⟨d,op,none⟩::l) (b::bs) T H=vdxR P E n0 N Q (Jgv b op T H) d op b k l bs T H:=propext Iff.rfl
theorem vdxR_some{c:Cond}{v:CV}:vdxR P E n0 N Q (some (c,v,H')) d op b k l bs T H=(c.holds/\vdx P E n0 N Q k l bs (put T d v) H'):=propext Iff.rfl
theorem vdx_look {T':Ls}{H':Lt}(hT:T=T')(hH:H=H'):vdx P E n0 N Q k l bs T H=vdx P E n0 N Q k l bs T' H':=by rw[hT,hH]
theorem vdxR_look {r r':Option (Cond×CV×Lt)}(h:r=r'):vdxR P E n0 N Q r d op b k l bs T H=vdxR P E n0 N Q r' d op b k l bs T H:=by rw[h]
attribute [congr] vdx_look vdxR_look
theorem hs_ro {io:IOper}{x:CV}{c:Cond}(hg:GOk T io.guard)(he:exec io.op T H=some (c,x,H))(hc:c.holds):HS P E io T H x H (.all,.on []):=by
 have h:=hs_op (P:=P) (E:=E) hg he hc;refine⟨λ_ _=>rfl,λT2 H2 ag hx=>?_⟩;have hH:H2=H:=Y9 λy=>hx y trivial
 obtain⟨H2',h1,_,h3⟩:=h.run T2 H2 ag λy _=>hx y trivial
 have bg:H2'=H:=Y9 λy=>h1 y trivial
 subst hH bg;exact⟨_,λy hy=>(by cases hy),λ_ _=>rfl,h3⟩
end
theorem xexec0:Jgv 0 op T H=JeY false op T H:=rfl
theorem xexec1:Jgv 1 op T H=if looks op=true then exec op T H else none:=rfl
theorem xexec2:Jgv 2 op T H=exec op T H:=rfl
attribute [go_sem] xexec0 xexec1 xexec2 looks vx_nil vx_op vdxR_some
end Go.Cm
end
end
