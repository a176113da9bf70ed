/-
  A part of the proof. Conditions: none.
-/
import Derived.Test.YtejfnfphmkjffaaGreatDoorVP7
import Derived.Lib.Join
import Derived.Lib.ItoaLen
set_option linter.unusedSimpArgs false
set_option linter.unusedVariables false
open Go.Proofs.Tryz renaming prog->Gc
open Int renaming cast_ofNat_Int->Gv,toNat_natCast->GQ,add_zero->GR
open Nat renaming le_refl->Gf,zero_add->Gn,lt_or_ge->GA
open Bool renaming and_eq_true->Gh,eq_false_or_eq_true->Gr,true_and->Gp,and_eq_false_iff->GD,false_and->GG,or_eq_false_iff->GU,not_eq_true->GV,eq_iff_iff->GX
open List renaming getElem?_eq_getElem->Ga,getD_eq_getElem?_getD->Gb,getElem_mem->Gd,getElem?_eq_some_iff->Gi,length_cons->Gg,take_length->Gj,take_succ_eq_append_getElem->Gw,length_nil->Gl,getElem?_map->Gq,mem_of_getElem?->Gs,getElem?_append_left->Gx,map_cons->Gm,take_of_length_le->Gy,all_eq_true->Gt,getElem?_append_right->GH,mem_singleton->Gz,drop_eq_nil_of_le->GI,map_nil->Gu,length_take->GJ,cons_append->GK,mem_append->GL,drop_zero->GM,drop_eq_getElem_cons->GY,mem_cons->GN,contains_eq_mem->GZ,getElem?_drop->G5,any_eq_false->G6,all_eq_false->G7,nil_append->G8,foldl_cons->G9,mem_range->Ha
noncomputable section
section
set_option maxRecDepth 100000
set_option maxHeartbeats 40000000
open Go.Proofs
namespace Go.Cm
theorem refKin28 (t:Tr)(x:Nd)(hx:x.Fit)(hm:t.nodes.length<=1400)(hn:∀y∈t.nodes,y.k<256)(hk:∀k∈x.kids,0<=k/\k<t.nodes.length)(DZ:x.k=28) :
  Fn Gc 47 [t.cv,.agg x.cv] (.bool (Qa x.k x.n (lets t.nodes x))):=by
 have BK:=hx.kidn;have CJ:=Kv (l:=t.nodes) (x:=x);have hK:∀(c:Nat) (b:UInt8),(c,b)∈([(200,101),(201,116),(202,99),(40,66),(41,83),(42,98),(43,73),(44,78),(45,71),(48,79),(64,80)]:List (Nat×UInt8))->∀p q:Int,Fn Gc 66 [t.cv,.agg x.cv,.int .i64 p,.int .i64 q,.int .u8 c] (.bool (J4 (lets t.nodes x) p q b)):=by
  intro c b Fz p q;have:=refKids t x hx hm hk p q c;rw[kids_conv hn hk (λk h=>cls_all ⟨k,h⟩ (c,b) Fz)]at this;exact this
 have hM:=refMany t x hx hk 41;rw[Je3 (b:=83) hn hk (λk h=>(let_all ⟨k,h⟩).1)]at hM;have aC:Qo 83 (lets t.nodes x)<=30:=Nat.le_trans (cntB_le _ _) (by omega);have K200:=hK 200 101 (by decide);have K41:=hK 41 83 (by decide);have K43:=hK 43 73 (by decide);have K44:=hK 44 78 (by decide);have K45:=hK 45 71 (by decide);simp only[Gv]at K200 K41 K43 K44 K45 hM;obtain⟨k,text,n,kids,pl⟩:=x;simp only at DZ;subst DZ;generalize lets t.nodes ⟨28,text,n,kids,pl⟩=hv at CJ K200 K41 K43 K44 K45 hM aC|-;obtain⟨cs,Db⟩:∃cs:Int,cs=(Qo 83 hv:Int):=⟨_,rfl⟩;rw[<-Db]at hM;simp only[Nd.cv,Tr.cv,Tr.row]at BK CJ K200 K41 K43 K44 K45 hM|-;clear hK;obtain⟨m,D8⟩:∃m:Int,m=(kids.length:Int):=⟨_,rfl⟩;refine Ja c47_ok rfl rfl λN=>?_
 simp (maxSteps:=2000000) -implicitDefEqProofs only[c47,go_sem,Jg,Gv,<-D8];refine JV hM ?_;by_cases h0:0<=n
 ·have f0:((0:Int)<=n)=True:=eq_true h0;by_cases h1:n<m
  ·have f1:(n<m)=True:=eq_true h1;simp (maxSteps:=2000000) -implicitDefEqProofs only[go_sem,f0,f1];have BL:Qa 28 n hv=(J4 hv 0 n 73 && J4 hv n (n+1) 101 && J4 hv (n+1) (n+1+cs) 83 && J4 hv (n+1+cs) (m-1) 78 && J4 hv (m-1) m 71):=by
    simp[Qa,CJ,<-D8,<-Db,h0,h1]
   rw[BL];refine Kh (gok rfl) (K43 (0) n) ?_
   cases g0:J4 hv (0) n 73 with
   |false=>simp (maxSteps:=2000000) -implicitDefEqProofs only[go_sem];try simp
   |true=>
    simp (maxSteps:=2000000) -implicitDefEqProofs only[go_sem];refine⟨Jh,?_⟩;refine Kh (gok rfl) (K200 (n) (n+1)) ?_
    cases g1:J4 hv (n) (n+1) 101 with
    |false=>simp (maxSteps:=2000000) -implicitDefEqProofs only[go_sem];try simp
    |true=>
     simp (maxSteps:=2000000) -implicitDefEqProofs only[go_sem];refine⟨Jh,?_⟩;refine⟨Jh,?_⟩;refine⟨Jh,?_⟩;refine Kh (gok rfl) (K41 (n+1) (n+1+cs)) ?_
     cases g2:J4 hv (n+1) (n+1+cs) 83 with
     |false=>simp (maxSteps:=2000000) -implicitDefEqProofs only[go_sem];try simp
     |true=>
      simp (maxSteps:=2000000) -implicitDefEqProofs only[go_sem];refine⟨Jh,?_⟩;refine⟨Jh,?_⟩;refine⟨Jh,?_⟩;refine Kh (gok rfl) (K44 (n+1+cs) (m-1)) ?_
      cases g3:J4 hv (n+1+cs) (m-1) 78 with
      |false=>simp (maxSteps:=2000000) -implicitDefEqProofs only[go_sem];try simp
      |true=>
       simp (maxSteps:=2000000) -implicitDefEqProofs only[go_sem];refine⟨Jh,?_⟩;refine Kh (gok rfl) (K45 (m-1) m) ?_
       cases g4:J4 hv (m-1) m 71 with
       |false=>simp (maxSteps:=2000000) -implicitDefEqProofs only[go_sem];try simp
       |true=>
        simp (maxSteps:=2000000) -implicitDefEqProofs only[go_sem]
        try simp
  ·have f1:(n<m)=False:=eq_false h1;simp (maxSteps:=2000000) -implicitDefEqProofs only[go_sem,f0,f1];simp[Qa,CJ,<-D8,h1]
 ·have f0:((0:Int)<=n)=False:=eq_false h0;simp (maxSteps:=2000000) -implicitDefEqProofs only[go_sem,f0];simp[Qa,h0]
end Go.Cm
end
section
open Go.Shelf Go.RowKit Go.Proofs
namespace Go.Proofs
open Go.Cm in
set_option maxHeartbeats 4000000 in
set_option maxRecDepth 100000 in
theorem Tryz.kinMax_walk (ta tb:Value)(s:ByteArray)(b:Option Addr)(len cap:Nat)(pl:Int)(hl:len<=1000)(w:World) :
  Calls Gc 47 #[.agg #[ta,tb],.agg #[.int .u8 41,.string s,.int .i64 9223372036854775807,.slice b len cap,.int .i64 pl]] w λe w'=>e=.returned (.bool false)/\Below w.heap.size w w':=by
 have hw:wrap64 9223372036854775808 = -9223372036854775808:=by decide +kernel
 have Ai:¬((len:Int)=wrap64 9223372036854775808):=by omega
 go_enter Tryz.func47,Tryz.ntmps47
 go_wp2
 all_goals first
  |(exfalso;omega)
  |skip
 go_ret
 exact⟨rfl,((Below.refl _ _).alloc (Gf _) _).alloc (show _<=(w.heap.push _).size by rw[Array.size_push];omega) _⟩
end Go.Proofs
namespace Go.Cm
theorem refKinMax (t:Tr)(x:Nd)(hx:x.Fit)(Bg:x.k=41)(hm:x.n=9223372036854775807):Fn Gc 47 [t.cv,.agg x.cv] (.bool (Qa x.k x.n (lets t.nodes x))):=by
 have BK:=hx.kidn;have CJ:=Kv (l:=t.nodes) (x:=x);have hf:Qa x.k x.n (lets t.nodes x)=false:=by
  rw[Bg,hm];have:((lets t.nodes x).length:Int)≠9223372036854775808:=by omega
  simp[Qa,this]
 rw[hf];intro E H;refine KP λm w vs hs hv=>?_
 obtain⟨k,text,n,kids,pl⟩:=x;simp only at Bg hm;subst Bg hm;simp only[JS,rel,Tr.cv,Tr.row,Nd.cv]at hv;obtain⟨r,rs,e,⟨v1,rfl,ra,ras,e1,-,rb,rbs,e2,-,e3⟩,x,xs,e4,⟨v2,rfl,y1,ys1,f1,g1,y2,ys2,f2,g2,y3,ys3,f3,g3,y4,ys4,f4,g4,y5,ys5,f5,g5,f6⟩,e5⟩:=hv;have BI:vs=#[.agg v1,.agg v2]:=by cases vs;simp_all
 have h1:v1=#[ra,rb]:=by cases v1;simp_all
 have h2:v2=#[y1,y2,y3,y4,y5]:=by cases v2;simp_all
 subst BI h1 h2 g1 g2 g3 g5;have h4:∃b c,y4=.slice b kids.length c:=by
  rcases g4 with ⟨-,h,b,rfl⟩|⟨B,o,c,rfl,-⟩
  ·have:kids.length=0:=by rw[<-Jg (l:=kids),h];rfl
   exact⟨b,0,by rw[this]⟩
  ·exact⟨_,c,by rw[Jg]⟩
 obtain⟨b,c,rfl⟩:=h4;exact⟨_,Tryz.kinMax_walk ra rb ⟨⟨text⟩⟩ b kids.length c pl (by simp only at BK;omega) w,rfl⟩
theorem refKin (t:Tr)(x:Nd)(hx:x.Fit)(hm:t.nodes.length<=1400)(hn:∀y∈t.nodes,y.k<256)(hk:∀k∈x.kids,0<=k/\k<t.nodes.length):Fn Gc 47 [t.cv,.agg x.cv] (.bool (Qa x.k x.n (lets t.nodes x))):=by
 by_cases DZ:x.k=28
 ·exact refKin28 t x hx hm hn hk DZ
 ·by_cases Bg:x.k=41/\x.n=9223372036854775807
  ·exact refKinMax t x hx Bg.1 Bg.2
  ·exact refKin1 t x hx hm hn hk (λh=>by
   have h5:x.n<=9223372036854775807:=hx.n.2;have h6:x.n≠9223372036854775807:=λe=>Bg ⟨h,e⟩
   omega) DZ
end Go.Cm
end
section
set_option maxRecDepth 100000
set_option maxHeartbeats 40000000
open Go.Proofs
namespace Go.Cm
theorem refFields (x:Nd)(kk:Nat)(nmd:Bool)(hq:(kk == 2)=nmd)(hn:Fn Gc 68 [S x.text] (.int .u8 kk)):Fn Gc 48 [.agg x.cv] (.bool (QM nmd x.k x.text x.n x.pl)):=by
 have DW:((kk:Int) != 2) = !nmd:=by
  rw[<-hq,bne]
  congr 1
  rw[GX];simp;omega
 obtain⟨k,text,n,kids,pl⟩:=x;simp only[Nd.cv]at hn|-;by_cases hC:k=1\/k=2\/k=3\/k=26\/k=42\/k=43\/k=44\/k=64\/k=65\/k=47\/k=48\/k=40\/k=41\/k=28\/k=29
 rotate_left
 ·have hE:QM nmd k text n pl=(text == [] && (n == 0 && inI 0 2500 pl)):=by
   simp only[QM];have d1:decide (k=3\/k=26\/k=42\/k=43\/k=44\/k=64\/k=65\/k=47)=false:=decide_eq_false (by omega);have d2:decide (k=65\/k=47\/k=40\/k=41\/k=28\/k=29)=false:=decide_eq_false (by omega);rw[iN7,iN7,iN7,d1,d2];simp
  rw[hE];simp only[not_or]at hC;refine Ja c48_ok rfl rfl λN=>?_
  cases t1:text == [] <;> cases h0:n == 0 <;> repeat first
   |refine Kh (gok rfl) (JbA pl 0 2500) ?_
   |simp (maxSteps:=2000000) -implicitDefEqProofs only[c48,go_sem,t1,h0,kbo,hC,not_false_eq_true]
 rcases hC with rfl|rfl|rfl|rfl|rfl|rfl|rfl|rfl|rfl|rfl|rfl|rfl|rfl|rfl|rfl <;> (
  simp only[QM];refine Ja c48_ok rfl rfl λN=>?_
  repeat first
   |refine JV (JbA n 0 1000000000) ?_
   |refine JV (JbA n 0 1) ?_
   |refine Kh (gok rfl) (JbA pl 0 2500) ?_
   |refine Kh (gok rfl) hn ?_;clear hq hn;revert DW;cases nmd <;> intro DW <;> simp only[Bool.not_true,Bool.not_false]at DW
   |simp (maxSteps:=2000000) -implicitDefEqProofs only[c48,go_sem,Gv,DW]
   |rcases Gr (text == []) with t1|t1 <;> rw[t1]
   |rcases Gr (text == [35]) with t2|t2 <;> rw[t2]
   |rcases Gr (n == 0) with h0|h0 <;> rw[h0]
   |rcases Gr (inI 0 1000000000 n) with hc|hc <;> rw[hc]
   |rcases Gr (inI 0 1 n) with hc|hc <;> rw[hc]
  all_goals first|simp|simp_all)
def mD (d:List Int)(ks:List Int):Int:=ks.foldl (λa k=>mx a (d.getD k.toNat 0)) 0
theorem mx_succ (a b:Int):mx (a+1) (b+1)=mx a b+1:=by unfold mx;split <;> split <;> omega
theorem ownD_mD (d ks:List Int):ownD d ks=mD d ks+1:=by
 have key:∀(l:List Int) (a:Int),l.foldl (λa k=>mx a (d.getD k.toNat 0+1)) (a+1)=l.foldl (λa k=>mx a (d.getD k.toNat 0)) a+1:=by
  intro l
  induction l with
  |nil=>intro a;rfl
  |cons k l ih=>intro a;rw[G9,G9,mx_succ];exact ih _
 exact key ks 0
theorem mD_rng {d:List Int}{m:Int}(h:∀v∈d,1<=v/\v<=m)(hm:0<=m)(ks:List Int):0<=mD d ks/\mD d ks<=m:=by
 have:=JgT (m:=m) h hm ks 1 (by omega) (by omega);have e:=ownD_mD d ks;unfold ownD at e;omega
theorem JfD (t:Tr)(ht:t.Fit){o:List Int}(ho:Jw (JF t.nodes) []=some o):Fn Gc 50 [t.cv] (.bool (Ja9 t)):=by
 have Aj:=ht.many;refine Ja c50_ok rfl rfl λN=>?_
 simp only[c50,go_sem,Tr.cv,Tr.row];refine Jd (id:=0) (z:=2) (els:=[t.row]) rfl rfl ?_;simp only[go_sem,JY,Ky,frz,Qc];refine Jv (I:=λi:Nat=>i<=t.nodes.length/\∀v∈QF ((JF t.nodes).take i) [],v<=30) (inv:=λi=>gp [(1,.rptr t.row),(1,.slc 1 0 (iz (QF ((JF t.nodes).take i) [])).length (Jhy (iz (QF ((JF t.nodes).take i) [])))),(0,.int .i64 (i:Int))] 43)
  (hp:=λi=>[.dead,.arr 1 (iz (QF ((JF t.nodes).take i) []))]) (μ:=λi=>t.nodes.length-i) 0 [0,1] ⟨by omega,by simp[QF]⟩ rfl ?_ rfl ?_
 ·simp[forget,JB,ren,Jn,gp,QF,iz,Jhy]
 ·rintro i ⟨hi,Ak⟩;have Bq:(QF ((JF t.nodes).take i) []).length=i:=by
   rw[JcB,GJ];simp[JF];omega
  have EZ:=Jhv ((JF t.nodes).take i) [] (by intro v hv;simp at hv);by_cases Ab:i<t.nodes.length
  ·have Au:=Jf8 (Kg Ab);have IX:=XG ho (Kg Ab);have hx:=ht.nodes _ (Gd Ab);rw[<-rowg Ab]at hx;have CB:=Bq;clear Bq;have De:∀v∈QF ((JF t.nodes).take (i+1)) [],v∈QF (JF t.nodes) []:=by
    intro v hv;rw[deepF_take (by rw[Qs];omega)]at hv;exact List.mem_of_mem_take hv
   generalize hD:QF ((JF t.nodes).take i) []=d at Au CB EZ Ak|-;have d1:=dtT i t.nodes.length;simp only[go_sem,Tr.row,Jb,d1];have hg:=QT Ab;generalize t.nodes.getD i default=x at Au IX hx hg|-;have BK:=hx.kidn;have F5:∀v∈d,1<=v/\v<=i:=λv hv=>by have:=EZ v hv;omega
   refine JE (I:=λj:Nat=>j<=x.kids.length) (inv:=λj=>gp [(1,.rptr t.row),(1,.slc 1 0 (iz d).length (Jhy (iz d))),(0,.int .i64 (i:Int)),(0,.int .i64 (mD d (x.kids.take j))),(0,.int .i64 (j:Int))] 41)
    (hp:=λ_=>[.dead,.arr 1 (iz d)]) (μ:=λj=>x.kids.length-j) 0 (by omega) ?_ rfl ?_
   ·simp[forget,gp,mD,Tr.row]
   ·intro j hj;have Bz:(iz x.kids).length=x.kids.length:=Jg;by_cases Bc:j<x.kids.length
    ·have d2:=dtT j x.kids.length;have AC:x.kids.getD j 0∈x.kids:=by
      rw[Gb,Ga Bc];exact Gd Bc
     have hb:=IX _ AC;have Al:mD d (x.kids.take (j+1))=mx (mD d (x.kids.take j)) (d.getD (x.kids.getD j 0).toNat 0):=by
      have CE:x.kids.getD j 0=x.kids[j]:=by rw[Gb,Ga Bc];rfl
      unfold mD;rw[Gw Bc,List.foldl_append,CE];rfl
     have Ar:=JH Bc;generalize x.kids.getD j 0=k at hb Al Ar;have CE:=JH (l:=d) (i:=k.toNat) (by omega);have Ei:=Jg9 (m:=i) (λv hv=>by have:=F5 v hv;omega) (by omega) k.toNat;have R3:(iz d).length=d.length:=Jg;simp only[go_sem,Tr.row,Jb,hg,Nd.cv,Bz,d2,Ar,CE];refine⟨by omega,by omega,by omega,by omega,by omega,Jh,j+1,by omega,by omega,?_⟩;rw[Al];simp[forget,mx]
    ·have Co:j=x.kids.length:=by omega
     subst Co;have d2:=dfF x.kids.length x.kids.length;rw[Gj];have fQ:=mD_rng F5 (by omega) x.kids;have R3:(iz d).length=d.length:=Jg;rw[ownD_mD]at Au;have hz:iz (d++[mD d x.kids+1])=iz d++[[.int .i64 (mD d x.kids+1)]]:=Qe;have Ay:=Jf (d++[mD d x.kids+1]);generalize mD d x.kids=v at Au fQ hz Ay|-;by_cases hv:30<v+1
     ·have d3:((30:Int)<v+1)=True:=eq_true hv;have hB:Ja9 t=true:=by
       rw[Ja9,List.any_eq_true];exact⟨v+1,De _ (by rw[Au];simp),by simpa using hv⟩
      simp only[go_sem,Tr.row,Jb,hg,Nd.cv,Bz,d2,d3,Jy,hB]
      repeat' apply And.intro
      all_goals first|omega|exact Jh
     ·have d3:((30:Int)<v+1)=False:=eq_false hv;simp only[go_sem,Tr.row,Jb,hg,Nd.cv,Bz,d2,d3,Jy];refine⟨by omega,Jh,by omega,Jh,Jh,i+1,[0,3],⟨by omega,?_⟩,by omega,rfl,?_,?_⟩
      ·rw[Au];intro u hu;rcases GL.1 hu with hu|hu
       ·exact Ak u hu
       ·rw[Gz.1 hu];omega
      ·rw[Au];have hc:=Jc (ρ:=[0,3]) Ay;simp only[Kq,Gm,Gu,go_sem,Jo];rw[hz]at hc|-;rw[hc];rfl
      ·rw[Au,hz,Jbv];simp[forget,JB,ren,Jn,Jg]
  ·have Di:i=t.nodes.length:=by omega
   subst Di;have d1:=dfF t.nodes.length t.nodes.length;have hB:Ja9 t=false:=by
    rw[Ja9,<-Gy (l:=JF t.nodes) (i:=t.nodes.length) (by simp[JF]),G6];intro v hv;have:=Ak v hv;simp;omega
   rw[hB];simp only[go_sem,Tr.row,Jb,d1]
theorem Jbe {t:Tr}(h1:¬(700<t.nodes.length\/20<t.items.length))(h2:frm t=false):chk t=4:=by
 unfold chk;rw[if_neg h1,if_neg (by rw[h2];simp)]
theorem frm_none {t:Tr}(h:Jw (JF t.nodes) []=none):frm t=false:=by unfold frm;rw[h]
theorem frm_kid {t:Tr}{i:Nat}(hi:i<t.nodes.length){k:Int}(hk:k∈(t.nodes.getD i default).kids)(hb:¬(0<=k/\k<i)):frm t=false:=by
 cases h:Jw (JF t.nodes) []with
 |none=>exact frm_none h
 |some o=>exact absurd (XG h (Kg hi) k hk) hb
theorem frm_nd {t:Tr}{i:Nat}(hi:i<t.nodes.length)(hb:ndI t.nodes (t.nodes.getD i default)=false):frm t=false:=by
 unfold frm
 cases h:Jw (JF t.nodes) []with
 |none=>rfl
 |some o=>
  simp only[GD]
  right
  rw[G7];refine⟨t.nodes.getD i default,?_,by rw[hb];simp⟩;rw[Gb,Ga hi];exact Gd hi
theorem step_ord {K:List (List Int)}{i:Nat}{o ks:List Int}(ho:Jw (K.take i) []=some o)(hk:K[i]? = some ks) :
  (Jw (K.take (i+1)) []=none/\(Jfn (fs o) ks.reverse i).2=false)\/(∃f,Jw (K.take (i+1)) []=some (o++[f])/\(Jfn (fs o) ks.reverse i).2=true):=by
 obtain⟨h1,h2⟩:=Jds ho hk;have Ap:=QH _ _ _ Q3.nil ho;have h3:=JfH (fst:=fs o) Ap (λk _ _=>rfl) ks.reverse ((o.length:Int)-1) (by omega);rw[h1];unfold Jec;have e:((o.length:Int)-1+1)=(i:Int):=by omega
 rw[e]at h3
 cases h4:Xq o ks.reverse ((o.length:Int)-1) with
 |none=>rw[h4]at h3;exact .inl ⟨rfl,h3⟩
 |some b=>rw[h4]at h3;simp only at h3;exact .inr ⟨b+1,rfl,by rw[h3]⟩
theorem ndI_R (l:List Nd)(x:Nd):ndI l x=(Qa x.k x.n (lets l x) && QM (JdB x.text) x.k x.text x.n x.pl && Qf x.k x.n (lets l x)):=by
 unfold ndI;rw[node_eq];rfl
theorem refCheck (t:Tr)(ht:t.Fit):Fn Gc 26 [t.cv] (.int .i64 (chk t)):=by
 have Aj:=ht.many;have OP:=ht.items;refine Ja c26_ok rfl rfl λN=>?_
 simp -implicitDefEqProofs only[c26,go_sem,Tr.cv,Tr.row];refine Jd (id:=0) (z:=2) (els:=[t.row]) rfl rfl ?_;simp only[go_sem,JY,Ky,frz,Qc,Tr.row];refine JV (refLimits t) ?_;by_cases h1:700<t.nodes.length\/20<t.items.length
 ·have hc:chk t=5:=by unfold chk;rw[if_pos h1]
  rw[decide_eq_false (not_not_intro h1),hc];simp -implicitDefEqProofs only[go_sem]
 ·rw[decide_eq_true h1];simp -implicitDefEqProofs only[go_sem];refine JE (I:=λi:Nat=>i<=t.nodes.length/\∀j,j<i->∀k∈(t.nodes.getD j default).kids,0<=k/\k<j) (inv:=λi=>gp [(1,.rptr t.row),(1,.int .i64 (i:Int))] 123) (hp:=λ_=>[.dead]) (μ:=λi=>t.nodes.length-i) 0 ⟨by omega,by omega⟩ ?_ rfl ?_
  ·simp[forget,gp,Tr.row]
  ·rintro i ⟨hi,Fp⟩;by_cases Ab:i<t.nodes.length
   ·have d1:=dtT i t.nodes.length;have hx:=ht.nodes _ (Gd Ab);rw[<-rowg Ab]at hx;have hg:=QT Ab;have ae:=λ{k:Int} (hk:k∈(t.nodes.getD i default).kids) (hb:¬(0<=k/\k<i))=>frm_kid Ab hk hb
    have MQ:(∀k∈(t.nodes.getD i default).kids,0<=k/\k<i)->∀j,j<i+1->∀k∈(t.nodes.getD j default).kids,0<=k/\k<j:=by
     intro h j hj;by_cases e:j=i
     ·subst e;exact h
     ·exact Fp j (by omega)
    generalize t.nodes.getD i default=x at hx hg ae MQ;have BK:=hx.kidn;have Bz:(iz x.kids).length=x.kids.length:=Jg;simp -implicitDefEqProofs only[go_sem,Tr.row,Jb,d1];refine JE (I:=λj:Nat=>j<=x.kids.length/\∀k∈x.kids.take j,0<=k/\k<i) (inv:=λj=>gp [(1,.rptr t.row),(1,.int .i64 (i:Int)),(0,.int .i64 (j:Int))] 122) (hp:=λ_=>[.dead]) (μ:=λj=>x.kids.length-j) 0 ⟨by omega,by simp⟩ ?_ rfl ?_
    ·simp[forget,gp,Tr.row]
    ·rintro j ⟨hj,EO⟩;by_cases Bc:j<x.kids.length
     ·have d2:=dtT j x.kids.length;have Ar:=JH Bc;have AC:x.kids.getD j 0∈x.kids:=by
       rw[Gb,Ga Bc];exact Gd Bc
      have AO:x.kids.take (j+1)=x.kids.take j++[x.kids.getD j 0]:=by
       rw[Gw Bc,Gb,Ga Bc];rfl
      generalize x.kids.getD j 0=k at Ar AC AO;simp -implicitDefEqProofs only[go_sem,Tr.row,Jb,hg,Nd.cv,Bz,d2,Ar];refine⟨by omega,by omega,by omega,Jh,?_⟩;refine JV (JbA k 0 ((i:Int)-1)) ?_
      cases AQ:inI 0 ((i:Int)-1) k with
      |true=>
       simp only[inI,Gh,decide_eq_true_eq]at AQ;simp -implicitDefEqProofs only[go_sem];refine⟨Jh,j+1,⟨by omega,?_⟩,by omega,?_⟩
       ·rw[AO];intro u hu;rcases GL.1 hu with hu|hu
        ·exact EO u hu
        ·rw[Gz.1 hu];omega
       ·simp[forget]
      |false=>
       have hb:¬(0<=k/\k<i):=by
        simp only[inI,GD,decide_eq_false_iff_not]at AQ;omega
       rw[Jbe h1 (ae AC hb)];simp -implicitDefEqProofs only[go_sem]
     ·have Co:j=x.kids.length:=by omega
      subst Co;rw[Gj]at EO;have d2:=dfF x.kids.length x.kids.length;simp -implicitDefEqProofs only[go_sem,Tr.row,Jb,hg,Nd.cv,Bz,d2];refine⟨by omega,Jh,i+1,⟨by omega,MQ EO⟩,by omega,?_⟩;simp[forget]
   ·have Di:i=t.nodes.length:=by omega
    subst Di;have d1:=dfF t.nodes.length t.nodes.length;simp -implicitDefEqProofs only[go_sem,Tr.row,Jb,d1];refine JE (I:=λi:Nat=>i<=t.nodes.length/\(∃o,Jw ((JF t.nodes).take i) []=some o)/\∀j,j<i->ndI t.nodes (t.nodes.getD j default)=true) (inv:=λi=>gp [(1,.rptr t.row),(3,.int .i64 (i:Int))] 121) (hp:=λ_=>[.dead]) (μ:=λi=>t.nodes.length-i) 0 ⟨by omega,⟨[],by simp[Jw]⟩,by omega⟩ ?_ rfl ?_
    ·simp[forget,gp,Tr.row]
    ·rintro i ⟨hi,⟨o,ho⟩,FQ⟩;by_cases Ab:i<t.nodes.length
     ·have d1:=dtT i t.nodes.length;have hx:=ht.nodes _ (Gd Ab);rw[<-rowg Ab]at hx;have hg:=QT Ab;have EP:=Kg Ab;have BL:=Fp i Ab;have SY:=λhb=>frm_nd Ab hb
      have Mr:=ndI_R t.nodes (t.nodes.getD i default);have hS:=refSized t i Ab Aj hx (λy hy=>(ht.nodes y hy).k) (λk hk=>by have:=BL k hk;omega);have Au:=step_ord ho EP;have Cg:ndI t.nodes (t.nodes.getD i default)=true->∀j,j<i+1->ndI t.nodes (t.nodes.getD j default)=true:=by
       intro h j hj;by_cases e:j=i
       ·subst e;exact h
       ·exact FQ j (by omega)
      generalize t.nodes.getD i default=x at hx hg EP BL SY Mr hS Au Cg;have hO:=JfF t ho hi Aj x.kids (by have:=hx.kidn;omega) i (Gf _);have iN:=refKin t x hx Aj (λy hy=>(ht.nodes y hy).k) (λk hk=>by have:=BL k hk;omega);have hF:=refFields x (kindR x.text) (JdB x.text) (kindR_name x.text) (refKind x.text (by have:=hx.text;omega));simp -implicitDefEqProofs only[go_sem,Tr.row,Jb,d1];refine JW Jp (by decide) ?_;simp -implicitDefEqProofs only[go_sem,Jb,hg];refine anO ?_;simp -implicitDefEqProofs only[go_sem,Nd.cv];refine Kb (.inl rfl) hO ?_;simp -implicitDefEqProofs only[go_sem];refine JW Jp (by decide) ?_;rcases Au with ⟨s1,s2⟩|⟨f,s1,s2⟩
      ·simp -implicitDefEqProofs only[go_sem,s2];rw[Jbe h1 (frm_none (Jdt s1))]
      ·simp -implicitDefEqProofs only[go_sem,Jb,s2,hg];refine anO ?_;refine⟨by simp[Nd.cv],?_⟩;refine Kb (gok rfl) iN ?_
       cases b1:Qa x.k x.n (lets t.nodes x) with
       |false=>
        rw[b1,GG,GG]at Mr;simp -implicitDefEqProofs only[go_sem];rw[Jbe h1 (SY Mr)]
       |true=>
        simp -implicitDefEqProofs only[go_sem,Jb,hg];refine⟨by omega,by simp[Nd.cv],?_⟩;refine Kb (gok rfl) hF ?_
        cases b2:QM (JdB x.text) x.k x.text x.n x.pl with
        |false=>
         rw[b1,b2,Gp,GG]at Mr;simp -implicitDefEqProofs only[go_sem];rw[Jbe h1 (SY Mr)]
        |true=>
         simp -implicitDefEqProofs only[go_sem];refine Kb (gok rfl) hS ?_
         cases b3:Qf x.k x.n (lets t.nodes x) with
         |false=>
          rw[b1,b2,b3,Gp,Gp]at Mr;simp -implicitDefEqProofs only[go_sem];rw[Jbe h1 (SY Mr)]
         |true=>
          rw[b1,b2,b3,Gp,Gp]at Mr;simp -implicitDefEqProofs only[go_sem];refine⟨Jh,i+1,⟨by omega,⟨_,s1⟩,Cg Mr⟩,by omega,?_⟩;simp[forget]
     ·have Di:i=t.nodes.length:=by omega
      subst Di;have d1:=dfF t.nodes.length t.nodes.length;have Pm:Jw (JF t.nodes) []=some o:=by
       rw[<-Gy (l:=JF t.nodes) (i:=t.nodes.length) (by simp[JF])];exact ho
      have Ap:=QH _ _ _ Q3.nil Pm;have Bb:=QC _ _ _ Pm;simp only[Gl,Gn,Qs]at Bb;have hO:=JfF t ho (Gf _) Aj t.items (by omega) t.nodes.length (Gf _);have IL:=items_eq (fst:=fs o) (isD:=λi=>Jt t.nodes i == 65) Ap Bb (λk _ _=>rfl) t.items;have Ak:t.nodes.all (ndI t.nodes)=true:=by
       rw[Gt];intro y hy;obtain⟨j,hj⟩:=List.getElem?_of_mem hy;have Bc:=(Gi.1 hj).1;have:=FQ j Bc;rw[Gb,hj]at this;exact this
      have MH:frm t=YL o (λi=>Jt t.nodes i == 65) t.nodes.length t.items 0:=by
       unfold frm;rw[Pm];simp only[Ak,Bool.and_true]
      simp -implicitDefEqProofs only[go_sem,Tr.row,Jb,d1];refine JV hO ?_;simp -implicitDefEqProofs only[go_sem]
      cases b1:(Jfn (fs o) t.items.reverse t.nodes.length).2 with
      |false=>
       rw[Jbe h1 (by rw[MH,IL,decide_eq_false (λh=>by rw[h]at b1;cases b1)];rfl)];simp -implicitDefEqProofs only[go_sem]
      |true=>
       by_cases b2:(Jfn (fs o) t.items.reverse t.nodes.length).1=0
       ·have e2:((Jfn (fs o) t.items.reverse t.nodes.length).1 != 0)=false:=by simp[b2]
        have Rl:Jfn (fs o) t.items.reverse t.nodes.length=(0,true):=Prod.ext b2 b1;rw[Rl,decide_eq_true rfl,Gp]at IL;simp -implicitDefEqProofs only[go_sem,e2];have bY:=(Jc0 Ap Bb (fst:=fs o) (λk _ _=>rfl) t.items.reverse t.nodes.length (by omega) (by omega)).1 Rl;rw[List.reverse_reverse]at bY;have AC:=λi hi=>QG Ap rfl t.items 0 t.nodes.length (by rw[Bb];exact bY) i hi
        refine JE (I:=λi:Nat=>i<=t.items.length/\∀k∈t.items.take i,(Jt t.nodes k == 65)=true) (inv:=λi=>gp [(1,.rptr t.row),(8,.int .i64 (i:Int))] 116) (hp:=λ_=>[.dead]) (μ:=λi=>t.items.length-i) 0 ⟨by omega,by simp⟩ ?_ rfl ?_
        ·simp[forget,gp,Tr.row]
        ·rintro i ⟨hi,EZ⟩;have Af:(iz t.items).length=t.items.length:=Jg;by_cases Ab:i<t.items.length
         ·have d2:=dtT i t.items.length;have Ar:=JH Ab;have Cq:t.items.getD i 0∈t.items:=by
           rw[Gb,Ga Ab];exact Gd Ab
          have AO:t.items.take (i+1)=t.items.take i++[t.items.getD i 0]:=by
           rw[Gw Ab,Gb,Ga Ab];rfl
          generalize t.items.getD i 0=k at Ar Cq AO;have D9:=AC k Cq;have CE:=QT (l:=t.nodes) (i:=k.toNat) (by omega);have BL:Jt t.nodes k=(t.nodes.getD k.toNat default).k:=rfl;generalize t.nodes.getD k.toNat default=x at CE BL;simp -implicitDefEqProofs only[go_sem,Tr.row,Af,d2];refine JW Jp (by decide) ?_;simp -implicitDefEqProofs only[go_sem,Jb,Af,Ar];refine anO ?_;simp -implicitDefEqProofs only[go_sem,CE,Nd.cv];refine anO ?_;have q65:=Jdy 65 x.k;simp only[Gv]at q65
          cases b3:(x.k == 65) with
          |true=>
           have e3:((x.k:Int) != 65)=false:=by rw[bne,q65,b3];rfl
           simp -implicitDefEqProofs only[go_sem,e3];refine⟨Jh,i+1,⟨by omega,?_⟩,by omega,?_⟩
           ·rw[AO];intro u hu;rcases GL.1 hu with hu|hu
            ·exact EZ u hu
            ·rw[Gz.1 hu,BL];exact b3
           ·simp[forget]
          |false=>
           have e3:((x.k:Int) != 65)=true:=by rw[bne,q65,b3];rfl
           have hf:frm t=false:=by
            rw[MH,IL,G7];exact⟨k,Cq,by rw[BL,b3];simp⟩
           rw[Jbe h1 hf];simp -implicitDefEqProofs only[go_sem,e3]
         ·have Di:i=t.items.length:=by omega
          subst Di;rw[Gj]at EZ;have d2:=dfF t.items.length t.items.length;have hf:frm t=true:=by
           rw[MH,IL,Gt];exact EZ
          have hc:chk t=if Ja9 t=true then 5 else 0:=by unfold chk;rw[if_neg h1,if_pos hf]
          rw[hc];simp -implicitDefEqProofs only[go_sem,Tr.row,Af,d2];refine JV (JfD t ht Pm) ?_
          cases b4:Ja9 t with
          |true=>simp -implicitDefEqProofs only[go_sem]
          |false=>simp -implicitDefEqProofs only[go_sem]
       ·have e2:((Jfn (fs o) t.items.reverse t.nodes.length).1 != 0)=true:=by simp[b2]
        rw[Jbe h1 (by rw[MH,IL,decide_eq_false (λh=>by rw[h]at b2;exact b2 rfl)];rfl)];simp -implicitDefEqProofs only[go_sem,e2]
theorem JdG {α:Type}{l:List α}{i:Nat}{d:α}(h:i<l.length):l.take (i+1)=l.take i++[l.getD i d]:=by
 rw[Gw h,Gb,Ga h];rfl
def JcO (x:Nd):Bool:=decide (30<x.kids.length) || decide (60<x.text.length)
def vastH (t:Tr):Bool:=(decide (250<t.nodes.length) && decide (t.nodes.length<=700)) || decide (1400<t.nodes.length) || decide (40<t.items.length)
def vastT (t:Tr):Bool:=vastH t || t.nodes.any JcO
theorem row_agg5 {x:Nd}{id n:Nat}{cap:Option Nat}(hn:n=x.kids.length):wk (frz id 1 (iz x.kids) (.agg [.int .u8 x.k,S x.text,.int .i64 x.n,.slc id 0 n cap,.int .i64 x.pl])) (.agg x.cv):=by
 subst hn;have hl:(iz x.kids).length=x.kids.length:=Jg;simp only[frz,JY,if_true,Gn,hl,Gf,GM];rw[<-hl,Gj];exact Jdd ⟨wk.refl _,wk.refl _,wk.refl _,wk.rslc,wk.refl _,trivial⟩
theorem refMoved (x:Nd)(hx:x.kids.length<=1000)(d:Int)(hk:∀k∈x.kids,InR .i64 (k+d)):Fn Gc 34 [.agg x.cv,.int .i64 d] (.agg (mvN d x).cv):=by
 have Bz:(iz x.kids).length=x.kids.length:=Jg;refine Ja3 ?_ rfl rfl;refine Kc c34_ok λN=>?_
 simp only[c34,go_sem,Nd.cv];refine Jv (I:=λi:Nat=>i<=x.kids.length) (inv:=λi=>gp [(1,.int .i64 d),(0,.ptr 0 0 0),(1,.ptr 1 0 0),(0,.slc 2 0 (iz ((x.kids.take i).map (· + d))).length (Jhy (iz ((x.kids.take i).map (· + d))))),(0,.int .i64 (i:Int))] 21)
  (hp:=λi=>[.arr 5 [x.cv],.arr 5 [[.int .u8 0,S [],.int .i64 0,.nils,.int .i64 0]],.arr 1 (iz ((x.kids.take i).map (· + d)))]) (μ:=λi=>x.kids.length-i) 0 [0,1,2] (by omega) rfl ?_ rfl ?_
 ·simp[forget,JB,ren,Jn,gp,iz,Jhy]
 ·intro i hi;by_cases Ab:i<x.kids.length
  ·have d1:=dtT i x.kids.length;have Ar:=JH Ab;have AO:(x.kids.take (i+1)).map (· + d)=(x.kids.take i).map (· + d)++[x.kids.getD i 0+d]:=by
    rw[JdG (d:=0) Ab,List.map_append];rfl
   have Bb:((x.kids.take i).map (· + d)).length=i:=by simp;omega
   have AC:x.kids.getD i 0∈x.kids:=by
    rw[Gb,Ga Ab];exact Gd Ab
   have AQ:=hk _ AC;generalize x.kids.getD i 0=k at Ar AO AQ;generalize (x.kids.take i).map (· + d)=L at AO Bb|-;have dA:(iz L).length=L.length:=Jg;have hz:iz (L++[k+d])=iz L++[[.int .i64 (k+d)]]:=Qe;simp only[go_sem,Nd.cv,Bz,d1,Ar,Jy];refine⟨by omega,AQ,by omega,Jh,i+1,[0,1,4],by omega,by omega,rfl,?_,?_⟩
   ·have hc:=Jc (ρ:=[0,1,4]) (Jf (L++[k+d]));rw[hz]at hc;rw[AO,hz];simp only[Kq,Gm,Gu,go_sem,Jo,hc];rfl
   ·rw[AO,hz,Jbv];simp[forget,JB,ren,Jn]
  ·have Di:i=x.kids.length:=by omega
   subst Di;have d1:=dfF x.kids.length x.kids.length;rw[Gj];simp only[go_sem,Nd.cv,Bz,d1,splice];exact .inr ⟨2,1,iz (x.kids.map (· + d)),rfl,Jf _,row_agg5 (x:=mvN d x) (by simp[Jg,mvN])⟩
theorem row_aggT {z:Nat}{els:List (List CV)}{id n:Nat}{cap:Option Nat}{y:CV}(hy:y.closed=true)(hn:n=els.length):wk (frz id z els (.agg [.slc id 0 n cap,y])) (.agg [.rslc z els none,y]):=by
 subst hn;simp only[frz,JY,if_true,Gn,Gf,GM,Gj,XP y hy];exact Jdd ⟨wk.rslc,wk.refl _,trivial⟩
theorem refCopy (t:Tr)(ht:t.Fit):Fn Gc 14 [t.cv] t.cv:=by
 have Aj:=ht.many;have OP:=ht.items;have Af:(iz t.items).length=t.items.length:=Jg;have I1:=Jf t.items;refine Ja3 ?_ rfl rfl;refine Kc c14_ok λN=>?_
 obtain⟨R,hR⟩:∃R,R=iz t.items:=⟨_,rfl⟩;simp only[Tr.cv,Tr.row];rw[<-hR]at I1 Af|-
 cases R with
 |nil=>
  simp only[c14,go_sem];refine Jd (id:=0) (z:=2) (els:=[[.rslc 5 (ndz t.nodes) none,.rslc 1 [] none]]) rfl rfl ?_;simp only[go_sem,JY,Ky,frz,Qc];refine Jd (id:=2) (z:=1) (els:=[]) rfl rfl ?_;simp only[go_sem,JY,Ky,frz,Qc];refine Yn ?_;simp only[go_sem,GK,G8];refine Jv (I:=λi:Nat=>i<=t.nodes.length) (inv:=λi=>gp [(1,.rptr [.rslc 5 (ndz t.nodes) none,.rslc 1 [] none]),(0,.ptr 1 0 0),(0,.ptr 2 0 0),(0,.int .i64 (i:Int))] 24) (hp:=λi=>[.dead,.arr 2 [[.nils,.nils]],.arr 2 [[Qg 3 (ndz (t.nodes.take i)),.rslc 1 [] none]],Q7 5 (ndz (t.nodes.take i))]) (μ:=λi=>t.nodes.length-i) 0 [0,1,3,4] (by omega) rfl ?_ ?_ ?_
  ·simp[forget,JB,ren,Jn,gp]
  ·rfl
  ·intro i hi;by_cases Ab:i<t.nodes.length
   ·have d1:=dtT i t.nodes.length;have hg:=QT Ab;have hx:=ht.nodes _ (Gd Ab);rw[<-rowg Ab]at hx;have AO:ndz (t.nodes.take (i+1))=ndz (t.nodes.take i)++[(t.nodes.getD i default).cv]:=by
     rw[JdG (d:=default) Ab];simp[ndz]
    have Ay:=Q0 (t.nodes.take (i+1));have FL:(ndz (t.nodes.take i)).length=i:=by rw[Jb,GJ];omega
    generalize t.nodes.getD i default=x at hg hx AO;generalize ndz (t.nodes.take i)=Z at AO FL|-;have hM:=refMoved x (by have:=hx.kidn;omega) 0 (λk hk=>by rw[GR];exact hx.kids k hk);have U8:mvN 0 x=x:=by
     obtain⟨k,te,n,ks,p⟩:=x;simp[mvN]
    rw[U8]at hM;simp only[go_sem,Jb,d1];refine Jad [false,true,false,false,false,false,false,false,false,true,false,true] Jp (by decide +kernel) ?_;simp only[go_sem,Jb,hg];refine⟨by omega,by simp[Nd.cv],?_⟩;refine vh_f hM ?_;simp only[go_sem];refine vh_row [x.cv] rfl rfl rfl rfl ?_;simp only[go_sem,Jy,splice,Gg,Gl];refine⟨by omega,Jh,i+1,[0,1,2,4],by omega,by omega,rfl,?_,?_⟩
    ·rw[AO]at Ay;have hc:=Jc (ρ:=[0,1,2,4]) Ay;rw[AO,Kz,KA];simp only[Kq,Gm,Gu,go_sem,Jo,hc];rfl
    ·simp[forget,JB,ren,Jn]
   ·have Di:i=t.nodes.length:=by omega
    subst Di;have d1:=dfF t.nodes.length t.nodes.length;rw[Gj];have Rq:=Q0 t.nodes
    cases hN:ndz t.nodes with
    |nil=>
     have Dh:(([]:List (List CV)).length:Int)=t.nodes.length:=by rw[<-hN,Jb]
     simp only[Gl]at Dh;simp only[go_sem,XV,Jah,Gl,Dh,d1,splice];exact .inl (Jdd ⟨wk.nils,wk.refl _,trivial⟩)
    |cons f fs=>
     have Dh:((fs.length+1:Nat):Int)=t.nodes.length:=by rw[<-Gg,<-hN,Jb]
     rw[YP (by simp),Yp (by simp)];simp only[go_sem,Gg,Dh,d1,splice];rw[hN]at Rq;exact .inr ⟨3,5,f::fs,rfl,Rq,row_aggT rfl rfl⟩
 |cons e es=>
  have Em:es.length+1<=40:=by have:=Af;simp only[Gg]at this;omega
  simp only[c14,go_sem,Jy,Gg];refine anO ?_;refine Jd (id:=3) (z:=1) (els:=e::es) rfl I1 ?_;simp only[go_sem,JY,Ky,frz,Qc,Gg,GM,Gy (l:=e::es) (i:=es.length+1) (Gf _)];refine Jd (id:=0) (z:=2) (els:=[[.rslc 5 (ndz t.nodes) none,.rslc 1 (e::es) none]]) rfl rfl ?_;simp only[go_sem,JY,Ky,frz,Qc];refine Yn ?_;simp only[go_sem,GK,G8];refine Jv (I:=λi:Nat=>i<=t.nodes.length) (inv:=λi=>gp [(1,.rptr [.rslc 5 (ndz t.nodes) none,.rslc 1 (e::es) none]),(0,.ptr 1 0 0),(0,.ptr 2 0 0),(0,.int .i64 (i:Int))] 24) (hp:=λi=>[.dead,.arr 2 [[.nils,.nils]],.arr 2 [[Qg 3 (ndz (t.nodes.take i)),.rslc 1 (e::es) none]],Q7 5 (ndz (t.nodes.take i))]) (μ:=λi=>t.nodes.length-i) 0 [0,1,4,5] (by omega) rfl ?_ ?_ ?_
  ·simp[forget,JB,ren,Jn,gp]
  ·rfl
  ·intro i hi;by_cases Ab:i<t.nodes.length
   ·have d1:=dtT i t.nodes.length;have hg:=QT Ab;have hx:=ht.nodes _ (Gd Ab);rw[<-rowg Ab]at hx;have AO:ndz (t.nodes.take (i+1))=ndz (t.nodes.take i)++[(t.nodes.getD i default).cv]:=by
     rw[JdG (d:=default) Ab];simp[ndz]
    have Ay:=Q0 (t.nodes.take (i+1));have FL:(ndz (t.nodes.take i)).length=i:=by rw[Jb,GJ];omega
    generalize t.nodes.getD i default=x at hg hx AO;generalize ndz (t.nodes.take i)=Z at AO FL|-;have hM:=refMoved x (by have:=hx.kidn;omega) 0 (λk hk=>by rw[GR];exact hx.kids k hk);have U8:mvN 0 x=x:=by
     obtain⟨k,te,n,ks,p⟩:=x;simp[mvN]
    rw[U8]at hM;simp only[go_sem,Jb,d1];refine Jad [false,true,false,false,false,false,false,false,false,true,false,true] Jp (by decide +kernel) ?_;simp only[go_sem,Jb,hg];refine⟨by omega,by simp[Nd.cv],?_⟩;refine vh_f hM ?_;simp only[go_sem];refine vh_row [x.cv] rfl rfl rfl rfl ?_;simp only[go_sem,Jy,splice,Gg,Gl];refine⟨by omega,Jh,i+1,[0,1,2,4],by omega,by omega,rfl,?_,?_⟩
    ·rw[AO]at Ay;have hc:=Jc (ρ:=[0,1,2,4]) Ay;rw[AO,Kz,KA];simp only[Kq,Gm,Gu,go_sem,Jo,hc];rfl
    ·simp[forget,JB,ren,Jn]
   ·have Di:i=t.nodes.length:=by omega
    subst Di;have d1:=dfF t.nodes.length t.nodes.length;rw[Gj];have Rq:=Q0 t.nodes
    cases hN:ndz t.nodes with
    |nil=>
     have Dh:(([]:List (List CV)).length:Int)=t.nodes.length:=by rw[<-hN,Jb]
     simp only[Gl]at Dh;simp only[go_sem,XV,Jah,Gl,Dh,d1,splice];exact .inl (Jdd ⟨wk.nils,wk.refl _,trivial⟩)
    |cons f fs=>
     have Dh:((fs.length+1:Nat):Int)=t.nodes.length:=by rw[<-Gg,<-hN,Jb]
     rw[YP (by simp),Yp (by simp)];simp only[go_sem,Gg,Dh,d1,splice];rw[hN]at Rq;exact .inr ⟨3,5,f::fs,rfl,Rq,row_aggT rfl rfl⟩
end Go.Cm
end
section
namespace Go.Cm
structure Nd.Ty (x:Nd):Prop where
 k:x.k<256
 n:InR .i64 x.n
 kids:∀i∈x.kids,InR .i64 i
 pl:InR .i64 x.pl
structure Tr.Ty (t:Tr):Prop where
 nodes:∀x∈t.nodes,x.Ty
 items:∀i∈t.items,InR .i64 i
theorem Tr.Ty.fit {t:Tr}(h:t.Ty)(hv:vastT t=false):t.Fit:=by
 unfold vastT vastH at hv;simp only[GU,GD,decide_eq_false_iff_not,G6]at hv;obtain⟨⟨⟨_,h2⟩,h3⟩,h4⟩:=hv;refine⟨by omega,by omega,λx hx=>?_,h.items⟩;have hn:=h4 x hx;unfold JcO at hn;simp only[GV,GU,decide_eq_false_iff_not]at hn;have ty:=h.nodes x hx;exact⟨ty.k,by omega,ty.n,by omega,ty.kids,ty.pl⟩
end Go.Cm
end
section
set_option maxRecDepth 100000
set_option maxHeartbeats 4000000
open Go.Proofs
namespace Go.Cm
theorem indexI (l:List Int)(x:Int)(hl:l.length<=100000):Fn Gc 118 [.rslc 1 (iz l) none,.int .i64 x] (.int .i64 (Xk (λy=>x == y) l 0)):=by
 have Af:(iz l).length=l.length:=Jg;refine Ja c118_ok rfl rfl λN=>?_
 simp only[c118,go_sem,Af];refine JE (I:=λi:Nat=>i<=l.length/\Xk (λy=>x == y) l 0=Xk (λy=>x == y) (l.drop i) i) (inv:=λi=>gp [(0,.rslc 1 (iz l) none),(0,.int .i64 x),(5,.int .i64 (l.length:Int)),(0,.int .i64 (i:Int))] 10) (hp:=λ_=>[]) (μ:=λi=>l.length-i) 0 ⟨by omega,rfl⟩ ?_ rfl ?_
 ·simp[forget,gp]
 ·rintro i ⟨hi,Aa⟩;by_cases Ab:i<l.length
  ·have d1:=dtT i l.length;have Ar:=JH Ab;have Cb:l[i]? = some (l.getD i 0):=by rw[Gb,Ga Ab];rfl
   rw[QX Cb]at Aa;simp only[go_sem,Af,d1,Ar];generalize l.getD i 0=y at Aa|-;refine anO ?_
   cases he:(x == y) with
   |true=>
    rw[he,if_pos rfl]at Aa;simp only[go_sem,Aa]
   |false=>
    rw[he]at Aa;simp only[go_sem];refine⟨Jh,i+1,⟨by omega,by simpa using Aa⟩,by omega,?_⟩;simp[forget]
  ·have d1:=dfF i l.length;rw[GI (by omega)]at Aa;simp only[go_sem,d1,Aa,Xk]
theorem containsI (l:List Int)(x:Int)(hl:l.length<=100000):Fn Gc 90 [.rslc 1 (iz l) none,.int .i64 x] (.bool (l.contains x)):=by
 refine Ja c90_ok rfl rfl λN=>?_
 simp only[c90,go_sem];refine JV (indexI l x hl) ?_;have e:decide (0<=Xk (λy=>x == y) l 0)=l.contains x:=by rw[Jav,List.contains_eq_any_beq]
 simp only[go_sem,e]
theorem fixA_skip {α:Type}{q:α->Bool}{l:List α}:∀(n:Nat),n<=l.length->(∀j (h:j<l.length),j<n->q l[j]=false)->Xk q l 0=Xk q (l.drop n) n
 |0,_,_=>rfl
 |n+1,h,hq=>by
  rw[fixA_skip n (by omega) λj hj hn=>hq j hj (by omega),QX (Ga (by omega:n<l.length)),hq n (by omega) (by omega)];simp
theorem refParent (t:Tr)(ht:t.Fit){o:List Int}(g:GoodT t o)(n:Nat)(hn:n<t.nodes.length):Fn Gc 53 [t.cv,.int .i64 n] (.int .i64 (Xk (λx:Nd=>x.kids.contains (n:Int)) t.nodes 0)):=by
 have Aj:=ht.many;refine Ja c53_ok rfl rfl λN=>?_
 simp only[c53,go_sem,Tr.cv,Tr.row];refine⟨Jh,?_⟩;refine Jd (id:=0) (z:=2) (els:=[t.row]) rfl rfl ?_;simp only[go_sem,JY,Ky,frz,Qc,Tr.row];have PY:Xk (λx:Nd=>x.kids.contains (n:Int)) t.nodes 0=Xk (λx:Nd=>x.kids.contains (n:Int)) (t.nodes.drop (n+1)) (n+1):=by
  refine fixA_skip (n+1) (by omega) λj hj M3=>?_
  rw[<-GV,List.contains_iff_mem];intro hm;have:=g.kid hj (k:=n) (by rw[rowg hj];exact hm);omega
 refine JE (I:=λi:Nat=>i<=t.nodes.length/\Xk (λx:Nd=>x.kids.contains (n:Int)) t.nodes 0=Xk (λx:Nd=>x.kids.contains (n:Int)) (t.nodes.drop i) i) (inv:=λi=>gp [(1,.int .i64 (n:Int)),(0,.rptr t.row),(2,.int .i64 (i:Int))] 33) (hp:=λ_=>[.dead]) (μ:=λi=>t.nodes.length-i) (n+1) ⟨by omega,PY⟩ ?_ rfl ?_
 ·simp[forget,gp,Tr.row]
 ·rintro i ⟨hi,Aa⟩;by_cases Ab:i<t.nodes.length
  ·have d1:=dtT i t.nodes.length;have hg:=QT Ab;have hx:=ht.nodes _ (Gd Ab);rw[<-rowg Ab]at hx;have Cb:t.nodes[i]? = some (t.nodes.getD i default):=by rw[Gb,Ga Ab];rfl
   rw[QX Cb]at Aa;generalize t.nodes.getD i default=x at hg Aa hx;have BK:=hx.kidn;have Bz:(iz x.kids).length=x.kids.length:=Jg;simp only[go_sem,Tr.row,Jb,d1];refine JE (I:=λj:Nat=>j<=x.kids.length/\x.kids.contains (n:Int)=(x.kids.drop j).contains (n:Int)) (inv:=λj=>gp [(1,.int .i64 (n:Int)),(0,.rptr t.row),(2,.int .i64 (i:Int)),(0,.int .i64 (j:Int))] 32) (hp:=λ_=>[.dead]) (μ:=λj=>x.kids.length-j) 0 ⟨by omega,rfl⟩ ?_ rfl ?_
   ·simp[forget,gp,Tr.row]
   ·rintro j ⟨hj,EQ⟩;by_cases Bc:j<x.kids.length
    ·have d2:=dtT j x.kids.length;have Ar:=JH Bc;rw[GY Bc,List.contains_cons,show x.kids[j]=x.kids.getD j 0 by rw[Gb,Ga Bc];rfl]at EQ;generalize x.kids.getD j 0=k at Ar EQ;have Io:(k == (n:Int))=((n:Int) == k):=by rw[GX,beq_iff_eq,beq_iff_eq];exact eq_comm
     cases he:(k == (n:Int)) with
     |true=>
      rw[<-Io,he,Bool.true_or]at EQ;rw[EQ,if_pos rfl]at Aa;simp only[go_sem,Tr.row,Jb,hg,Nd.cv,Bz,d2,Ar,he,Aa];omega
     |false=>
      rw[<-Io,he,Bool.false_or]at EQ;simp only[go_sem,Tr.row,Jb,hg,Nd.cv,Bz,d2,Ar,he];refine⟨by omega,by omega,by omega,Jh,j+1,⟨by omega,EQ⟩,by omega,?_⟩;simp[forget]
    ·have d2:=dfF j x.kids.length;rw[GI (by omega)]at EQ;rw[EQ]at Aa;simp only[go_sem,Tr.row,Jb,hg,Nd.cv,Bz,d2];refine⟨by omega,Jh,i+1,⟨by omega,by simpa using Aa⟩,by omega,?_⟩;simp[forget]
  ·have d1:=dfF i t.nodes.length;rw[GI (by omega)]at Aa;simp only[go_sem,Tr.row,Jb,d1,Aa,Xk]
theorem ord_take {t:Tr}{o:List Int}(g:GoodT t o):Jw ((JF t.nodes).take t.nodes.length) []=some o:=by
 rw[Gy (by rw[Qs];exact Gf _)];exact g.ord.h
theorem refIsBelow (t:Tr)(ht:t.Fit){o:List Int}(g:GoodT t o)(a:Int)(i:Nat)(hi:i<t.nodes.length):Fn Gc 69 [t.cv,.int .i64 a,.int .i64 i] (.bool (decide (a<=i) && decide (fs o i<=a))):=by
 refine Ja c69_ok rfl rfl λN=>?_
 by_cases h:a<=(i:Int)
 ·have d1:(a<=(i:Int))=True:=eq_true h;simp only[c69,go_sem,Tr.cv,Tr.row,d1];refine Kh (gok rfl) (refFirst t (ord_take g) (Gf _) i hi) ?_;simp only[go_sem]
 ·have d1:(a<=(i:Int))=False:=eq_false h;simp only[c69,go_sem,Tr.cv,Tr.row,d1]
def kid (x:Nd)(i:Nat):Int:=x.kids.getD i 0
end Go.Cm
end
section
namespace Go.Cm
section
def flat (o:CObj):Prop:=o=.dead\/∃z els,o=.arr z els/\Jq els=true
section
variable {P:Program}{E:Env}{H:List CObj}
theorem Jdb {α:Type}{a b:List α}{k:Nat}{x:α}(h:(a++b)[k]? = some x):(k<a.length/\a[k]? = some x)\/∃j,k=a.length+j/\b[j]? = some x:=by
 rcases GA k a.length with Ab|Cb
 ·rw[Gx Ab]at h;exact .inl ⟨Ab,h⟩
 ·rw[GH Cb]at h;exact .inr ⟨k-a.length,by omega,h⟩
theorem app_get2 {α:Type}{a b:List α}{j:Nat}:(a++b)[a.length+j]? = b[j]?:=by
 rw[GH (by omega)];congr 1;omega
theorem CallsC.frameG {f:Nat}{args:List CV}{G:List CObj}{mk:Nat->CV}(h:CallsC P Env.none f args [] λv H'=>v=mk 0/\H'=G)(ha:Jm args=true)(hG:∀o∈G,flat o)
  (MW:∀(n:Nat) (own own':List Own) imm r,(∀(k:Nat) x,own[k]? = some x->own'[n+k]? = some x)->rel own imm (mk 0) r->rel own' imm (mk n) r):CallsC P E f args H λv H'=>v=mk H.length/\H'=H++G:=by
 intro m w vs hs hv;refine(h _ w vs hs.nothing (KO _ _ ha hv)).mono ?_;rintro e w' ⟨r,m',v,H',rfl,Ae,Az,Ao,rfl,rfl⟩;obtain⟨h1,h2⟩:=hs.back Ae Az;have BJ:∀B,¬owned { own:=[],imm:=m.imm,ext:=λ_=>False } [] B:=by
  rintro B (h|⟨k,o,x,hk,_⟩)
  ·exact h
  ·simp at hk
 have Ad:m.own.length=H.length:=hs.len;have IB:∀(k:Nat) o x,H[k]? = some o->o.alive=true->m.own[k]? = some x->x.B<w.heap.size:=λk o x hk Am hx=>Yf hs hk Am hx
 have Fg:∀(k:Nat) o x,H'[k]? = some o->o.alive=true->m'.own[k]? = some x->w.heap.size<=x.B:=λk o x hk Am hx=>
  (Ae.newOwn x.B (.inr ⟨k,o,x,hk,Am,hx,rfl⟩)).resolve_left (BJ _)
 have two:∀(k:Nat) o x,(H++H')[k]? = some o->(m.own++m'.own)[k]? = some x->(k<H.length/\H[k]? = some o/\m.own[k]? = some x)\/∃j,k=H.length+j/\H'[j]? = some o/\m'.own[j]? = some x:=by
  intro k o x hk hx;rcases Jdb hk with ⟨Ab,Av⟩|⟨j,rfl,Av⟩
  ·rw[Gx (by omega)]at hx;exact .inl ⟨Ab,Av,hx⟩
  ·rw[<-Ad,app_get2]at hx;exact .inr ⟨j,rfl,Av,hx⟩
 have A9:=KN.append m.own m'.own;refine⟨r,{ m with own:=m.own++m'.own,imm:=m'.imm },mk H.length,H++H',rfl,?_,?_,?_,rfl,rfl⟩
 ·have hE:=h2 H.length;refine⟨hE.size,hE.frame,hE.imm,?_,hE.newImm,λk x _ hx=>A9 _ _ hx,λh=>by simp;omega,hE.same⟩;rintro B (hB|⟨k,o,x,hk,Am,hx,rfl⟩)
  ·exact .inl (.inl hB)
  ·rcases two k o x hk hx with ⟨_,hk,hx⟩|⟨j,_,hk,hx⟩
   ·exact .inl (.inr ⟨k,o,x,hk,Am,hx,rfl⟩)
   ·exact .inr (Fg j o x hk Am hx)
 ·refine⟨by simp[hs.len,Az.len],λk o x hk hx=>?_,h1.imm,h1.one,λk k' o o' x x' hk AA ha AX hx Aq hB=>?_,λk o x hk Am hx=>?_,λk s b hk=>?_,λk o x hk Am hx=>?_,h1.extlt,h1.gl⟩
  ·rcases two k o x hk hx with ⟨_,hk,hx⟩|⟨j,_,hk,hx⟩
   ·exact KD A9 (Kw.refl _) (λ_=>rfl) (h1.obj k o x hk hx)
   ·have ho:=Az.obj j o x hk hx;rcases hG o (Gs hk) with rfl|⟨z,els,rfl,hc⟩
    ·trivial
    ·obtain⟨hz,c,elem,g1,g2,g3,g4,g5⟩:=ho;exact⟨hz,c,elem,g1,g2,g3,λj e he=>⟨(g4 j e he).1,λt c Dj=>let ⟨r,q1,q2⟩:=(g4 j e he).2 t c Dj;⟨r,q1,Qi c r (Yx (Yi hc _ _ he) _ _ Dj) q2⟩⟩,g5⟩
  ·rcases two k o x hk hx with ⟨_,hk,hx⟩|⟨j,rfl,hk,hx⟩ <;> rcases two k' o' x' AA Aq with ⟨_,AA,Aq⟩|⟨j',rfl,AA,Aq⟩
   ·exact h1.sep k k' o o' x x' hk AA ha AX hx Aq hB
   ·have a1:=IB k o x hk ha hx;have a2:=Fg j' o' x' AA AX Aq;omega
   ·have a1:=IB k' o' x' AA AX Aq;have a2:=Fg j o x hk ha hx;omega
   ·rw[Az.sep j j' o o' x x' hk AA ha AX hx Aq hB]
  ·rcases two k o x hk hx with ⟨_,hk,hx⟩|⟨j,rfl,hk,hx⟩
   ·exact h1.ro k o x hk Am hx
   ·exact Az.ro j o x hk Am hx
  ·rcases Jdb hk with ⟨_,Av⟩|⟨j,rfl,Av⟩
   ·exact h1.ext k s b Av
   ·rcases hG _ (Gs Av) with h|⟨z,els,h,_⟩ <;> cases h
  ·rcases two k o x hk hx with ⟨_,hk,hx⟩|⟨j,rfl,hk,hx⟩
   ·exact h1.extsep k o x hk Am hx
   ·intro hB;have a1:=Fg j o x hk Am hx;have a2:=hs.extlt x.B hB;omega
 ·exact MW H.length m'.own (m.own++m'.own) m'.imm r (λk x hk=>by rw[<-Ad,app_get2];exact hk) Ao
theorem JO {id z:Nat}{e:List (List CV)}:∀{els:List (List CV)},Jq els=true->els.map (JY id z e)=els
 |[],_=>rfl
 |x::xs,h=>by
  simp only[Jq,Gh]at h;rw[Gm,QB _ h.1,JO h.2]
theorem Fn.args {f:Nat}{args args':List CV}{v:CV}(h:Fn P f args v)(hw:wks args' args):Fn P f args' v:=λE H m w vs hs hv=>h E H m w vs hs (Jac hw hv)
theorem rowV_shift {els:List (List CV)}(i n:Nat){own own':List Own}{imm:Nat->Nat->Option Value}{r:Value}(ho:∀(k:Nat) x,own[k]? = some x->own'[n+k]? = some x)(h:rel own imm (Qg i els) r):rel own' imm (Qg (n+i) els) r:=by
 cases els with
 |nil=>exact h
 |cons e l=>
  simp only[Qg,rel]at h|-;obtain⟨x,a,c,hx,g⟩:=h;exact⟨x,a,c,ho _ _ hx,g⟩
theorem rowO_flat {z:Nat}{els:List (List CV)}(h:Jq els=true):flat (Q7 z els):=by
 cases els with
 |nil=>exact .inl rfl
 |cons e l=>exact .inr ⟨_,_,rfl,h⟩
theorem rowV_one {id:Nat}{els:List (List CV)}:(Qg id els).oneCell=true:=by cases els <;> rfl
attribute [go_sem ↓] rowV_one
theorem Jct {id z j:Nat}{e els:List (List CV)}(h:j≠id):frz id z e (Qg j els)=Qg j els:=by
 cases els with
 |nil=>rfl
 |cons x l=>simp only[Qg,frz];rw[if_neg h]
theorem Ja2 {id z y:Nat}{e els:List (List CV)}(h:Jq els=true):Qc id z e (Q7 y els)=Q7 y els:=by
 cases els with
 |nil=>rfl
 |cons x l=>simp only[Q7,Qc];rw[JO h]
inductive Frzs (v0:CV):CV->List CObj->Prop
 |done {v:CV} {H:List CObj}:wk v v0->Frzs v0 v H
 |step {v:CV} {H:List CObj} (id z:Nat) (els:List (List CV)):H[id]? = some (.arr z els)->Jq els=true->Frzs v0 (frz id z els v) (Ky id z els H)->Frzs v0 v H
theorem Y7 {f:Nat}{args:List CV}{v0:CV}(h:CallsC P Env.none f args [] λv H'=>Frzs v0 v H')(ha:Jm args=true)(hv:v0.closed=true):Fn P f args v0:=by
 refine Jhf ?_ ha hv;intro m w vs hs BI;refine(h m w vs hs BI).mono ?_;rintro e w' ⟨r,m',v,H',h1,h2,h3,h4,g⟩;subst h1
 induction g generalizing m' with
 |done hw=>exact⟨r,m',v0,_,rfl,h2,h3,hw _ _ _ h4,rfl⟩
 |step id z els g1 g2 _ ih=>
  obtain⟨imm',Az,he,hf⟩:=Sim.freeze (n0:=([]:List CObj).length) h3 g1 g2;exact ih _ (h2.trans he) Az (hf _ _ h4)
def JdC (P:Program)(f:Nat)(args:List CV)(z:Nat)(els:List (List CV)):Prop:=∀(E:Env) (H:List CObj),CallsC P E f args H λv H'=>v=Qg H.length els/\H'=H++[Q7 z els]
theorem JdW {f:Nat}{args:List CV}{z:Nat}{els:List (List CV)}(h:CallsC P Env.none f args [] λv H'=>∃id,v=Qg id els/\H'[id]? = some (Q7 z els))(ha:Jm args=true)(hc:Jq els=true):JdC P f args z els:=λE H=>by
 refine CallsC.frameG (mk:=λn=>Qg n els) (G:=[Q7 z els]) (h.ren λv H' ⟨id,hv,hH⟩=>⟨[id],?_,?_,?_⟩) ha (λo ho=>by simp only[Gz]at ho;rw[ho];exact rowO_flat hc) λn own own' imm r ho h=>rowV_shift 0 n ho h
 ·have:=(Gi.1 hH).1;simp[Jdx,this]
 ·rw[hv];exact Qx (by simp[ren,Jn])
 ·simp only[Kq,Gm,Gu,Gb,hH,Option.getD_some]
  cases els with
  |nil=>rfl
  |cons e l=>
   have:=Jc (ρ:=[id]) hc;simp only[Q7,Jo,this]
theorem JdC.fn {f:Nat}{args:List CV}{z:Nat}{els:List (List CV)}(h:JdC P f args z els)(ha:Jm args=true)(hc:Jq els=true):Fn P f args (.rslc z els none):=
 Jf0 ((h Env.none []).mono λv H' ⟨h1,h2⟩=>⟨0,h1,by rw[h2];rfl⟩) ha hc
end
section
variable {P:Program}{E:Env}{n0:Nat}{N:Fr}{Q:Exit->List CV->List CObj->Prop}{H:List CObj}{T:List CV}{k:List KItem}{l:List IOper}{es:List (List Nat)}
theorem Jfs {d:Option Nat}{g:Option (Nat×Bool)}{f:Nat}{xa:List IArg}{l:List IOper}{z:Nat}{els:List (List CV)}(hg:GOk T g)(Ah:JdC P f (xa.map (Ka T)) z els)(h:Ko P E n0 N Q (.ops l::k) (put T d (Qg H.length els)) (H++[Q7 z els])):Ok P E n0 N Q (.ops (⟨d,.call f xa,g⟩::l)::k) T H:=
 Km hg (Ah E H) λv H' ⟨h1,h2⟩=>by rw[h1,h2];exact h
def Jfh (P:Program)(E:Env)(n0:Nat)(N:Fr)(Q:Exit->List CV->List CObj->Prop)(k:List KItem)(l:List IOper)(es:List (List Nat))(T:List CV)(H:List CObj):Prop:=∀is,Sched l.length es (λ_=>false) is->Ok P E n0 N Q (.ops (is.map (Xb l))::k) T H
theorem Jgl (hm:P.follows .mixedOrders=true)(h:Jfh P E n0 N Q k l es T H):Ok P E n0 N Q (.code (.dreg l es)::k) T H:=ok_draw hm h
theorem JcA (i j:Nat)(hb:(!(i == j) && decide (i<es.length) && decide (j<es.length))=true)(h1:Jfh P E n0 N Q k l (Jb6 es j i) T H)(h2:Jfh P E n0 N Q k l (Jb6 es i j) T H):Jfh P E n0 N Q k l es T H:=by
 intro is hs;simp only[Gh,Bool.not_eq_true',beq_eq_false_iff_ne,decide_eq_true_eq]at hb;rcases sched_pair hb.1.1 hb.1.2 hb.2 hs rfl rfl with h|h
 ·exact h1 is h
 ·exact h2 is h
theorem X8 (bs:List Bool)(T':List CV)(H':List CObj)(AP:(l.length == bs.length && (Jbd l.length es (clo es) && Ql l (clo es) (bs.map Q4)))=true)(AL:Ok P E n0 N Q k T' H')(h:vdk P E (leads P E n0 N Q T' H') l bs T H):Jfh P E n0 N Q k l es T H:=
 λ_ hs=>sched_run AP h AL hs
def pm (p:List Nat)(a:Nat):Nat:=p.getD a a
theorem pm_out {p:List Nat}{a:Nat}(h:p.length<=a):pm p a=a:=by
 unfold pm;rw[Gb,List.getElem?_eq_none h];rfl
def Jdp (n:Nat)(p q:List Nat):Bool:=p.length == n && q.length == n && (List.range n).all λa=>decide (pm p a<n) && decide (pm q a<n) && pm q (pm p a) == a && pm p (pm q a) == a
theorem sched_perm {n:Nat}{p q:List Nat}(hb:Jdp n p q=true){es2:List (List Nat)}(he:∀a,a<n->es2.getD a []=(es.getD (pm p a) []).map (pm q)){S:Nat->Bool}{is:List Nat}(h:Sched n es S is):Sched n es2 (λa=>S (pm p a)) (is.map (pm q)):=by
 simp only[Jdp,Gh,beq_iff_eq,Gt,Ha,decide_eq_true_eq]at hb;obtain⟨⟨FL,Ri⟩,Ak⟩:=hb;have Iy:∀a,pm p (pm q a)=a:=λa=>by
  rcases GA a n with h|h
  ·exact(Ak a h).2
  ·rw[pm_out (p:=q) (by omega),pm_out (by omega)]
 have fD:∀a,pm q (pm p a)=a:=λa=>by
  rcases GA a n with h|h
  ·exact(Ak a h).1.2
  ·rw[pm_out (p:=p) (by omega),pm_out (by omega)]
 induction h with
 |nil hn=>
  refine .nil λa ha hS=>?_
  obtain⟨e,h1,h2⟩:=hn _ (Ak a ha).1.1.1 hS;exact⟨pm q e,by rw[he a ha];exact List.mem_map_of_mem h1,by rw[Iy];exact h2⟩
 |cons ha hS hr _ ih=>
  rename_i S a is _;refine .cons (Ak a ha).1.1.2 (by rw[Iy];exact hS) (λe hm=>?_) ?_
  ·rw[he _ (Ak a ha).1.1.2,Iy]at hm;obtain⟨e',h1,rfl⟩:=List.mem_map.1 hm;rw[Iy];exact hr e' h1
  ·have e:(λb=>S (pm p b) || b == pm q a)=λb=>S (pm p b) || pm p b == a:=by
    funext b
    congr 1
    by_cases h:b=pm q a
    ·subst h;rw[Iy];simp
    ·have:pm p b≠a:=λhh=>h (by rw[<-hh,fD])
     rw[beq_false_of_ne h,beq_false_of_ne this]
   rw[e];exact ih
theorem sched_mem {n:Nat}{S:Nat->Bool}{is:List Nat}(h:Sched n es S is):∀a∈is,a<n:=by
 induction h with
 |nil _=>intro a ha;cases ha
 |cons h _ _ _ ih=>
  intro a ha;exact(GN.1 ha).elim (λh'=>by subst h';exact h) (ih a)
def prl (p:List Nat)(l:List IOper):List IOper:=p.map λa=>Xb l a
def pre (p q:List Nat)(es:List (List Nat)):List (List Nat):=p.map λa=>(es.getD a []).map (pm q)
theorem Jcz (p q:List Nat)(hb:Jdp l.length p q=true)(h:Jfh P E n0 N Q k (prl p l) (pre p q es) T H):Jfh P E n0 N Q k l es T H:=by
 intro is hs;have Cr:=hb;simp only[Jdp,Gh,beq_iff_eq,Gt,Ha,decide_eq_true_eq]at Cr;obtain⟨⟨FL,Ri⟩,Ak⟩:=Cr;have Ad:(prl p l).length=l.length:=by rw[prl,List.length_map];exact FL
 have Iw:=sched_perm hb (es2:=pre p q es) (λa ha=>by
  unfold pre pm;rw[Gb,Gq,Ga (by omega)];simp[Gb,Ga (show a<p.length by omega)]) hs
 rw[<-Ad]at Iw;have:=h _ Iw;have e:(is.map (pm q)).map (Xb (prl p l))=is.map (Xb l):=by
  rw[List.map_map];refine List.map_congr_left λa ha=>?_
  have Am:=sched_mem hs a ha;have h1:=(Ak a Am).1.1.2;have h2:=(Ak a Am).2;simp only[Function.comp];unfold prl Xb;rw[Gb,Gq,Ga (by omega)];simp only[Option.map_some,Option.getD_some];have e2:p[pm q a]'(by omega)=a:=by
   unfold pm at h2|-;rw[Gb,Ga (by simpa [pm]using (by omega:pm q a<p.length))]at h2;exact h2
  rw[e2]
 rw[e]at this;exact this
end
end
end Go.Cm
end
section
set_option maxRecDepth 100000
set_option maxHeartbeats 4000000
open Go.Proofs
namespace Go.Cm
theorem rowN {l:List Nd}{i:Nat}(h:i<l.length):l.getD i default=l[i]:=by rw[Gb,Ga h];rfl
theorem GoodT.item {t:Tr}{o:List Int}(g:GoodT t o){i:Nat}(hi:i<t.items.length):∃L F:Nat,t.items.getD i 0=(L:Int)/\fs o L=(F:Int)/\F<=L/\L<t.nodes.length/\o.length=t.nodes.length/\o.getD L 0=(F:Int):=by
 have Bb:o.length=t.nodes.length:=by rw[g.ord.len,Qs]
 have hm:t.items.getD i 0∈t.items:=by
  rw[Gb,Ga hi];exact Gd hi
 obtain⟨_,h2,h3,h4⟩:=QG g.ord.ok Bb _ _ _ g.its _ hm;obtain⟨h5,h6⟩:=Jhc g.ord.ok h2 (by omega);generalize t.items.getD i 0=L at *;obtain⟨L,rfl⟩:∃n:Nat,L=(n:Int):=⟨L.toNat,by omega⟩;exact⟨L,(fs o L).toNat,rfl,by omega,by omega,by omega,Bb,by rw[show o.getD L 0=fs o (L:Int) by simp[fs]];omega⟩
theorem GoodT.itr {t:Tr}{o:List Int}(g:GoodT t o){i:Int}(hi:i∈t.items):0<=i/\i<t.nodes.length:=by
 have Bb:o.length=t.nodes.length:=by rw[g.ord.len,Qs]
 obtain⟨_,h2,h3,h4⟩:=QG g.ord.ok Bb _ _ _ g.its _ hi;exact⟨h2,h4⟩
end Go.Cm
end
section
namespace Go.Cm
section
theorem chain_app {o:List Int}{m:Nat}:∀(x y:List Int) (a e:Int),chain o m a (x++y) e↔∃c,chain o m a x c/\chain o m c y e
 |[],y,a,e=>by simp[chain]
 |i::x,y,a,e=>by
  simp only[GK,chain,chain_app x y]
  constructor
  ·rintro⟨h1,c,h2,h3⟩;exact⟨c,⟨h1,h2⟩,h3⟩
  ·rintro⟨c,⟨h1,h2⟩,h3⟩;exact⟨h1,c,h2,h3⟩
theorem fixA_at {α:Type}{q:α->Bool}:∀(l:List α) (i:Nat),Xk q l i = -1/\(∀x∈l,q x=false)\/∃j x,Xk q l i=((i+j:Nat):Int)/\l[j]? = some x/\q x=true:=by
 intro l
 induction l with
 |nil=>intro i;exact .inl ⟨rfl,by simp⟩
 |cons y l ih=>
  intro i;simp only[Xk]
  cases hq:q y with
  |true=>exact .inr ⟨0,y,by simp,rfl,hq⟩
  |false=>
   rcases ih (i+1) with ⟨h1,h2⟩|⟨j,x,h1,h2,h3⟩
   ·exact .inl ⟨by simpa using h1,λx hx=>by
     rcases GN.1 hx with rfl|hx
     ·exact hq
     ·exact h2 x hx⟩
   ·exact .inr ⟨j+1,x,by rw[show i+(j+1)=i+1+j by omega];simpa using h1,by simpa using h2,h3⟩
section
variable {t:Tr}{o:List Int}(g:GoodT t o)
def endI (t:Tr):Nat->Nat
 |0=>0
 |i+1=>(t.items.getD i 0).toNat+1
include g
theorem JaX:∀i,i<=t.items.length->chain o t.nodes.length 0 (t.items.take i) (endI t i)/\chain o t.nodes.length (endI t i) (t.items.drop i) t.nodes.length:=by
 intro i hi;have h:=g.its;rw[<-List.take_append_drop i t.items,chain_app]at h;obtain⟨c,h1,h2⟩:=h;have hc:c=(endI t i:Int):=by
  cases i with
  |zero=>simp[chain]at h1;simp[endI,h1]
  |succ i=>
   rw[JdG (d:=0) (by omega),Jbu]at h1;simp only[endI];omega
 rw[hc]at h1 h2;exact⟨h1,h2⟩
theorem item_at {i:Nat}(hi:i<t.items.length):∃L:Nat,t.items.getD i 0=(L:Int)/\fs o L=(endI t i:Int)/\endI t i<=L/\L<t.nodes.length/\endI t (i+1)=L+1:=by
 obtain⟨L,F,hL,iW,jJ,BR,Bb,fI⟩:=g.item hi;have h:=(JaX g i (by omega)).2;have e0:t.items.drop i=t.items.getD i 0::t.items.drop (i+1):=by
  rw[GY hi,Gb,Ga hi];rfl
 rw[e0,hL]at h;simp only[chain,GQ]at h;have:(F:Int)=endI t i:=by rw[<-fI];exact h.1.2.2
 refine⟨L,hL,by rw[iW];exact this,by omega,BR,?_⟩;simp only[endI,hL,GQ]
theorem par_in:∀(N n:Nat),N<t.nodes.length->fs o N<=n->n<N->∃m:Nat,n<m/\m<=N/\(n:Int)∈(t.nodes.getD m default).kids:=by
 intro N
 induction N using Nat.strongRecOn with
 |_ N ih=>
  intro n hN h1 h2;have hK:=Kg hN;obtain⟨c,hc,h3,h4⟩:=Xx g.ord.ok rfl _ _ _ (n:Int) (g.ord.kids hK) h1 (by omega);have hr:=g.ord.kid_rng hK hc;by_cases he:c=n
  ·subst he;exact⟨N,h2,Gf _,hc⟩
  ·obtain⟨c,rfl⟩:∃k:Nat,c=(k:Int):=⟨c.toNat,by omega⟩;obtain⟨m,q1,q2,q3⟩:=ih c (by omega) n (by omega) h3 (by omega);exact⟨m,q1,by omega,q3⟩
def Kk (t:Tr)(n:Nat):Int:=Xk (λx:Nd=>x.kids.contains (n:Int)) t.nodes 0
theorem Xh {n:Nat}(hn:n<t.nodes.length):(Kk t n = -1/\∀m:Nat,m<t.nodes.length->(n:Int)∉(t.nodes.getD m default).kids)\/∃m:Nat,Kk t n=(m:Int)/\n<m/\m<t.nodes.length/\(n:Int)∈(t.nodes.getD m default).kids:=by
 rcases fixA_at (q:=λx:Nd=>x.kids.contains (n:Int)) t.nodes 0 with ⟨h1,h2⟩|⟨j,x,h1,h2,h3⟩
 ·refine .inl ⟨h1,λm hm hk=>?_⟩;have:=h2 (t.nodes.getD m default) (by rw[rowN hm];exact Gd hm);simp only[GZ,decide_eq_false_iff_not]at this;exact this hk
 ·have hj:=(Gi.1 h2).1;have hx:t.nodes.getD j default=x:=by rw[Gb,h2];rfl
  simp only[GZ,decide_eq_true_eq]at h3;rw[<-hx]at h3;have:=g.kid hj h3;exact .inr ⟨j,by rw[Gn]at h1;exact h1,by omega,hj,h3⟩
end
end
end Go.Cm
end
section
set_option maxRecDepth 100000
open Go.Proofs
namespace Go.Cm
section
mutual
def mo (τ:Nat->Nat):CV->CV
 |.slc j off len cap=>.slc (τ j) off len cap
 |.ptr j i off=>.ptr (τ j) i off
 |.map j=>.map (τ j)
 |.fn f l1 l2=>.fn f (moL τ l1) (moL τ l2)
 |.iface t c=>.iface t (mo τ c)
 |.agg l=>.agg (moL τ l)
 |.tup l=>.tup (moL τ l)
 |c=>c
def moL (τ:Nat->Nat):List CV->List CV
 |[]=>[]
 |c::cs=>mo τ c::moL τ cs
end
mutual
theorem JfM {own own':List Own}{imm:Nat->Nat->Option Value}{τ:Nat->Nat}(ho:∀(j:Nat) x,own[j]? = some x->own'[τ j]? = some x):∀(c:CV) (v:Value),rel own imm c v->rel own' imm (mo τ c) v
 |.un,_,_=>by simp only[mo,rel]
 |.bool _,_,h=>by simp only[mo,rel]at h|-;exact h
 |.int _ _,_,h=>by simp only[mo,rel]at h|-;exact h
 |.str _,_,h=>by simp only[mo,rel]at h|-;exact h
 |.nilp,_,h=>by simp only[mo,rel]at h|-;exact h
 |.ptr j i off,v,h=>by
  simp only[mo,rel]at h|-;obtain⟨x,hx,e⟩:=h;exact⟨x,ho j x hx,e⟩
 |.rptr cs,v,h=>by simp only[mo,rel]at h|-;exact h
 |.nils,_,h=>by simp only[mo,rel]at h|-;exact h
 |.slc j off len cap,v,h=>by
  simp only[mo,rel]at h|-;obtain⟨x,a,c,hx,e⟩:=h;exact⟨x,a,c,ho j x hx,e⟩
 |.rslc z' e cap,v,h=>by simp only[mo,rel]at h|-;exact h
 |.nilm,_,h=>by simp only[mo,rel]at h|-;exact h
 |.map j,v,h=>by
  simp only[mo,rel]at h|-;obtain⟨x,hx,e⟩:=h;exact⟨x,ho j x hx,e⟩
 |.fn f l1 l2,_,h=>by
  simp only[mo,rel]at h|-;obtain⟨vs1,vs2,e,h1,h2⟩:=h;exact⟨vs1,vs2,e,Jey ho l1 _ h1,Jey ho l2 _ h2⟩
 |.yld _,_,h=>by simp only[mo,rel]at h|-;exact h
 |.nilf,_,h=>by simp only[mo,rel]at h|-;exact h
 |.iface _ c,_,h=>by
  simp only[mo,rel]at h|-;obtain⟨r,e,h1⟩:=h;exact⟨r,e,JfM ho c _ h1⟩
 |.nili,_,h=>by simp only[mo,rel]at h|-;exact h
 |.agg l,_,h=>by
  simp only[mo,rel]at h|-;obtain⟨vs,e,h1⟩:=h;exact⟨vs,e,Jey ho l _ h1⟩
 |.tup l,_,h=>by
  simp only[mo,rel]at h|-;obtain⟨vs,e,h1⟩:=h;exact⟨vs,e,Jey ho l _ h1⟩
theorem Jey {own own':List Own}{imm:Nat->Nat->Option Value}{τ:Nat->Nat}(ho:∀(j:Nat) x,own[j]? = some x->own'[τ j]? = some x):∀(l:List CV) (vs:List Value),JS own imm l vs->JS own' imm (moL τ l) vs
 |[],vs,h=>by simp only[moL,JS]at h|-;exact h
 |c::cs,vs,h=>by
  simp only[moL,JS]at h|-;obtain⟨r,rs,e,h1,h2⟩:=h;exact⟨r,rs,e,JfM ho c _ h1,Jey ho cs _ h2⟩
end
theorem JfN {τ:Nat->Nat}:∀(l:List CV),(moL τ l).length=l.length
 |[]=>rfl
 |_::cs=>by simp[moL,JfN cs]
theorem moL_get {τ:Nat->Nat}:∀(l:List CV) (i:Nat),(moL τ l)[i]? = (l[i]?).map (mo τ)
 |[],_=>by simp[moL]
 |c::cs,0=>by simp[moL]
 |c::cs,i+1=>by simp[moL,moL_get cs i]
def moO (τ:Nat->Nat):CObj->CObj
 |.arr z e=>.arr z (e.map (moL τ))
 |.map kvs=>.map (kvs.map λp=>(mo τ p.1,mo τ p.2))
 |o=>o
theorem Y3 {τ:Nat->Nat}(o:CObj):(moO τ o).alive=o.alive:=by cases o <;> rfl
theorem moO_rel {own own':List Own}{imm:Nat->Nat->Option Value}{τ:Nat->Nat}(ho:∀(j:Nat) x,own[j]? = some x->own'[τ j]? = some x){x:Own}{o:CObj}{w:World}(h:YK own imm x o w):YK own' imm x (moO τ o) w:=by
 cases o with
 |arr z' es=>
  obtain⟨a1,c,el,a2,a3,a4,a5,a6⟩:=h;refine⟨a1,c,el,a2,a3,by simpa using a4,λj e he=>?_,a6⟩;rw[Gq]at he
  cases IR:es[j]? with
  |none=>simp[IR]at he
  |some e0=>
   simp[IR]at he;subst he;obtain⟨h1,h2⟩:=a5 j e0 IR;refine⟨by rw[JfN];exact h1,λt c hc=>?_⟩;rw[moL_get]at hc
   cases ht:e0[t]? with
   |none=>simp[ht]at hc
   |some c0=>
    simp[ht]at hc;subst hc;obtain⟨r,h3,h4⟩:=h2 t c0 ht;exact⟨r,h3,JfM ho _ _ h4⟩
 |map kvs=>
  obtain⟨es,clock,a1,a2,a3⟩:=h;refine⟨es,clock,a1,by simpa using a2,λi k v e hk he=>?_⟩;rw[Gq]at hk
  cases Cj:kvs[i]? with
  |none=>simp[Cj]at hk
  |some p=>
   simp[Cj]at hk;obtain⟨rfl,rfl⟩:=hk;have:=a3 i p.1 p.2 e Cj he;exact⟨JfM ho _ _ this.1,JfM ho _ _ this.2⟩
 |dead=>trivial
 |ext s b=>trivial
mutual
theorem Jez {τ:Nat->Nat}:∀(c:CV),c.closed=true->mo τ c=c
 |.un,_=>rfl
 |.bool _,_=>rfl
 |.int _ _,_=>rfl
 |.str _,_=>rfl
 |.nilp,_=>rfl
 |.ptr _ _ _,h=>by simp[CV.closed]at h
 |.rptr _,_=>rfl
 |.nils,_=>rfl
 |.slc _ _ _ _,h=>by simp[CV.closed]at h
 |.rslc _ _ _,_=>rfl
 |.nilm,_=>rfl
 |.map _,h=>by simp[CV.closed]at h
 |.fn f l1 l2,h=>by
  simp only[CV.closed,Gh]at h;simp only[mo,Yk l1 h.1,Yk l2 h.2]
 |.yld _,_=>rfl
 |.nilf,_=>rfl
 |.iface t c,h=>by
  simp only[CV.closed]at h;simp only[mo,Jez c h]
 |.nili,_=>rfl
 |.agg l,h=>by
  simp only[CV.closed]at h;simp only[mo,Yk l h]
 |.tup l,h=>by
  simp only[CV.closed]at h;simp only[mo,Yk l h]
theorem Yk {τ:Nat->Nat}:∀(l:List CV),Jm l=true->moL τ l=l
 |[],_=>rfl
 |c::cs,h=>by
  simp only[Jm,Gh]at h;simp only[moL,Jez c h.1,Yk cs h.2]
end
theorem Jdr {τ:Nat->Nat}:∀{els:List (List CV)},Jq els=true->els.map (moL τ)=els
 |[],_=>rfl
 |e::l,h=>by
  simp only[Jq,Gh]at h;simp only[Gm,Yk e h.1,Jdr h.2]
theorem JdQ {τ:Nat->Nat}{z:Nat}{els:List (List CV)}(hc:Jq els=true):moO τ (.arr z els)=.arr z els:=congrArg (CObj.arr z) (Jdr hc)
def tau (σ:List Nat)(n i:Nat):Nat:=if i<σ.length then σ.getD i 0 else n+(i-σ.length)
def Jaz (σ:List Nat)(n k:Nat)(H':List CObj):List CObj->List CObj
 |[]=>(H'.drop σ.length).map (moO (tau σ n))
 |o::H=>(match Jn k σ 0 with|some i=>moO (tau σ n) (H'.getD i .dead)|none=>o)::Jaz σ n (k+1) H' H
theorem backL_get {σ:List Nat}{n:Nat}{H':List CObj}:∀(H:List CObj) (k j:Nat) (o:CObj),(Jaz σ n k H' H)[j]? = some o->(∃i,j<H.length/\Jn (k+j) σ 0=some i/\o=moO (tau σ n) (H'.getD i .dead))\/(Jn (k+j) σ 0=none/\H[j]? = some o)\/∃i,j=H.length+i/\(H'[σ.length+i]?).map (moO (tau σ n))=some o
 |[],k,j,o,h=>by
  refine .inr (.inr ⟨j,by simp,?_⟩);rw[Jaz,Gq,G5]at h;exact h
 |p::H,k,0,o,h=>by
  rw[Jaz,List.getElem?_cons_zero,Option.some.injEq]at h
  cases hr:Jn k σ 0 with
  |some i=>rw[hr]at h;exact .inl ⟨i,by simp,rfl,h.symm⟩
  |none=>rw[hr]at h;exact .inr (.inl ⟨rfl,congrArg some h⟩)
 |p::H,k,j+1,o,h=>by
  rw[Jaz,List.getElem?_cons_succ]at h;rcases backL_get H (k+1) j o h with ⟨i,h1,h2,h3⟩|⟨h1,h2⟩|⟨i,h1,h2⟩
  ·exact .inl ⟨i,by simp;omega,by rw[show k+(j+1)=k+1+j by omega];exact h2,h3⟩
  ·exact .inr (.inl ⟨by rw[show k+(j+1)=k+1+j by omega];exact h1,by simpa using h2⟩)
  ·exact .inr (.inr ⟨i,by simp;omega,h2⟩)
theorem Jfb {σ:List Nat}{n:Nat}{H':List CObj}:∀(H:List CObj) (k:Nat),(Jaz σ n k H' H).length=H.length+(H'.length-σ.length)
 |[],k=>by simp[Jaz]
 |p::H,k=>by rw[Jaz,Gg,Jfb H,Gg];omega
theorem JfC {id:Nat}:∀(σ:List Nat) (i:Nat),Jn id σ i=none->id∉σ
 |[],_,_=>by simp
 |k::σ,i,h=>by
  simp only[Jn]at h
  split at h
  ·cases h
  ·rename_i hk;have:=JfC σ (i+1) h;simp only[GN,not_or];exact⟨λh=>hk h.symm,this⟩
def isExt:CObj->Bool
 |.ext _ _=>true
 |_=>false
def locOk (σ:List Nat)(H:List CObj):Bool:=σ.Nodup && σ.all λi=>decide (i<H.length) && !isExt (H.getD i .dead)
section
variable {P:Program}{E:Env}{H:List CObj}
theorem CallsC.loc {f:Nat}{args args0:List CV}{H0:List CObj}{R:CV->List CObj->Prop}(σ:List Nat)(h:CallsC P Env.none f args0 H0 R)(ha:JB σ args=args0)(hH:Kq σ H=H0)(Ap:locOk σ H=true) :
  CallsC P E f args H λv H'=>∃v0 H0',R v0 H0'/\v=mo (tau σ H.length) v0/\H'=Jaz σ H.length 0 H0' H:=by
 intro m w vs hs hv;subst ha hH;obtain⟨FQ,Ak⟩:σ.Nodup/\∀i∈σ,i<H.length/\∀s b,H[i]?≠some (.ext s b):=by
  unfold locOk at Ap;rw[Gh,Gt]at Ap;refine⟨by simpa using Ap.1,λi hi=>?_⟩;have h2:=Ap.2 i hi;rw[Gh,decide_eq_true_eq]at h2;refine⟨h2.1,λs b hb=>?_⟩;rw[Gb,hb]at h2;simp[isExt]at h2
 have Ad:=hs.len
 let own0:List Own:=σ.map λid=>m.own.getD id ⟨0,0,0,0⟩
 have ho:∀(j:Nat) id,σ[j]? = some id->own0[j]? = m.own[id]?:=by
  intro j id hj;have Ab:id<m.own.length:=by rw[Ad];exact(Ak id (Gs hj)).1
  simp[own0,hj,Gb,Ga Ab]
 have key0:∀(k:Nat) o x,(Kq σ H)[k]? = some o->own0[k]? = some x->∃id o0,σ[k]? = some id/\H[id]? = some o0/\o=XM σ o0/\m.own[id]? = some x:=by
  intro k o x hk hx;obtain⟨id,o0,h1,h2,h3⟩:=JdM (λi hi=>(Ak i hi).1) hk;exact⟨id,o0,h1,h2,h3,(ho k id h1).symm.trans hx⟩
 have EI:Sim Env.none { own:=own0,imm:=m.imm,ext:=λ_=>False } (Kq σ H) w:=by
  refine⟨by simp[own0,Kq],λk o x hk hx=>?_,hs.imm,hs.one,λk k' o o' x x' hk AA ha AX hx Aq hB=>?_,λk o x hk ha hx=>?_,λk s b hk=>?_,λk o x hk ha hx=>?_,λB hB=>hs.extlt B (.inr (hB.resolve_left id)),hs.gl.1,λB hB=>hB.elim⟩
  ·obtain⟨id,o0,h1,h2,rfl,h4⟩:=key0 k o x hk hx;have:=hs.obj id o0 x h2 h4;have hf:=JgM (own:=m.own) (own':=own0) (imm:=m.imm) (ρ:=σ) ho
   cases o0 with
   |arr z' es=>
    obtain⟨a1,c,el,a2,a3,a4,a5,a6⟩:=this;exact⟨a1,c,el,a2,a3,by simpa using a4,relO_ren hf a5,a6⟩
   |map kvs=>
    obtain⟨es,clock,a1,a2,a3⟩:=this;refine⟨es,clock,a1,by simpa using a2,λi k v e hk he=>?_⟩;rw[Gq]at hk
    cases Cj:kvs[i]? with
    |none=>simp[Cj]at hk
    |some p=>
     simp[Cj]at hk;obtain⟨rfl,rfl⟩:=hk;have:=a3 i p.1 p.2 e Cj he;exact⟨hf _ _ this.1,hf _ _ this.2⟩
   |dead=>trivial
   |ext s b=>trivial
  ·obtain⟨id,o0,h1,h2,rfl,h4⟩:=key0 k o x hk hx;obtain⟨id',o0',DI,FC,rfl,SC⟩:=key0 k' o' x' AA Aq;rw[Xv]at ha AX;have:=hs.sep id id' o0 o0' x x' h2 FC ha AX h4 SC hB;subst this;exact(List.getElem?_inj (Gi.1 h1).1 FQ).1 (h1.trans DI.symm)
  ·obtain⟨id,o0,h1,h2,rfl,h4⟩:=key0 k o x hk hx;rw[Xv]at ha;exact hs.ro id o0 x h2 ha h4
  ·obtain⟨id,o0,h1,h2,h3⟩:=JdM (λi hi=>(Ak i hi).1) hk;have:o0=.ext s b:=by cases o0 <;> simp[XM]at h3;simp[h3]
   subst this;exact absurd h2 ((Ak id (Gs h1)).2 s b)
  ·obtain⟨id,o0,h1,h2,rfl,h4⟩:=key0 k o x hk hx;rw[Xv]at ha;exact λhB=>hs.extsep id o0 x h2 ha h4 (.inr (hB.resolve_left λh=>h))
 refine(h _ w vs EI (Jaj ho args _ hv)).mono ?_;rintro ev w' ⟨rv,m',v,H',rfl,Ae,Az,Ao,hR⟩;have BZ:(Kq σ H).length=σ.length:=by simp[Kq]
 have Bb:own0.length=σ.length:=by simp[own0]
 have Fj:σ.length<=m'.own.length:=by rw[<-BZ];exact Ae.long (by rw[BZ,Bb];exact Gf _)
 have Eg:=Az.len;have hτ:∀(j:Nat) x,m'.own[j]? = some x->(m.own++m'.own.drop σ.length)[tau σ H.length j]? = some x:=λj x hj=>by
  unfold tau;by_cases Bc:j<σ.length
  ·rw[if_pos Bc];have M7:=Ga Bc;have Ab:=(Ak _ (Gd Bc)).1;have e1:own0[j]? = some (m.own[σ[j]]'(by omega)):=by rw[ho j _ M7,Ga]
   have e2:=Ae.base j _ (by rw[BZ];exact Bc) e1;rw[hj]at e2;rw[Gb,M7,Option.getD_some,Gx (by omega),Ga (by omega)];exact e2.symm
  ·rw[if_neg Bc,GH (by omega),G5];rw[show σ.length+(H.length+(j-σ.length)-m.own.length)=j by omega];exact hj
 have ownM:∀B,owned { own:=own0,imm:=m.imm,ext:=λ_=>False } (Kq σ H) B->∃id o x,id∈σ/\H[id]? = some o/\o.alive=true/\m.own[id]? = some x/\x.B=B:=by
  rintro B (h|⟨k,o,x,hk,Am,hx,rfl⟩)
  ·exact h.elim
  ·obtain⟨id,o0,h1,h2,rfl,h4⟩:=key0 k o x hk hx;rw[Xv]at Am;exact⟨id,o0,x,Gs h1,h2,Am,h4,rfl⟩
 have ownM2:∀B,owned { own:=own0,imm:=m.imm,ext:=λ_=>False } (Kq σ H) B->owned m H B:=λB hB=>by
  obtain⟨id,o,x,_,h1,h2,h3,h4⟩:=ownM B hB;exact .inr ⟨id,o,x,h1,h2,h3,h4⟩
 have EL:∀(k:Nat) o x,k∉σ->H[k]? = some o->o.alive=true->m.own[k]? = some x->¬owned { own:=own0,imm:=m.imm,ext:=λ_=>False } (Kq σ H) x.B:=λk o x h1 hk Am hx hB=>by
  obtain⟨id,o',x',q1,q2,q3,q4,q5⟩:=ownM _ hB;have:=hs.sep k id _ _ _ _ hk q2 Am q3 hx q4 q5.symm;subst this;exact h1 q1
 have AR:∀(k:Nat) o x,k∉σ->H[k]? = some o->o.alive=true->m.own[k]? = some x->w'.heap[x.B]? = w.heap[x.B]?:=λk o x h1 hk Am hx=>Ae.frame _ (Yf hs hk Am hx) (EL k o x h1 hk Am hx)
 have key:∀(k:Nat) o x,(Jaz σ H.length 0 H' H)[k]? = some o->(m.own++m'.own.drop σ.length)[k]? = some x->(∃i o0,H'[i]? = some o0/\o=moO (tau σ H.length) o0/\m'.own[i]? = some x/\tau σ H.length i=k)\/(H[k]? = some o/\m.own[k]? = some x/\k∉σ):=λk o x hk hx=>by
  rcases backL_get H 0 k o hk with ⟨i,h1,h2,h3⟩|⟨h1,h2⟩|⟨i,h1,h2⟩
  ·rw[Gn]at h2;have h4:=Jbo h2;have hi:=(Gi.1 h4).1;have h5:tau σ H.length i=k:=by unfold tau;rw[if_pos hi,Gb,h4];rfl
   have h6:=hτ i _ (Ga (show i<m'.own.length by omega));rw[h5,hx]at h6;refine .inl ⟨i,H'[i]'(by omega),Ga (by omega),?_,?_,h5⟩
   ·rw[h3,Gb,Ga (show i<H'.length by omega)];rfl
   ·rw[Ga (show i<m'.own.length by omega),<-h6]
  ·rw[Gn]at h1;have Aw:=(Gi.1 h2).1;rw[Gx (by omega)]at hx;exact .inr ⟨h2,hx,JfC σ 0 h1⟩
  ·obtain⟨o0,h3,h4⟩:=Option.map_eq_some_iff.1 h2;have Af:=(Gi.1 h3).1;have h5:tau σ H.length (σ.length+i)=k:=by unfold tau;rw[iN7];omega
   have h6:=hτ (σ.length+i) _ (Ga (show σ.length+i<m'.own.length by omega));rw[h5,hx]at h6;refine .inl ⟨σ.length+i,o0,h3,h4.symm,?_,h5⟩;rw[Ga (show σ.length+i<m'.own.length by omega),<-h6]
 have DN:∀(i:Nat) o0 x,H'[i]? = some o0->o0.alive=true->m'.own[i]? = some x->owned { own:=own0,imm:=m.imm,ext:=λ_=>False } (Kq σ H) x.B\/w.heap.size<=x.B:=λi o0 x h1 h2 h3=>Ae.newOwn x.B (.inr ⟨i,o0,x,h1,h2,h3,rfl⟩)
 have A9:=KN.append m.own (m'.own.drop σ.length);refine⟨rv,{ m with own:=m.own++m'.own.drop σ.length,imm:=m'.imm },mo (tau σ H.length) v,_,rfl,⟨Ae.size,λB hB hn=>Ae.frame B hB λh=>hn (ownM2 B h),Ae.imm,?_,λB i v hv=>?_,λk x _ hx=>A9 _ _ hx,λh=>by simp;omega,Ae.same⟩,⟨by rw[Jfb];simp;omega,λk o x hk hx=>?_,Az.imm,Az.one,λk k' o o' x x' hk AA ha AX hx Aq hB=>?_,λk o x hk Am hx i hi=>?_,λk a b hk=>?_,λk o x hk Am hx=>?_,λB hB=>Nat.lt_of_lt_of_le (hs.extlt B hB) Ae.size,Az.gl.1,hs.gl.2⟩,JfM hτ v rv Ao,v,H',hR,rfl,rfl⟩
 ·rintro B (hB|⟨k,o,x,hk,Am,hx,rfl⟩)
  ·exact .inl (.inl hB)
  ·rcases key k o x hk hx with ⟨i,o0,h1,rfl,h3,_⟩|⟨h1,h2,_⟩
   ·rw[Y3]at Am;rcases DN i o0 x h1 Am h3 with h|h
    ·exact .inl (ownM2 _ h)
    ·exact .inr h
   ·exact .inl (.inr ⟨k,o,x,h1,Am,h2,rfl⟩)
 ·rcases Ae.newImm B i v hv with h|h|h
  ·exact .inl h
  ·exact .inr (.inl (ownM2 B h))
  ·exact .inr (.inr h)
 ·rcases key k o x hk hx with ⟨i,o0,h1,rfl,h3,_⟩|⟨h1,h2,h3⟩
  ·exact moO_rel hτ (Az.obj i o0 x h1 h3)
  ·by_cases Am:o.alive=true
   ·exact KD A9 Ae.imm (λ_=>AR k o x h3 h1 Am h2) (hs.obj k o x h1 h2)
   ·cases o <;> simp[CObj.alive]at Am <;> trivial
 ·have cross:∀(i:Nat) o0 (k:Nat) o x y,H'[i]? = some o0->o0.alive=true->m'.own[i]? = some x->H[k]? = some o->o.alive=true->m.own[k]? = some y->k∉σ->x.B≠y.B:=λi o0 k o x y h1 h2 h3 h4 h5 h6 h7 hB=>by
   rcases DN i o0 x h1 h2 h3 with h|h
   ·exact EL k o y h7 h4 h5 h6 (hB▸h)
   ·have:=Yf hs h4 h5 h6;omega
  rcases key k o x hk hx with ⟨i,o0,h1,rfl,h3,h4⟩|⟨h1,h2,h3⟩ <;> rcases key k' o' x' AA Aq with ⟨i',o0',DI,rfl,CP,SC⟩|⟨DI,FC,CP⟩
  ·rw[Y3]at ha AX;have:=Az.sep i i' _ _ _ _ h1 DI ha AX h3 CP hB;subst this;exact h4.symm.trans SC
  ·rw[Y3]at ha;exact absurd hB (cross i o0 k' o' x x' h1 ha h3 DI AX FC CP)
  ·rw[Y3]at AX;exact absurd hB.symm (cross i' o0' k o x' x DI AX CP h1 ha h2 h3)
  ·exact hs.sep k k' _ _ _ _ h1 DI ha AX h2 FC hB
 ·rcases key k o x hk hx with ⟨j,o0,h1,rfl,h3,h4⟩|⟨h1,h2,h3⟩
  ·rw[Y3]at Am;exact Az.ro j _ _ h1 Am h3 i hi
  ·cases hv:m'.imm x.B i with
   |none=>rfl
   |some v=>
    rcases Ae.newImm _ _ _ hv with h|h|h
    ·rw[hs.ro k o x h1 Am h2 i hi]at h;cases h
    ·exact absurd h (EL k o x h3 h1 Am h2)
    ·have:=Yf hs h1 Am h2;omega
 ·have Aw:=(Gi.1 hk).1;rw[Jfb]at Aw;obtain⟨x,hx⟩:∃x,(m.own++m'.own.drop σ.length)[k]? = some x:=⟨_,Ga (by simp;omega)⟩;rcases key k _ x hk hx with ⟨j,o0,h1,h2,h3,h4⟩|⟨h1,h2,h3⟩
  ·have:o0=.ext a b:=by cases o0 <;> simp[moO]at h2;simp[h2]
   subst this;exact(Az.ext j a b h1).elim
  ·refine E.stable _ _ _ _ _ _ _ (hs.ext k a b h1) (λB hB=>Ae.frame B (hs.extlt B hB) λh=>?_) Ae.size Ae.imm (λB i v hv=>?_) Az.imm Az.one
   ·obtain⟨id,o,x,_,q1,q2,q3,q4⟩:=ownM B h;subst q4;exact hs.extsep id _ _ q1 q2 q3 hB
   ·rcases Ae.newImm B i v hv with h|h|h
    ·exact .inl h
    ·refine .inr λhB=>?_
     obtain⟨id,o,x,_,q1,q2,q3,q4⟩:=ownM B h;subst q4;exact hs.extsep id _ _ q1 q2 q3 (.inl hB)
    ·refine .inr λhB=>?_
     have:=hs.extlt B (.inl hB);omega
 ·rcases key k o x hk hx with ⟨i,o0,h1,rfl,h3,h4⟩|⟨h1,h2,h3⟩
  ·rw[Y3]at Am;intro hB;rcases DN i o0 x h1 Am h3 with h|h
   ·obtain⟨id,o,y,_,q1,q2,q3,q4⟩:=ownM _ h;rw[<-q4]at hB;exact hs.extsep id _ _ q1 q2 q3 hB
   ·have:=hs.extlt _ hB;omega
  ·exact hs.extsep k o x h1 Am h2
end
section
variable {P:Program}{E:Env}{n0:Nat}{N:Fr}{Q:Exit->List CV->List CObj->Prop}{k:List KItem}{T:List CV}{H:List CObj}
theorem vr_loc {d:Option Nat}{g:Option (Nat×Bool)}{f:Nat}{ags:List IArg}{l:List IOper}{args0:List CV}{H0:List CObj}{R:CV->List CObj->Prop}(σ:List Nat)(hg:GOk T g)(h:CallsC P Env.none f args0 H0 R)(ha:JB σ (ags.map (Ka T))=args0)(hH:Kq σ H=H0)(Ap:locOk σ H=true)(hk:∀v H',R v H'->Ko P E n0 N Q (.ops l::k) (put T d (mo (tau σ H.length) v)) (Jaz σ H.length 0 H' H)):Ok P E n0 N Q (.ops (⟨d,.call f ags,g⟩::l)::k) T H:=
 Km hg (h.loc σ ha hH Ap) λv H' ⟨v0,H0,hR,e1,e2⟩=>by rw[e1,e2];exact hk v0 H0 hR
theorem vr_locE {d:Option Nat}{g:Option (Nat×Bool)}{f:Nat}{ags:List IArg}{l:List IOper}{args0:List CV}{H0 H1 H2:List CObj}{v v2:CV}(σ:List Nat)(hg:GOk T g)(h:CallsC P Env.none f args0 H0 λv' H'=>v'=v/\H'=H1)(ha:JB σ (ags.map (Ka T))=args0)(hH:Kq σ H=H0)(Ap:locOk σ H=true)(hv:mo (tau σ H.length) v=v2)(h2:Jaz σ H.length 0 H1 H=H2)(hk:Ko P E n0 N Q (.ops l::k) (put T d v2) H2):Ok P E n0 N Q (.ops (⟨d,.call f ags,g⟩::l)::k) T H:=
 vr_loc σ hg h ha hH Ap λv' H' ⟨e1,e2⟩=>by rw[e1,e2,hv,h2];exact hk
end
end
end Go.Cm
end
section
set_option maxRecDepth 100000
namespace Go.Cm
section
def looks:IOp->Bool
 |.load _ _ _=>true
 |.iaddr _ _ _=>true
 |_=>false
theorem looks_heap {op:IOp}{T:List CV}{H H':List CObj}{c:Cond}{v:CV}(hl:looks op=true)(he:exec op T H=some (c,v,H')):H'=H:=by
 cases op <;> simp only[looks]at hl <;> first|(cases hl;done)|skip
 all_goals
  simp only[exec]at he
  repeat' split at he
  all_goals first|(cases he;done)|(simp only[Option.some.injEq,Prod.mk.injEq]at he;exact he.2.2.symm)
def footQ (b:Nat):Foot×Foot:=if b=0 then Foot.no else if b=1 then(.all,.on []) else Foot.any
def Jgf (b:Nat)(op:IOp)(T:List CV)(H:List CObj):Option (Cond×CV×List CObj):=if b=0 then JeI false op T H else if b=1 then(if looks op=true then exec op T H else none) else exec op T H
section
variable (P:Program)(E:Env)(n0:Nat)(N:Fr)(Q:Exit->List CV->List CObj->Prop)
def vdx (k:List KItem):List IOper->List Nat->List CV->List CObj->Prop
 |[],_,T,H=>Ko P E n0 N Q k T H
 |_::_,[],_,_=>False
 |⟨d,op,none⟩::l,b::bs,T,H=>match Jgf b op T H with
  |some (c,v,H')=>c.holds/\vdx k l bs (put T d v) H'
  |none=>∃v H',HS P E ⟨d,op,none⟩ T H v H' (footQ b)/\vdx k l bs (put T d v) H'
 |⟨d,op,some g⟩::l,b::bs,T,H=>∃v H',HS P E ⟨d,op,some g⟩ T H v H' (footQ b)/\vdx k l bs (put T d v) H'
def vdxR (r:Option (Cond×CV×List CObj))(d:Option Nat)(op:IOp)(b:Nat)(k:List KItem)(l:List IOper)(bs:List Nat)(T:List CV)(H:List CObj):Prop:=
 match r with
 |some (c,v,H')=>c.holds/\vdx P E n0 N Q k l bs (put T d v) H'
 |none=>∃v H',HS P E ⟨d,op,none⟩ T H v H' (footQ b)/\vdx P E n0 N Q k l bs (put T d v) H'
end
section
variable {P:Program}{E:Env}{n0:Nat}{N:Fr}{Q:Exit->List CV->List CObj->Prop}{H H':List CObj}{T:List CV}{k:List KItem}{l:List IOper}{es:List (List Nat)}{bs:List Nat}
theorem vx_nil:vdx P E n0 N Q k [] bs T H=Ko P E n0 N Q k T H:=propext (by cases bs <;> exact Iff.rfl)
theorem vx_op {d:Option Nat}{op:IOp}{b:Nat}:vdx P E n0 N Q k (⟨d,op,none⟩::l) (b::bs) T H=vdxR P E n0 N Q (Jgf b op T H) d op b k l bs T H:=propext Iff.rfl
theorem vdxR_some {d:Option Nat}{op:IOp}{b:Nat}{c:Cond}{v:CV}:vdxR P E n0 N Q (some (c,v,H')) d op b k l bs T H=(c.holds/\vdx P E n0 N Q k l bs (put T d v) H'):=propext Iff.rfl
theorem vdx_look {T':List CV}{H':List CObj}(hT:T=T')(hH:H=H'):vdx P E n0 N Q k l bs T H=vdx P E n0 N Q k l bs T' H':=by rw[hT,hH]
theorem vdxR_look {r r':Option (Cond×CV×List CObj)}{d:Option Nat}{op:IOp}{b:Nat}(h:r=r'):vdxR P E n0 N Q r d op b k l bs T H=vdxR P E n0 N Q r' d op b k l bs T H:=by rw[h]
attribute [congr] vdx_look vdxR_look
theorem hs_ro {io:IOper}{x:CV}{c:Cond}(hg:GOk T io.guard)(he:exec io.op T H=some (c,x,H))(hc:c.holds):HS P E io T H x H (.all,.on []):=by
 have h:=hs_op (P:=P) (E:=E) hg he hc;refine⟨λ_ _=>rfl,λT2 H2 ag hx=>?_⟩;have hH:H2=H:=YT λy=>hx y trivial
 obtain⟨H2',h1,_,h3⟩:=h.run T2 H2 ag λy _=>hx y trivial
 have aO:H2'=H:=YT λy=>h1 y trivial
 subst hH aO;exact⟨_,λy hy=>(by cases hy),λ_ _=>rfl,h3⟩
end
theorem xexec0 {op:IOp}{T:List CV}{H:List CObj}:Jgf 0 op T H=JeI false op T H:=rfl
theorem xexec1 {op:IOp}{T:List CV}{H:List CObj}:Jgf 1 op T H=if looks op=true then exec op T H else none:=rfl
theorem xexec2 {op:IOp}{T:List CV}{H:List CObj}:Jgf 2 op T H=exec op T H:=rfl
attribute [go_sem] xexec0 xexec1 xexec2 looks vx_nil vx_op vdxR_some
end
end Go.Cm
end
end
