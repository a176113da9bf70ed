/-
  A part of the proof. Conditions: none.
-/
import Derived.Test.YtaiboeciecfgoaaGreatDoorUPkRK
import Derived.Test.YtaiboeciecfgoaaGreatDoorUPkRF
import Derived.Lib.Join
import Derived.Lib.ItoaLen
set_option linter.unusedSimpArgs false
set_option linter.unusedVariables false
open Go.Proofs.Tryz renaming prog→Gc
open Int renaming cast_ofNat_Int→Gu,toNat_natCast→GH,add_zero→GI
open Nat renaming le_refl→Gf,zero_add→Gp,lt_or_ge→Gv
open List renaming getD_eq_getElem?_getD→Ga,getElem?_eq_getElem→Gb,getElem_mem→Gd,length_cons→Gg,take_length→Gh,take_succ_eq_append_getElem→Gq,length_nil→Gi,take_of_length_le→Gr,map_cons→Gj,mem_singleton→Gs,getElem?_eq_some_iff→Gw,all_eq_true→Gt,drop_eq_nil_of_le→Gx,map_nil→Gn,length_take→Gy,cons_append→Gz,mem_append→GA,getElem?_append_right→GJ,getElem?_append_left→GK,drop_zero→GD,drop_eq_getElem_cons→GL,mem_of_getElem?→GM,contains_eq_mem→GN,getElem?_map→GQ,all_eq_false→GR,nil_append→GU,foldl_cons→GV,mem_range→GX,mem_cons→GY
open Bool renaming and_eq_true→Gl,true_and→Gm,false_and→GG,and_eq_false_iff→GZ
noncomputable section
section
set_option maxRecDepth 100000
set_option maxHeartbeats 40000000
open Go.Proofs
namespace Go.Cm
theorem refKin28 (t:Tr) (x:Nd) (hx:x.Fit) (hm:t.nodes.length≤1400) (hn:∀ y∈t.nodes,y.k < 256) (hk:∀ k∈x.kids,0≤k∧k < t.nodes.length) (h28:x.k=28) :
  Fn Gc 93 [t.cv,.agg x.cv] (.bool (Kt x.k x.n (lets t.nodes x))):=by
 have hkn:=hx.kidn
 have hll:=Qo (l:=t.nodes) (x:=x)
 have hK:∀ (c:Nat) (b:UInt8),(c,b)∈([(200,101),(201,116),(202,99),(40,66),(41,83),(42,98),(43,73),(44,78),(45,71),(48,79),(64,80)]:List (Nat×UInt8))→∀ p q:Int,Fn Gc 115 [t.cv,.agg x.cv,.int .i64 p,.int .i64 q,.int .u8 c] (.bool (JK (lets t.nodes x) p q b)):=by
  intro c b hcb p q
  have:=refKids t x hx hm hk p q c
  rw[kids_conv hn hk (fun k h=>cls_all ⟨k,h⟩ (c,b) hcb)]at this
  exact this
 have hM:=refMany t x hx hk 41
 rw[Jec (b:=83) hn hk (fun k h=>(let_all ⟨k,h⟩).1)]at hM
 have hc83:KC 83 (lets t.nodes x)≤30:=Nat.le_trans (cntB_le _ _) (by omega)
 have K200:=hK 200 101 (by decide)
 have K41:=hK 41 83 (by decide)
 have K43:=hK 43 73 (by decide)
 have K44:=hK 44 78 (by decide)
 have K45:=hK 45 71 (by decide)
 simp only[Gu]at K200 K41 K43 K44 K45 hM
 obtain ⟨k,text,n,kids,pl⟩:=x
 simp only at h28
 subst h28
 generalize lets t.nodes ⟨28,text,n,kids,pl⟩=hv at hll K200 K41 K43 K44 K45 hM hc83 ⊢
 obtain ⟨cs,hcs⟩:∃ cs:Int,cs=(KC 83 hv:Int):=⟨_,rfl⟩
 rw[← hcs]at hM
 simp only[Nd.cv,Tr.cv,Tr.row]at hkn hll K200 K41 K43 K44 K45 hM ⊢
 clear hK
 obtain ⟨m,hmm⟩:∃ m:Int,m=(kids.length:Int):=⟨_,rfl⟩
 refine Ja c93_ok rfl rfl fun N=>?_
 simp (maxSteps:=2000000) -implicitDefEqProofs only[c93,go_sem,Jf,Gu,← hmm]
 refine JX hM ?_
 by_cases h0:0≤n
 ·have f0:((0:Int)≤n)=True:=eq_true h0
  by_cases h1:n < m
  ·have f1:(n < m)=True:=eq_true h1
   simp (maxSteps:=2000000) -implicitDefEqProofs only[go_sem,Jf,← hmm,f0,f1]
   have hkk:Kt 28 n hv=(JK hv 0 n 73 && JK hv n (n+1) 101 && JK hv (n+1) (n+1+cs) 83 && JK hv (n+1+cs) (m-1) 78 && JK hv (m-1) m 71):=by
    simp[Kt,hll,← hmm,← hcs,h0,h1]
   rw[hkk]
   refine JQ (gok rfl) (K43 (0) n) ?_
   cases g0:JK hv (0) n 73 with
   |false=>simp (maxSteps:=2000000) -implicitDefEqProofs only[go_sem,Jf,← hmm]; try simp
   |true=>
    simp (maxSteps:=2000000) -implicitDefEqProofs only[go_sem,Jf,← hmm]
    refine ⟨Ji,?_⟩
    refine JQ (gok rfl) (K200 (n) (n+1)) ?_
    cases g1:JK hv (n) (n+1) 101 with
    |false=>simp (maxSteps:=2000000) -implicitDefEqProofs only[go_sem,Jf,← hmm]; try simp
    |true=>
     simp (maxSteps:=2000000) -implicitDefEqProofs only[go_sem,Jf,← hmm]
     refine ⟨Ji,?_⟩
     refine ⟨Ji,?_⟩
     refine ⟨Ji,?_⟩
     refine JQ (gok rfl) (K41 (n+1) (n+1+cs)) ?_
     cases g2:JK hv (n+1) (n+1+cs) 83 with
     |false=>simp (maxSteps:=2000000) -implicitDefEqProofs only[go_sem,Jf,← hmm]; try simp
     |true=>
      simp (maxSteps:=2000000) -implicitDefEqProofs only[go_sem,Jf,← hmm]
      refine ⟨Ji,?_⟩
      refine ⟨Ji,?_⟩
      refine ⟨Ji,?_⟩
      refine JQ (gok rfl) (K44 (n+1+cs) (m-1)) ?_
      cases g3:JK hv (n+1+cs) (m-1) 78 with
      |false=>simp (maxSteps:=2000000) -implicitDefEqProofs only[go_sem,Jf,← hmm]; try simp
      |true=>
       simp (maxSteps:=2000000) -implicitDefEqProofs only[go_sem,Jf,← hmm]
       refine ⟨Ji,?_⟩
       refine JQ (gok rfl) (K45 (m-1) m) ?_
       cases g4:JK hv (m-1) m 71 with
       |false=>simp (maxSteps:=2000000) -implicitDefEqProofs only[go_sem,Jf,← hmm]; try simp
       |true=>
        simp (maxSteps:=2000000) -implicitDefEqProofs only[go_sem,Jf,← hmm]
        try simp
  ·have f1:(n < m)=False:=eq_false h1
   simp (maxSteps:=2000000) -implicitDefEqProofs only[go_sem,Jf,← hmm,f0,f1]
   simp[Kt,hll,← hmm,h1]
 ·have f0:((0:Int)≤n)=False:=eq_false h0
  simp (maxSteps:=2000000) -implicitDefEqProofs only[go_sem,Jf,← hmm,f0]
  simp[Kt,h0]
end Go.Cm
end
section
open Go.Shelf Go.RowKit Go.Proofs
namespace Go.Proofs
open Go.Cm in
set_option maxHeartbeats 4000000 in
set_option maxRecDepth 100000 in
theorem Tryz.kinMax_walk (ta tb:Value) (s:ByteArray) (b:Option Addr) (len cap:Nat) (pl:Int) (hl:len≤1000) (w:World) :
  Calls Gc 93 #[.agg #[ta,tb],.agg #[.int .u8 41,.string s,.int .i64 9223372036854775807,.slice b len cap,.int .i64 pl]] w fun e w'=>e=.returned (.bool false)∧Below w.heap.size w w':=by
 have hw:wrap64 9223372036854775808 = -9223372036854775808:=by decide +kernel
 have hne:¬ ((len:Int)=wrap64 9223372036854775808):=by omega
 go_enter Tryz.func93,Tryz.ntmps93
 go_wp2
 all_goals first
  |(exfalso; omega)
  |skip
 go_ret
 exact ⟨rfl,((Below.refl _ _).alloc (Gf _) _).alloc (show _≤(w.heap.push _).size by rw[Array.size_push]; omega) _⟩
end Go.Proofs
namespace Go.Cm
theorem refKinMax (t:Tr) (x:Nd) (hx:x.Fit) (h41:x.k=41) (hm:x.n=9223372036854775807):Fn Gc 93 [t.cv,.agg x.cv] (.bool (Kt x.k x.n (lets t.nodes x))):=by
 have hkn:=hx.kidn
 have hll:=Qo (l:=t.nodes) (x:=x)
 have hf:Kt x.k x.n (lets t.nodes x)=false:=by
  rw[h41,hm]
  have:((lets t.nodes x).length:Int)≠9223372036854775808:=by omega
  simp[Kt,this]
 rw[hf]
 intro E H
 refine Kh fun m w vs hs hv=>?_
 obtain ⟨k,text,n,kids,pl⟩:=x
 simp only at h41 hm
 subst h41 hm
 simp only[JE,rel,Tr.cv,Tr.row,Nd.cv]at hv
 obtain ⟨r,rs,e,⟨v1,rfl,ra,ras,e1,-,rb,rbs,e2,-,e3⟩,x,xs,e4,⟨v2,rfl,y1,ys1,f1,g1,y2,ys2,f2,g2,y3,ys3,f3,g3,y4,ys4,f4,g4,y5,ys5,f5,g5,f6⟩,e5⟩:=hv
 have hvs:vs=#[.agg v1,.agg v2]:=by cases vs; simp_all
 have h1:v1=#[ra,rb]:=by cases v1; simp_all
 have h2:v2=#[y1,y2,y3,y4,y5]:=by cases v2; simp_all
 subst hvs h1 h2 g1 g2 g3 g5
 have h4:∃ b c,y4=.slice b kids.length c:=by
  rcases g4 with ⟨-,h,b,rfl⟩ | ⟨B,o,c,rfl,-⟩
  ·have:kids.length=0:=by rw[← Jf (l:=kids),h]; rfl
   exact ⟨b,0,by rw[this]⟩
  ·exact ⟨_,c,by rw[Jf]⟩
 obtain ⟨b,c,rfl⟩:=h4
 exact ⟨_,Tryz.kinMax_walk ra rb ⟨⟨text⟩⟩ b kids.length c pl (by simp only at hkn; omega) w,rfl⟩
theorem refKin (t:Tr) (x:Nd) (hx:x.Fit) (hm:t.nodes.length≤1400) (hn:∀ y∈t.nodes,y.k < 256) (hk:∀ k∈x.kids,0≤k∧k < t.nodes.length):Fn Gc 93 [t.cv,.agg x.cv] (.bool (Kt x.k x.n (lets t.nodes x))):=by
 by_cases h28:x.k=28
 ·exact refKin28 t x hx hm hn hk h28
 ·by_cases h41:x.k=41∧x.n=9223372036854775807
  ·exact refKinMax t x hx h41.1 h41.2
  ·exact refKin1 t x hx hm hn hk (fun h=>by
   have h5:x.n≤9223372036854775807:=hx.n.2
   have h6:x.n≠9223372036854775807:=fun e=>h41 ⟨h,e⟩
   omega) h28
end Go.Cm
end
section
set_option maxRecDepth 100000
set_option maxHeartbeats 4000000
open Go.Proofs
namespace Go.Cm
def mD (d:List Int) (ks:List Int):Int:=ks.foldl (fun a k=>mx a (d.getD k.toNat 0)) 0
theorem mx_succ (a b:Int):mx (a+1) (b+1)=mx a b+1:=by unfold mx; split <;> split <;> omega
theorem ownD_mD (d ks:List Int):ownD d ks=mD d ks+1:=by
 have key:∀ (l:List Int) (a:Int),l.foldl (fun a k=>mx a (d.getD k.toNat 0+1)) (a+1)=l.foldl (fun a k=>mx a (d.getD k.toNat 0)) a+1:=by
  intro l
  induction l with
  |nil=>intro a; rfl
  |cons k l ih=>intro a; rw[GV,GV,mx_succ]; exact ih _
 exact key ks 0
theorem mD_rng {d:List Int}{m:Int}(h:∀ v∈d,1≤v∧v≤m) (hm:0≤m) (ks:List Int):0≤mD d ks∧mD d ks≤m:=by
 have:=JfU (m:=m) h hm ks 1 (by omega) (by omega)
 have e:=ownD_mD d ks
 unfold ownD at e
 omega
theorem refTooDeep (t:Tr) (ht:t.Fit) {o:List Int}(ho:JA (JF t.nodes) []=some o):Fn Gc 96 [t.cv] (.bool (Jbd t)):=by
 have hmany:=ht.many
 refine Ja c96_ok rfl rfl fun N=>?_
 simp -implicitDefEqProofs only[c96,go_sem,Tr.cv,Tr.row]
 refine Jh (id:=0) (z:=2) (els:=[t.row]) rfl rfl ?_
 simp only[go_sem,J9,KA,frz,KV]
 refine JI (I:=fun i:Nat=>i≤t.nodes.length∧∀ v∈KW ((JF t.nodes).take i) [],v≤30) (inv:=fun i=>gp [(1,.rptr t.row),(1,.slc 1 0 (iz (KW ((JF t.nodes).take i) [])).length (Jgr (iz (KW ((JF t.nodes).take i) [])))),(0,.int .i64 (i:Int))] 43)
  (hp:=fun i=>[.dead,.arr 1 (iz (KW ((JF t.nodes).take i) []))]) (μ:=fun i=>t.nodes.length-i) 0 [0,1] ⟨by omega,by simp[KW]⟩ rfl ?_ rfl ?_
 ·simp[forget,JH,ren,Jp,gp,KW,iz,Jgr]
 ·rintro i ⟨hi,hall⟩
  have hdl:(KW ((JF t.nodes).take i) []).length=i:=by
   rw[JbN,Gy]
   simp[JF]
   omega
  have hdk:=Jgl ((JF t.nodes).take i) [] (by intro v hv; simp at hv)
  by_cases hlt:i < t.nodes.length
  ·have hstep:=Jfj (JV hlt)
   have hbel:=QZ ho (JV hlt)
   have hx:=ht.nodes _ (Gd hlt)
   rw[← rowg hlt]at hx
   have hln:=hdl
   clear hdl
   have hbig:∀ v∈KW ((JF t.nodes).take (i+1)) [],v∈KW (JF t.nodes) []:=by
    intro v hv
    rw[deepF_take (by rw[Qq]; omega)]at hv
    exact List.mem_of_mem_take hv
   generalize hD:KW ((JF t.nodes).take i) []=d at hstep hln hdk hall ⊢
   have d1:((i:Int) < (t.nodes.length:Int))=True:=Jn
   simp -implicitDefEqProofs only[go_sem,Tr.row,Jb,d1]
   have hg:=Qg hlt
   generalize t.nodes.getD i default=x at hstep hbel hx hg ⊢
   have hkn:=hx.kidn
   have hdr:∀ v∈d,1≤v∧v≤i:=fun v hv=>by have:=hdk v hv; omega
   refine Jz (I:=fun j:Nat=>j≤x.kids.length) (inv:=fun j=>gp [(1,.rptr t.row),(1,.slc 1 0 (iz d).length (Jgr (iz d))),(0,.int .i64 (i:Int)),(0,.int .i64 (mD d (x.kids.take j))),(0,.int .i64 (j:Int))] 41)
    (hp:=fun _=>[.dead,.arr 1 (iz d)]) (μ:=fun j=>x.kids.length-j) 0 (by omega) ?_ rfl ?_
   ·simp[forget,gp,mD,Tr.row]
   ·intro j hj
    have hxl:(iz x.kids).length=x.kids.length:=Jf
    by_cases hjl:j < x.kids.length
    ·have d2:((j:Int) < (x.kids.length:Int))=True:=Jn
     have hmem:x.kids.getD j 0∈x.kids:=by
      rw[Ga,Gb hjl]; exact Gd hjl
     have hb:=hbel _ hmem
     have hst:mD d (x.kids.take (j+1))=mx (mD d (x.kids.take j)) (d.getD (x.kids.getD j 0).toNat 0):=by
      have hgk:x.kids.getD j 0=x.kids[j]:=by rw[Ga,Gb hjl]; rfl
      unfold mD
      rw[Gq hjl,List.foldl_append,hgk]; rfl
     have hgi:=JR hjl
     generalize x.kids.getD j 0=k at hb hst hgi
     have hgk:=JR (l:=d) (i:=k.toNat) (by omega)
     have hgr:=Jf6 (m:=i) (fun v hv=>by have:=hdr v hv; omega) (by omega) k.toNat
     have hdz:(iz d).length=d.length:=Jf
     simp -implicitDefEqProofs only[go_sem,Tr.row,Jb,hg,Nd.cv,hxl,d2,hgi,hgk]
     refine ⟨by omega,by omega,by omega,by omega,by omega,Ji,j+1,by omega,by omega,?_⟩
     rw[hst]
     simp[forget,mx]
    ·have hje:j=x.kids.length:=by omega
     subst hje
     have d2:((x.kids.length:Int) < (x.kids.length:Int))=False:=Jm
     rw[Gh]
     have hmr:=mD_rng hdr (by omega) x.kids
     have hdz:(iz d).length=d.length:=Jf
     rw[ownD_mD]at hstep
     have hz:iz (d++[mD d x.kids+1])=iz d++[[.int .i64 (mD d x.kids+1)]]:=Kg
     have hcl:=Je (d++[mD d x.kids+1])
     generalize mD d x.kids=v at hstep hmr hz hcl ⊢
     by_cases hv:30 < v+1
     ·have d3:((30:Int) < v+1)=True:=eq_true hv
      have hB:Jbd t=true:=by
       rw[Jbd,List.any_eq_true]
       exact ⟨v+1,hbig _ (by rw[hstep]; simp),by simpa using hv⟩
      simp -implicitDefEqProofs only[go_sem,Tr.row,Jb,hg,Nd.cv,hxl,d2,d3,JM,hB]
      repeat' apply And.intro
      all_goals first | omega | exact Ji
     ·have d3:((30:Int) < v+1)=False:=eq_false hv
      simp -implicitDefEqProofs only[go_sem,Tr.row,Jb,hg,Nd.cv,hxl,d2,d3,JM]
      refine ⟨by omega,Ji,by omega,Ji,Ji,i+1,[0,3],⟨by omega,?_⟩,by omega,rfl,?_,?_⟩
      ·rw[hstep]
       intro u hu
       rcases GA.1 hu with hu | hu
       ·exact hall u hu
       ·rw[Gs.1 hu]; omega
      ·rw[hstep]
       have hc:=Jc (ρ:=[0,3]) hcl
       simp only[KT,Gj,Gn,go_sem,Jv]
       rw[hz]at hc ⊢
       rw[hc]
       rfl
      ·rw[hstep,hz,JaH]
       simp[forget,JH,ren,Jp,Jf,Tr.row]
  ·have hie:i=t.nodes.length:=by omega
   subst hie
   have d1:((t.nodes.length:Int) < (t.nodes.length:Int))=False:=Jm
   have hB:Jbd t=false:=by
    rw[Jbd,← Gr (l:=JF t.nodes) (i:=t.nodes.length) (by simp[JF]),List.any_eq_false]
    intro v hv
    have:=hall v hv
    simp; omega
   rw[hB]
   simp -implicitDefEqProofs only[go_sem,Tr.row,Jb,d1]
theorem Jap {t:Tr}(h1:¬ (700 < t.nodes.length∨20 < t.items.length)) (h2:frm t=false):chk t=4:=by
 unfold chk; rw[if_neg h1,if_neg (by rw[h2]; simp)]
theorem frm_none {t:Tr}(h:JA (JF t.nodes) []=none):frm t=false:=by unfold frm; rw[h]
theorem frm_kid {t:Tr}{i:Nat}(hi:i < t.nodes.length) {k:Int}(hk:k∈(t.nodes.getD i default).kids) (hb:¬ (0≤k∧k < i)):frm t=false:=by
 cases h:JA (JF t.nodes) []with
 |none=>exact frm_none h
 |some o=>exact absurd (QZ h (JV hi) k hk) hb
theorem frm_nd {t:Tr}{i:Nat}(hi:i < t.nodes.length) (hb:ndI t.nodes (t.nodes.getD i default)=false):frm t=false:=by
 unfold frm
 cases h:JA (JF t.nodes) []with
 |none=>rfl
 |some o=>
  simp only[GZ]
  right
  rw[GR]
  refine ⟨t.nodes.getD i default,?_,by rw[hb]; simp⟩
  rw[Ga,Gb hi]; exact Gd hi
theorem step_ord {K:List (List Int)}{i:Nat}{o ks:List Int}(ho:JA (K.take i) []=some o) (hk:K[i]? = some ks) :
  (JA (K.take (i+1)) []=none∧(Jeu (fs o) ks.reverse i).2=false)∨(∃ f,JA (K.take (i+1)) []=some (o++[f])∧(Jeu (fs o) ks.reverse i).2=true):=by
 obtain ⟨h1,h2⟩:=JcB ho hk
 have hok:=KZ _ _ _ Qt.nil ho
 have h3:=JeY (fst:=fs o) hok (fun k _ _=>rfl) ks.reverse ((o.length:Int)-1) (by omega)
 rw[h1]
 unfold Jdr
 have e:((o.length:Int)-1+1)=(i:Int):=by omega
 rw[e]at h3
 cases h4:QI o ks.reverse ((o.length:Int)-1) with
 |none=>rw[h4]at h3; exact .inl ⟨rfl,h3⟩
 |some b=>rw[h4]at h3; simp only at h3; exact .inr ⟨b+1,rfl,by rw[h3]⟩
theorem ndI_R (l:List Nd) (x:Nd):ndI l x=(Kt x.k x.n (lets l x) && K9 (JcN x.text) x.k x.text x.n x.pl && KE x.k x.n (lets l x)):=by
 unfold ndI; rw[node_eq]; rfl
theorem refCheck (t:Tr) (ht:t.Fit):Fn Gc 41 [t.cv] (.int .i64 (chk t)):=by
 have hmany:=ht.many
 have hitems:=ht.items
 refine Ja c41_ok rfl rfl fun N=>?_
 simp -implicitDefEqProofs only[c41,go_sem,Tr.cv,Tr.row]
 refine Jh (id:=0) (z:=2) (els:=[t.row]) rfl rfl ?_
 simp only[go_sem,J9,KA,frz,KV,Tr.row]
 refine JX (refLimits t) ?_
 by_cases h1:700 < t.nodes.length∨20 < t.items.length
 ·have hc:chk t=5:=by unfold chk; rw[if_pos h1]
  rw[decide_eq_false (not_not_intro h1),hc]
  simp -implicitDefEqProofs only[go_sem]
 ·rw[decide_eq_true h1]
  simp -implicitDefEqProofs only[go_sem]
  refine Jz (I:=fun i:Nat=>i≤t.nodes.length∧∀ j,j < i→∀ k∈(t.nodes.getD j default).kids,0≤k∧k < j) (inv:=fun i=>gp [(1,.rptr t.row),(1,.int .i64 (i:Int))] 123) (hp:=fun _=>[.dead]) (μ:=fun i=>t.nodes.length-i) 0 ⟨by omega,by omega⟩ ?_ rfl ?_
  ·simp[forget,gp,Tr.row]
  ·rintro i ⟨hi,hkids⟩
   by_cases hlt:i < t.nodes.length
   ·have d1:((i:Int) < (t.nodes.length:Int))=True:=Jn
    have hx:=ht.nodes _ (Gd hlt)
    rw[← rowg hlt]at hx
    have hg:=Qg hlt
    have hfk:=fun {k:Int} (hk:k∈(t.nodes.getD i default).kids) (hb:¬ (0≤k∧k < i))=>frm_kid hlt hk hb
    have hsucc:(∀ k∈(t.nodes.getD i default).kids,0≤k∧k < i)→∀ j,j < i+1→∀ k∈(t.nodes.getD j default).kids,0≤k∧k < j:=by
     intro h j hj
     by_cases e:j=i
     ·subst e; exact h
     ·exact hkids j (by omega)
    generalize t.nodes.getD i default=x at hx hg hfk hsucc
    have hkn:=hx.kidn
    have hxl:(iz x.kids).length=x.kids.length:=Jf
    simp -implicitDefEqProofs only[go_sem,Tr.row,Jb,d1]
    refine Jz (I:=fun j:Nat=>j≤x.kids.length∧∀ k∈x.kids.take j,0≤k∧k < i) (inv:=fun j=>gp [(1,.rptr t.row),(1,.int .i64 (i:Int)),(0,.int .i64 (j:Int))] 122) (hp:=fun _=>[.dead]) (μ:=fun j=>x.kids.length-j) 0 ⟨by omega,by simp⟩ ?_ rfl ?_
    ·simp[forget,gp,Tr.row]
    ·rintro j ⟨hj,hkj⟩
     by_cases hjl:j < x.kids.length
     ·have d2:((j:Int) < (x.kids.length:Int))=True:=Jn
      have hgi:=JR hjl
      have hmem:x.kids.getD j 0∈x.kids:=by
       rw[Ga,Gb hjl]; exact Gd hjl
      have hts:x.kids.take (j+1)=x.kids.take j++[x.kids.getD j 0]:=by
       rw[Gq hjl,Ga,Gb hjl]; rfl
      generalize x.kids.getD j 0=k at hgi hmem hts
      simp -implicitDefEqProofs only[go_sem,Tr.row,Jb,hg,Nd.cv,hxl,d2,hgi]
      refine ⟨by omega,by omega,by omega,Ji,?_⟩
      refine JX (JaM k 0 ((i:Int)-1)) ?_
      cases hin:inI 0 ((i:Int)-1) k with
      |true=>
       simp only[inI,Gl,decide_eq_true_eq]at hin
       simp -implicitDefEqProofs only[go_sem]
       refine ⟨Ji,j+1,⟨by omega,?_⟩,by omega,?_⟩
       ·rw[hts]
        intro u hu
        rcases GA.1 hu with hu | hu
        ·exact hkj u hu
        ·rw[Gs.1 hu]; omega
       ·simp[forget]
      |false=>
       have hb:¬ (0≤k∧k < i):=by
        simp only[inI,GZ,decide_eq_false_iff_not]at hin
        omega
       rw[Jap h1 (hfk hmem hb)]
       simp -implicitDefEqProofs only[go_sem]
     ·have hje:j=x.kids.length:=by omega
      subst hje
      rw[Gh]at hkj
      have d2:((x.kids.length:Int) < (x.kids.length:Int))=False:=Jm
      simp -implicitDefEqProofs only[go_sem,Tr.row,Jb,hg,Nd.cv,hxl,d2]
      refine ⟨by omega,Ji,i+1,⟨by omega,hsucc hkj⟩,by omega,?_⟩
      simp[forget]
   ·have hie:i=t.nodes.length:=by omega
    subst hie
    have d1:((t.nodes.length:Int) < (t.nodes.length:Int))=False:=Jm
    simp -implicitDefEqProofs only[go_sem,Tr.row,Jb,d1]
    refine Jz (I:=fun i:Nat=>i≤t.nodes.length∧(∃ o,JA ((JF t.nodes).take i) []=some o)∧∀ j,j < i→ndI t.nodes (t.nodes.getD j default)=true) (inv:=fun i=>gp [(1,.rptr t.row),(3,.int .i64 (i:Int))] 121) (hp:=fun _=>[.dead]) (μ:=fun i=>t.nodes.length-i) 0 ⟨by omega,⟨[],by simp[JA]⟩,by omega⟩ ?_ rfl ?_
    ·simp[forget,gp,Tr.row]
    ·rintro i ⟨hi,⟨o,ho⟩,hnd⟩
     by_cases hlt:i < t.nodes.length
     ·have d1:((i:Int) < (t.nodes.length:Int))=True:=Jn
      have hx:=ht.nodes _ (Gd hlt)
      rw[← rowg hlt]at hx
      have hg:=Qg hlt
      have hki:=JV hlt
      have hkk:=hkids i hlt
      have hnf:=fun hb=>frm_nd hlt hb
      have hnR:=ndI_R t.nodes (t.nodes.getD i default)
      have hS:=refSized t i hlt hmany hx (fun y hy=>(ht.nodes y hy).k) (fun k hk=>by have:=hkk k hk; omega)
      have hstep:=step_ord ho hki
      have hsn:ndI t.nodes (t.nodes.getD i default)=true→∀ j,j < i+1→ndI t.nodes (t.nodes.getD j default)=true:=by
       intro h j hj
       by_cases e:j=i
       ·subst e; exact h
       ·exact hnd j (by omega)
      generalize t.nodes.getD i default=x at hx hg hki hkk hnf hnR hS hstep hsn
      have hO:=JeW t ho hi hmany x.kids (by have:=hx.kidn; omega) i (Gf _)
      have hKi:=refKin t x hx hmany (fun y hy=>(ht.nodes y hy).k) (fun k hk=>by have:=hkk k hk; omega)
      have hF:=refFields x (kindR x.text) (JcN x.text) (kindR_name x.text) (refKind x.text (by have:=hx.text; omega))
      simp -implicitDefEqProofs only[go_sem,Tr.row,Jb,d1]
      refine JS JD (by decide) ?_
      simp -implicitDefEqProofs only[go_sem,Tr.row,Jb,hg]
      refine ⟨by omega,?_⟩
      simp -implicitDefEqProofs only[go_sem,Nd.cv]
      refine JJ (.inl rfl) hO ?_
      simp -implicitDefEqProofs only[go_sem]
      refine JS JD (by decide) ?_
      rcases hstep with ⟨s1,s2⟩ | ⟨f,s1,s2⟩
      ·simp -implicitDefEqProofs only[go_sem,s2]
       rw[Jap h1 (frm_none (JcC s1))]
      ·simp -implicitDefEqProofs only[go_sem,Tr.row,Jb,s2,hg]
       refine ⟨by omega,?_⟩
       refine ⟨by simp[Nd.cv],?_⟩
       refine JJ (gok rfl) hKi ?_
       cases b1:Kt x.k x.n (lets t.nodes x) with
       |false=>
        rw[b1,GG,GG]at hnR
        simp -implicitDefEqProofs only[go_sem]
        rw[Jap h1 (hnf hnR)]
       |true=>
        simp -implicitDefEqProofs only[go_sem,Tr.row,Jb,hg]
        refine ⟨by omega,by simp[Nd.cv],?_⟩
        refine JJ (gok rfl) hF ?_
        cases b2:K9 (JcN x.text) x.k x.text x.n x.pl with
        |false=>
         rw[b1,b2,Gm,GG]at hnR
         simp -implicitDefEqProofs only[go_sem]
         rw[Jap h1 (hnf hnR)]
        |true=>
         simp -implicitDefEqProofs only[go_sem,Tr.row,Jb,hg]
         refine JJ (gok rfl) hS ?_
         cases b3:KE x.k x.n (lets t.nodes x) with
         |false=>
          rw[b1,b2,b3,Gm,Gm]at hnR
          simp -implicitDefEqProofs only[go_sem]
          rw[Jap h1 (hnf hnR)]
         |true=>
          rw[b1,b2,b3,Gm,Gm]at hnR
          simp -implicitDefEqProofs only[go_sem]
          refine ⟨Ji,i+1,⟨by omega,⟨_,s1⟩,hsn hnR⟩,by omega,?_⟩
          simp[forget,Tr.row]
     ·have hie:i=t.nodes.length:=by omega
      subst hie
      have d1:((t.nodes.length:Int) < (t.nodes.length:Int))=False:=Jm
      have ho2:JA (JF t.nodes) []=some o:=by
       rw[← Gr (l:=JF t.nodes) (i:=t.nodes.length) (by simp[JF])]; exact ho
      have hok:=KZ _ _ _ Qt.nil ho2
      have hol:=KQ _ _ _ ho2
      simp only[Gi,Gp,Qq]at hol
      have hO:=JeW t ho (Gf _) hmany t.items (by omega) t.nodes.length (Gf _)
      have hie2:=items_eq (fst:=fs o) (isD:=fun i=>Jr t.nodes i == 65) hok hol (fun k _ _=>rfl) t.items
      have hall:t.nodes.all (ndI t.nodes)=true:=by
       rw[Gt]
       intro y hy
       obtain ⟨j,hj⟩:=List.getElem?_of_mem hy
       have hjl:=(Gw.1 hj).1
       have:=hnd j hjl
       rw[Ga,hj]at this
       exact this
      have hfrm:frm t=XX o (fun i=>Jr t.nodes i == 65) t.nodes.length t.items 0:=by
       unfold frm; rw[ho2]; simp only[hall,Bool.and_true]
      simp -implicitDefEqProofs only[go_sem,Tr.row,Jb,d1]
      refine JX hO ?_
      simp -implicitDefEqProofs only[go_sem]
      cases b1:(Jeu (fs o) t.items.reverse t.nodes.length).2 with
      |false=>
       rw[Jap h1 (by rw[hfrm,hie2,decide_eq_false (fun h=>by rw[h]at b1; cases b1)]; rfl)]
       simp -implicitDefEqProofs only[go_sem]
      |true=>
       by_cases b2:(Jeu (fs o) t.items.reverse t.nodes.length).1=0
       ·have e2:((Jeu (fs o) t.items.reverse t.nodes.length).1 != 0)=false:=by simp[b2]
        have hor:Jeu (fs o) t.items.reverse t.nodes.length=(0,true):=Prod.ext b2 b1
        rw[hor,decide_eq_true rfl,Gm]at hie2
        simp -implicitDefEqProofs only[go_sem,e2]
        have hch:=(Jcd hok hol (fst:=fs o) (fun k _ _=>rfl) t.items.reverse t.nodes.length (by omega) (by omega)).1 hor
        rw[List.reverse_reverse]at hch
        have hmem:=fun i hi=>KX hok rfl t.items 0 t.nodes.length (by rw[hol]; exact hch) i hi
        refine Jz (I:=fun i:Nat=>i≤t.items.length∧∀ k∈t.items.take i,(Jr t.nodes k == 65)=true) (inv:=fun i=>gp [(1,.rptr t.row),(8,.int .i64 (i:Int))] 116) (hp:=fun _=>[.dead]) (μ:=fun i=>t.items.length-i) 0 ⟨by omega,by simp⟩ ?_ rfl ?_
        ·simp[forget,gp,Tr.row]
        ·rintro i ⟨hi,hdk⟩
         have hil:(iz t.items).length=t.items.length:=Jf
         by_cases hlt:i < t.items.length
         ·have d2:((i:Int) < (t.items.length:Int))=True:=Jn
          have hgi:=JR hlt
          have hm2:t.items.getD i 0∈t.items:=by
           rw[Ga,Gb hlt]; exact Gd hlt
          have hts:t.items.take (i+1)=t.items.take i++[t.items.getD i 0]:=by
           rw[Gq hlt,Ga,Gb hlt]; rfl
          generalize t.items.getD i 0=k at hgi hm2 hts
          have hkr:=hmem k hm2
          have hgk:=Qg (l:=t.nodes) (i:=k.toNat) (by omega)
          have hkk:Jr t.nodes k=(t.nodes.getD k.toNat default).k:=rfl
          generalize t.nodes.getD k.toNat default=x at hgk hkk
          simp -implicitDefEqProofs only[go_sem,Tr.row,Jb,hil,d2]
          refine JS JD (by decide) ?_
          simp -implicitDefEqProofs only[go_sem,Tr.row,Jb,hil,hgi]
          refine ⟨by omega,?_⟩
          simp -implicitDefEqProofs only[go_sem,Tr.row,Jb,hil,hgk,Nd.cv]
          refine ⟨by omega,?_⟩
          have q65:=JcL 65 x.k
          simp only[Gu]at q65
          cases b3:(x.k == 65) with
          |true=>
           have e3:((x.k:Int) != 65)=false:=by rw[bne,q65,b3]; rfl
           simp -implicitDefEqProofs only[go_sem,e3]
           refine ⟨Ji,i+1,⟨by omega,?_⟩,by omega,?_⟩
           ·rw[hts]
            intro u hu
            rcases GA.1 hu with hu | hu
            ·exact hdk u hu
            ·rw[Gs.1 hu,hkk]; exact b3
           ·simp[forget]
          |false=>
           have e3:((x.k:Int) != 65)=true:=by rw[bne,q65,b3]; rfl
           have hf:frm t=false:=by
            rw[hfrm,hie2,GR]
            exact ⟨k,hm2,by rw[hkk,b3]; simp⟩
           rw[Jap h1 hf]
           simp -implicitDefEqProofs only[go_sem,e3]
         ·have hie:i=t.items.length:=by omega
          subst hie
          rw[Gh]at hdk
          have d2:((t.items.length:Int) < (t.items.length:Int))=False:=Jm
          have hf:frm t=true:=by
           rw[hfrm,hie2,Gt]; exact hdk
          have hc:chk t=if Jbd t=true then 5 else 0:=by unfold chk; rw[if_neg h1,if_pos hf]
          rw[hc]
          simp -implicitDefEqProofs only[go_sem,Tr.row,Jb,hil,d2]
          refine JX (refTooDeep t ht ho2) ?_
          cases b4:Jbd t with
          |true=>simp -implicitDefEqProofs only[go_sem]
          |false=>simp -implicitDefEqProofs only[go_sem]
       ·have e2:((Jeu (fs o) t.items.reverse t.nodes.length).1 != 0)=true:=by simp[b2]
        rw[Jap h1 (by rw[hfrm,hie2,decide_eq_false (fun h=>by rw[h]at b2; exact b2 rfl)]; rfl)]
        simp -implicitDefEqProofs only[go_sem,e2]
theorem JcU {α:Type}{l:List α}{i:Nat}{d:α}(h:i < l.length):l.take (i+1)=l.take i++[l.getD i d]:=by
 rw[Gq h,Ga,Gb h]; rfl
def Jdm (x:Nd):Bool:=decide (30 < x.kids.length) || decide (60 < x.text.length)
theorem row_agg5 {x:Nd}{id n:Nat}{cap:Option Nat}(hn:n=x.kids.length):wk (frz id 1 (iz x.kids) (.agg [.int .u8 x.k,S x.text,.int .i64 x.n,.slc id 0 n cap,.int .i64 x.pl])) (.agg x.cv):=by
 subst hn
 have hl:(iz x.kids).length=x.kids.length:=Jf
 simp only[frz,J9,if_true,Gp,hl,Gf,GD]
 rw[← hl,Gh]
 exact Jdi ⟨wk.refl _,wk.refl _,wk.refl _,wk.rslc,wk.refl _,trivial⟩
theorem refMoved (x:Nd) (hx:x.kids.length≤1000) (d:Int) (hk:∀ k∈x.kids,InR .i64 (k+d)):Fn Gc 48 [.agg x.cv,.int .i64 d] (.agg (mvN d x).cv):=by
 have hxl:(iz x.kids).length=x.kids.length:=Jf
 refine JbM ?_ rfl rfl
 refine K8 c48_ok fun N=>?_
 simp -implicitDefEqProofs only[c48,go_sem,Nd.cv]
 refine JI (I:=fun i:Nat=>i≤x.kids.length) (inv:=fun i=>gp [(1,.int .i64 d),(0,.ptr 0 0 0),(1,.ptr 1 0 0),(0,.slc 2 0 (iz ((x.kids.take i).map (· + d))).length (Jgr (iz ((x.kids.take i).map (· + d))))),(0,.int .i64 (i:Int))] 21)
  (hp:=fun i=>[.arr 5 [x.cv],.arr 5 [[.int .u8 0,S [],.int .i64 0,.nils,.int .i64 0]],.arr 1 (iz ((x.kids.take i).map (· + d)))]) (μ:=fun i=>x.kids.length-i) 0 [0,1,2] (by omega) rfl ?_ rfl ?_
 ·simp[forget,JH,ren,Jp,gp,iz,Jgr]
 ·intro i hi
  by_cases hlt:i < x.kids.length
  ·have d1:((i:Int) < (x.kids.length:Int))=True:=Jn
   have hgi:=JR hlt
   have hts:(x.kids.take (i+1)).map (· + d)=(x.kids.take i).map (· + d)++[x.kids.getD i 0+d]:=by
    rw[JcU (d:=0) hlt,List.map_append]; rfl
   have hol:((x.kids.take i).map (· + d)).length=i:=by simp; omega
   have hmem:x.kids.getD i 0∈x.kids:=by
    rw[Ga,Gb hlt]; exact Gd hlt
   have hin:=hk _ hmem
   generalize x.kids.getD i 0=k at hgi hts hin
   generalize (x.kids.take i).map (· + d)=L at hts hol ⊢
   have hLl:(iz L).length=L.length:=Jf
   have hz:iz (L++[k+d])=iz L++[[.int .i64 (k+d)]]:=Kg
   simp -implicitDefEqProofs only[go_sem,Nd.cv,hxl,d1,hgi,JM]
   refine ⟨by omega,hin,by omega,Ji,i+1,[0,1,4],by omega,by omega,rfl,?_,?_⟩
   ·have hc:=Jc (ρ:=[0,1,4]) (Je (L++[k+d]))
    rw[hz]at hc
    rw[hts,hz]
    simp only[KT,Gj,Gn,go_sem,Jv,hc]
    rfl
   ·rw[hts,hz,JaH]
    simp[forget,JH,ren,Jp]
  ·have hie:i=x.kids.length:=by omega
   subst hie
   have d1:((x.kids.length:Int) < (x.kids.length:Int))=False:=Jm
   rw[Gh]
   simp -implicitDefEqProofs only[go_sem,Nd.cv,hxl,d1,splice]
   exact .inr ⟨2,1,iz (x.kids.map (· + d)),rfl,Je _,row_agg5 (x:=mvN d x) (by simp[Jf,mvN])⟩
theorem row_aggT {z:Nat}{els:List (List CV)}{id n:Nat}{cap:Option Nat}{y:CV}(hy:y.closed=true) (hn:n=els.length):wk (frz id z els (.agg [.slc id 0 n cap,y])) (.agg [.rslc z els none,y]):=by
 subst hn
 simp only[frz,J9,if_true,Gp,Gf,GD,Gh,Xa y hy]
 exact Jdi ⟨wk.rslc,wk.refl _,trivial⟩
theorem refCopy (t:Tr) (ht:t.Fit):Fn Gc 12 [t.cv] t.cv:=by
 have hmany:=ht.many
 have hitems:=ht.items
 have hil:(iz t.items).length=t.items.length:=Jf
 have hrc:=Je t.items
 refine JbM ?_ rfl rfl
 refine K8 c12_ok fun N=>?_
 obtain ⟨R,hR⟩:∃ R,R=iz t.items:=⟨_,rfl⟩
 simp only[Tr.cv,Tr.row]
 rw[← hR]at hrc hil ⊢
 cases R with
 |nil=>
  simp -implicitDefEqProofs only[c12,go_sem]
  refine Jh (id:=0) (z:=2) (els:=[[.rslc 5 (ndz t.nodes) none,.rslc 1 [] none]]) rfl rfl ?_
  simp only[go_sem,J9,KA,frz,KV]
  refine Jh (id:=2) (z:=1) (els:=[]) rfl rfl ?_
  simp only[go_sem,J9,KA,frz,KV]
  refine YT ?_
  simp only[go_sem,Gz,GU]
  refine JI (I:=fun i:Nat=>i≤t.nodes.length) (inv:=fun i=>gp [(1,.rptr [.rslc 5 (ndz t.nodes) none,.rslc 1 [] none]),(0,.ptr 1 0 0),(0,.ptr 2 0 0),(0,.int .i64 (i:Int))] 24) (hp:=fun i=>[.dead,.arr 2 [[.nils,.nils]],.arr 2 [[QP 3 (ndz (t.nodes.take i)),.rslc 1 [] none]],XO 5 (ndz (t.nodes.take i))]) (μ:=fun i=>t.nodes.length-i) 0 [0,1,3,4] (by omega) rfl ?_ ?_ ?_
  ·simp[forget,JH,ren,Jp,gp]
  ·rfl
  ·intro i hi
   by_cases hlt:i < t.nodes.length
   ·have d1:((i:Int) < (t.nodes.length:Int))=True:=Jn
    have hg:=Qg hlt
    have hx:=ht.nodes _ (Gd hlt)
    rw[← rowg hlt]at hx
    have hts:ndz (t.nodes.take (i+1))=ndz (t.nodes.take i)++[(t.nodes.getD i default).cv]:=by
     rw[JcU (d:=default) hlt]; simp[ndz]
    have hcl:=Yh (t.nodes.take (i+1))
    have hpl:(ndz (t.nodes.take i)).length=i:=by rw[Jb,Gy]; omega
    generalize t.nodes.getD i default=x at hg hx hts
    generalize ndz (t.nodes.take i)=Z at hts hpl ⊢
    have hM:=refMoved x (by have:=hx.kidn; omega) 0 (fun k hk=>by rw[GI]; exact hx.kids k hk)
    have hmv:mvN 0 x=x:=by
     obtain ⟨k,te,n,ks,p⟩:=x
     simp[mvN]
    rw[hmv]at hM
    simp -implicitDefEqProofs only[go_sem,Jb,d1]
    refine Yo [false,true,false,false,false,false,false,false,false,true,false,true] JD (by decide +kernel) ?_
    simp -implicitDefEqProofs only[go_sem,Jb,hg]
    refine ⟨by omega,by simp[Nd.cv],?_⟩
    refine vh_f hM ?_
    simp -implicitDefEqProofs only[go_sem]
    refine vh_row [x.cv] rfl rfl rfl rfl ?_
    simp -implicitDefEqProofs only[go_sem,JM,splice,Gg,Gi]
    refine ⟨by omega,Ji,i+1,[0,1,2,4],by omega,by omega,rfl,?_,?_⟩
    ·rw[hts]at hcl
     have hc:=Jc (ρ:=[0,1,2,4]) hcl
     rw[hts,Ky,Kz]
     simp only[KT,Gj,Gn,go_sem,Jv,hc]
     rfl
    ·simp[forget,JH,ren,Jp]
   ·have hie:i=t.nodes.length:=by omega
    subst hie
    have d1:((t.nodes.length:Int) < (t.nodes.length:Int))=False:=Jm
    rw[Gh]
    have hnc:=Yh t.nodes
    cases hN:ndz t.nodes with
    |nil=>
     have hnl:(([]:List (List CV)).length:Int)=t.nodes.length:=by rw[← hN,Jb]
     simp only[Gi]at hnl
     simp -implicitDefEqProofs only[go_sem,QS,Xz,Gi,hnl,d1,splice]
     exact .inl (Jdi ⟨wk.nils,wk.refl _,trivial⟩)
    |cons f fs=>
     have hnl:((fs.length+1:Nat):Int)=t.nodes.length:=by rw[← Gg,← hN,Jb]
     rw[Xq (by simp),Q7 (by simp)]
     simp -implicitDefEqProofs only[go_sem,Gg,hnl,d1,splice]
     rw[hN]at hnc
     exact .inr ⟨3,5,f::fs,rfl,hnc,row_aggT rfl rfl⟩
 |cons e es=>
  have hel:es.length+1≤40:=by have:=hil; simp only[Gg]at this; omega
  simp -implicitDefEqProofs only[c12,go_sem,JM,Gg]
  refine ⟨by omega,?_⟩
  refine Jh (id:=3) (z:=1) (els:=e::es) rfl hrc ?_
  simp only[go_sem,J9,KA,frz,KV,Gg,GD,Gr (l:=e::es) (i:=es.length+1) (Gf _)]
  refine Jh (id:=0) (z:=2) (els:=[[.rslc 5 (ndz t.nodes) none,.rslc 1 (e::es) none]]) rfl rfl ?_
  simp only[go_sem,J9,KA,frz,KV]
  refine YT ?_
  simp only[go_sem,Gz,GU]
  refine JI (I:=fun i:Nat=>i≤t.nodes.length) (inv:=fun i=>gp [(1,.rptr [.rslc 5 (ndz t.nodes) none,.rslc 1 (e::es) none]),(0,.ptr 1 0 0),(0,.ptr 2 0 0),(0,.int .i64 (i:Int))] 24) (hp:=fun i=>[.dead,.arr 2 [[.nils,.nils]],.arr 2 [[QP 3 (ndz (t.nodes.take i)),.rslc 1 (e::es) none]],XO 5 (ndz (t.nodes.take i))]) (μ:=fun i=>t.nodes.length-i) 0 [0,1,4,5] (by omega) rfl ?_ ?_ ?_
  ·simp[forget,JH,ren,Jp,gp]
  ·rfl
  ·intro i hi
   by_cases hlt:i < t.nodes.length
   ·have d1:((i:Int) < (t.nodes.length:Int))=True:=Jn
    have hg:=Qg hlt
    have hx:=ht.nodes _ (Gd hlt)
    rw[← rowg hlt]at hx
    have hts:ndz (t.nodes.take (i+1))=ndz (t.nodes.take i)++[(t.nodes.getD i default).cv]:=by
     rw[JcU (d:=default) hlt]; simp[ndz]
    have hcl:=Yh (t.nodes.take (i+1))
    have hpl:(ndz (t.nodes.take i)).length=i:=by rw[Jb,Gy]; omega
    generalize t.nodes.getD i default=x at hg hx hts
    generalize ndz (t.nodes.take i)=Z at hts hpl ⊢
    have hM:=refMoved x (by have:=hx.kidn; omega) 0 (fun k hk=>by rw[GI]; exact hx.kids k hk)
    have hmv:mvN 0 x=x:=by
     obtain ⟨k,te,n,ks,p⟩:=x
     simp[mvN]
    rw[hmv]at hM
    simp -implicitDefEqProofs only[go_sem,Jb,d1]
    refine Yo [false,true,false,false,false,false,false,false,false,true,false,true] JD (by decide +kernel) ?_
    simp -implicitDefEqProofs only[go_sem,Jb,hg]
    refine ⟨by omega,by simp[Nd.cv],?_⟩
    refine vh_f hM ?_
    simp -implicitDefEqProofs only[go_sem]
    refine vh_row [x.cv] rfl rfl rfl rfl ?_
    simp -implicitDefEqProofs only[go_sem,JM,splice,Gg,Gi]
    refine ⟨by omega,Ji,i+1,[0,1,2,4],by omega,by omega,rfl,?_,?_⟩
    ·rw[hts]at hcl
     have hc:=Jc (ρ:=[0,1,2,4]) hcl
     rw[hts,Ky,Kz]
     simp only[KT,Gj,Gn,go_sem,Jv,hc]
     rfl
    ·simp[forget,JH,ren,Jp]
   ·have hie:i=t.nodes.length:=by omega
    subst hie
    have d1:((t.nodes.length:Int) < (t.nodes.length:Int))=False:=Jm
    rw[Gh]
    have hnc:=Yh t.nodes
    cases hN:ndz t.nodes with
    |nil=>
     have hnl:(([]:List (List CV)).length:Int)=t.nodes.length:=by rw[← hN,Jb]
     simp only[Gi]at hnl
     simp -implicitDefEqProofs only[go_sem,QS,Xz,Gi,hnl,d1,splice]
     exact .inl (Jdi ⟨wk.nils,wk.refl _,trivial⟩)
    |cons f fs=>
     have hnl:((fs.length+1:Nat):Int)=t.nodes.length:=by rw[← Gg,← hN,Jb]
     rw[Xq (by simp),Q7 (by simp)]
     simp -implicitDefEqProofs only[go_sem,Gg,hnl,d1,splice]
     rw[hN]at hnc
     exact .inr ⟨3,5,f::fs,rfl,hnc,row_aggT rfl rfl⟩
end Go.Cm
end
section
namespace Go.Cm
structure Nd.Ty (x:Nd):Prop where
 k:x.k < 256
 n:InR .i64 x.n
 kids:∀ i∈x.kids,InR .i64 i
 pl:InR .i64 x.pl
structure Tr.Ty (t:Tr):Prop where
 nodes:∀ x∈t.nodes,x.Ty
 items:∀ i∈t.items,InR .i64 i
end Go.Cm
end
section
set_option maxRecDepth 100000
set_option maxHeartbeats 4000000
open Go.Proofs
namespace Go.Cm
theorem indexI (l:List Int) (x:Int) (hl:l.length≤100000):Fn Gc 100 [.rslc 1 (iz l) none,.int .i64 x] (.int .i64 (QQ (fun y=>x == y) l 0)):=by
 have hil:(iz l).length=l.length:=Jf
 refine Ja c100_ok rfl rfl fun N=>?_
 simp -implicitDefEqProofs only[c100,go_sem,hil]
 refine Jz (I:=fun i:Nat=>i≤l.length∧QQ (fun y=>x == y) l 0=QQ (fun y=>x == y) (l.drop i) i) (inv:=fun i=>gp [(0,.rslc 1 (iz l) none),(0,.int .i64 x),(5,.int .i64 (l.length:Int)),(0,.int .i64 (i:Int))] 10) (hp:=fun _=>[]) (μ:=fun i=>l.length-i) 0 ⟨by omega,rfl⟩ ?_ rfl ?_
 ·simp[forget,gp]
 ·rintro i ⟨hi,hinv⟩
  by_cases hlt:i < l.length
  ·have d1:((i:Int) < (l.length:Int))=True:=Jn
   have hgi:=JR hlt
   have hge:l[i]? = some (l.getD i 0):=by rw[Ga,Gb hlt]; rfl
   rw[QB hge]at hinv
   simp -implicitDefEqProofs only[go_sem,hil,d1,hgi]
   generalize l.getD i 0=y at hinv ⊢
   refine ⟨by omega,?_⟩
   cases he:(x == y) with
   |true=>
    rw[he,if_pos rfl]at hinv
    simp -implicitDefEqProofs only[go_sem,hinv]
   |false=>
    rw[he]at hinv
    simp -implicitDefEqProofs only[go_sem]
    refine ⟨Ji,i+1,⟨by omega,by simpa using hinv⟩,by omega,?_⟩
    simp[forget]
  ·have d1:((i:Int) < (l.length:Int))=False:=Jm
   rw[Gx (by omega)]at hinv
   simp -implicitDefEqProofs only[go_sem,d1,hinv,QQ]
theorem containsI (l:List Int) (x:Int) (hl:l.length≤100000):Fn Gc 56 [.rslc 1 (iz l) none,.int .i64 x] (.bool (l.contains x)):=by
 refine Ja c56_ok rfl rfl fun N=>?_
 simp -implicitDefEqProofs only[c56,go_sem]
 refine JX (indexI l x hl) ?_
 have e:decide (0≤QQ (fun y=>x == y) l 0)=l.contains x:=by rw[JaE,List.contains_eq_any_beq]
 simp -implicitDefEqProofs only[go_sem,e]
def inT (t:Tr) (n:Int):Bool:=inI 0 ((t.nodes.length:Int)-1) n
theorem Jaf {t:Tr}{n:Int}:inT t n=true↔0≤n∧n < t.nodes.length:=by
 simp only[inT,inI,Gl,decide_eq_true_eq]; omega
theorem fixA_skip {α:Type}{q:α→Bool}{l:List α}:∀ (n:Nat),n≤l.length→(∀ j (h:j < l.length),j < n→q l[j]=false)→QQ q l 0=QQ q (l.drop n) n
 |0,_,_=>rfl
 |n+1,h,hq=>by
  rw[fixA_skip n (by omega) fun j hj hn=>hq j hj (by omega),QB (Gb (by omega:n < l.length)),hq n (by omega) (by omega)]
  simp
theorem refParent (t:Tr) (ht:t.Fit) {o:List Int}(g:GoodT t o) (n:Nat) (hn:n < t.nodes.length):Fn Gc 67 [t.cv,.int .i64 n] (.int .i64 (QQ (fun x:Nd=>x.kids.contains (n:Int)) t.nodes 0)):=by
 have hmany:=ht.many
 refine Ja c67_ok rfl rfl fun N=>?_
 simp -implicitDefEqProofs only[c67,go_sem,Tr.cv,Tr.row]
 refine ⟨Ji,?_⟩
 refine Jh (id:=0) (z:=2) (els:=[t.row]) rfl rfl ?_
 simp only[go_sem,J9,KA,frz,KV,Tr.row]
 have hskip:QQ (fun x:Nd=>x.kids.contains (n:Int)) t.nodes 0=QQ (fun x:Nd=>x.kids.contains (n:Int)) (t.nodes.drop (n+1)) (n+1):=by
  refine fixA_skip (n+1) (by omega) fun j hj hjn=>?_
  rw[← Bool.not_eq_true,List.contains_iff_mem]
  intro hm
  have:=g.kid hj (k:=n) (by rw[rowg hj]; exact hm)
  omega
 refine Jz (I:=fun i:Nat=>i≤t.nodes.length∧QQ (fun x:Nd=>x.kids.contains (n:Int)) t.nodes 0=QQ (fun x:Nd=>x.kids.contains (n:Int)) (t.nodes.drop i) i) (inv:=fun i=>gp [(1,.int .i64 (n:Int)),(0,.rptr t.row),(2,.int .i64 (i:Int))] 33) (hp:=fun _=>[.dead]) (μ:=fun i=>t.nodes.length-i) (n+1) ⟨by omega,hskip⟩ ?_ rfl ?_
 ·simp[forget,gp,Tr.row]
 ·rintro i ⟨hi,hinv⟩
  by_cases hlt:i < t.nodes.length
  ·have d1:((i:Int) < (t.nodes.length:Int))=True:=Jn
   have hg:=Qg hlt
   have hx:=ht.nodes _ (Gd hlt)
   rw[← rowg hlt]at hx
   have hge:t.nodes[i]? = some (t.nodes.getD i default):=by rw[Ga,Gb hlt]; rfl
   rw[QB hge]at hinv
   generalize t.nodes.getD i default=x at hg hinv hx
   have hkn:=hx.kidn
   have hxl:(iz x.kids).length=x.kids.length:=Jf
   simp -implicitDefEqProofs only[go_sem,Tr.row,Jb,d1]
   refine Jz (I:=fun j:Nat=>j≤x.kids.length∧x.kids.contains (n:Int)=(x.kids.drop j).contains (n:Int)) (inv:=fun j=>gp [(1,.int .i64 (n:Int)),(0,.rptr t.row),(2,.int .i64 (i:Int)),(0,.int .i64 (j:Int))] 32) (hp:=fun _=>[.dead]) (μ:=fun j=>x.kids.length-j) 0 ⟨by omega,rfl⟩ ?_ rfl ?_
   ·simp[forget,gp,Tr.row]
   ·rintro j ⟨hj,hjv⟩
    by_cases hjl:j < x.kids.length
    ·have d2:((j:Int) < (x.kids.length:Int))=True:=Jn
     have hgi:=JR hjl
     rw[GL hjl,List.contains_cons,show x.kids[j]=x.kids.getD j 0 by rw[Ga,Gb hjl]; rfl]at hjv
     generalize x.kids.getD j 0=k at hgi hjv
     have hsym:(k == (n:Int))=((n:Int) == k):=by rw[Bool.eq_iff_iff,beq_iff_eq,beq_iff_eq]; exact eq_comm
     cases he:(k == (n:Int)) with
     |true=>
      rw[← hsym,he,Bool.true_or]at hjv
      rw[hjv,if_pos rfl]at hinv
      simp -implicitDefEqProofs only[go_sem,Tr.row,Jb,hg,Nd.cv,hxl,d2,hgi,he,hinv]
      omega
     |false=>
      rw[← hsym,he,Bool.false_or]at hjv
      simp -implicitDefEqProofs only[go_sem,Tr.row,Jb,hg,Nd.cv,hxl,d2,hgi,he]
      refine ⟨by omega,by omega,by omega,Ji,j+1,⟨by omega,hjv⟩,by omega,?_⟩
      simp[forget,Tr.row]
    ·have d2:((j:Int) < (x.kids.length:Int))=False:=Jm
     rw[Gx (by omega)]at hjv
     rw[hjv]at hinv
     simp -implicitDefEqProofs only[go_sem,Tr.row,Jb,hg,Nd.cv,hxl,d2]
     refine ⟨by omega,Ji,i+1,⟨by omega,by simpa using hinv⟩,by omega,?_⟩
     simp[forget,Tr.row]
  ·have d1:((i:Int) < (t.nodes.length:Int))=False:=Jm
   rw[Gx (by omega)]at hinv
   simp -implicitDefEqProofs only[go_sem,Tr.row,Jb,d1,hinv,QQ]
theorem ord_take {t:Tr}{o:List Int}(g:GoodT t o):JA ((JF t.nodes).take t.nodes.length) []=some o:=by
 rw[Gr (by rw[Qq]; exact Gf _)]; exact g.ord.h
theorem refIsBelow (t:Tr) (ht:t.Fit) {o:List Int}(g:GoodT t o) (a:Int) (i:Nat) (hi:i < t.nodes.length):Fn Gc 22 [t.cv,.int .i64 a,.int .i64 i] (.bool (decide (a≤i) && decide (fs o i≤a))):=by
 refine Ja c22_ok rfl rfl fun N=>?_
 by_cases h:a≤(i:Int)
 ·have d1:(a≤(i:Int))=True:=eq_true h
  simp -implicitDefEqProofs only[c22,go_sem,Tr.cv,Tr.row,d1]
  refine JQ (gok rfl) (refFirst t (ord_take g) (Gf _) i hi) ?_
  simp -implicitDefEqProofs only[go_sem]
 ·have d1:(a≤(i:Int))=False:=eq_false h
  simp -implicitDefEqProofs only[c22,go_sem,Tr.cv,Tr.row,d1]
def kid (x:Nd) (i:Nat):Int:=x.kids.getD i 0
end Go.Cm
end
section
namespace Go.Cm
section
def flat (o:CObj):Prop:=o=.dead∨∃ z els,o=.arr z els∧Jo els=true
section
variable {P:Program}{E:Env}{H:List CObj}
theorem app_get {α:Type}{a b:List α}{k:Nat}{x:α}(h:(a++b)[k]? = some x):(k < a.length∧a[k]? = some x)∨∃ j,k=a.length+j∧b[j]? = some x:=by
 rcases Gv k a.length with hlt | hge
 ·rw[GK hlt]at h; exact .inl ⟨hlt,h⟩
 ·rw[GJ hge]at h; exact .inr ⟨k-a.length,by omega,h⟩
theorem app_get2 {α:Type}{a b:List α}{j:Nat}:(a++b)[a.length+j]? = b[j]?:=by
 rw[GJ (by omega)]; congr 1; omega
theorem CallsC.frameG {f:Nat}{args:List CV}{G:List CObj}{mk:Nat→CV}(h:CallsC P Env.none f args [] fun v H'=>v=mk 0∧H'=G) (ha:Jk args=true) (hG:∀ o∈G,flat o)
  (hmk:∀ (n:Nat) (own own':List Own) imm r,(∀ (k:Nat) x,own[k]? = some x→own'[n+k]? = some x)→rel own imm (mk 0) r→rel own' imm (mk n) r):CallsC P E f args H fun v H'=>v=mk H.length∧H'=H++G:=by
 intro m w vs hs hv
 refine (h _ w vs hs.nothing (Km _ _ ha hv)).mono ?_
 rintro e w' ⟨r,m',v,H',rfl,hext,hs',hrel,rfl,rfl⟩
 obtain ⟨h1,h2⟩:=hs.back hext hs'
 have hno:∀ B,¬ owned { own:=[],imm:=m.imm,ext:=fun _=>False } [] B:=by
  rintro B (h | ⟨k,o,x,hk,_⟩)
  ·exact h
  ·simp at hk
 have hlen:m.own.length=H.length:=hs.len
 have hold:∀ (k:Nat) o x,H[k]? = some o→o.alive=true→m.own[k]? = some x→x.B < w.heap.size:=fun k o x hk hal hx=>Xx hs hk hal hx
 have hnewB:∀ (k:Nat) o x,H'[k]? = some o→o.alive=true→m'.own[k]? = some x→w.heap.size≤x.B:=fun k o x hk hal hx=>
  (hext.newOwn x.B (.inr ⟨k,o,x,hk,hal,hx,rfl⟩)).resolve_left (hno _)
 have two:∀ (k:Nat) o x,(H++H')[k]? = some o→(m.own++m'.own)[k]? = some x→(k < H.length∧H[k]? = some o∧m.own[k]? = some x)∨∃ j,k=H.length+j∧H'[j]? = some o∧m'.own[j]? = some x:=by
  intro k o x hk hx
  rcases app_get hk with ⟨hlt,hk2⟩ | ⟨j,rfl,hk2⟩
  ·rw[GK (by omega)]at hx; exact .inl ⟨hlt,hk2,hx⟩
  ·rw[← hlen,app_get2]at hx; exact .inr ⟨j,rfl,hk2,hx⟩
 have hle:=Kj.append m.own m'.own
 refine ⟨r,{ m with own:=m.own++m'.own,imm:=m'.imm },mk H.length,H++H',rfl,?_,?_,?_,rfl,rfl⟩
 ·have hE:=h2 H.length
  refine ⟨hE.size,hE.frame,hE.imm,?_,hE.newImm,fun k x _ hx=>hle _ _ hx,fun h=>by simp; omega,hE.same⟩
  rintro B (hB | ⟨k,o,x,hk,hal,hx,rfl⟩)
  ·exact .inl (.inl hB)
  ·rcases two k o x hk hx with ⟨_,hk,hx⟩ | ⟨j,_,hk,hx⟩
   ·exact .inl (.inr ⟨k,o,x,hk,hal,hx,rfl⟩)
   ·exact .inr (hnewB j o x hk hal hx)
 ·refine ⟨by simp[hs.len,hs'.len],fun k o x hk hx=>?_,h1.imm,h1.one,fun k k' o o' x x' hk hk' ha ha' hx hx' hB=>?_,fun k o x hk hal hx=>?_,fun k s b hk=>?_,fun k o x hk hal hx=>?_,h1.extlt,h1.gl⟩
  ·rcases two k o x hk hx with ⟨_,hk,hx⟩ | ⟨j,_,hk,hx⟩
   ·exact Kk hle (J4.refl _) (fun _=>rfl) (h1.obj k o x hk hx)
   ·have ho:=hs'.obj j o x hk hx
    rcases hG o (GM hk) with rfl | ⟨z,els,rfl,hc⟩
    ·trivial
    ·obtain ⟨hz,c,elem,g1,g2,g3,g4,g5⟩:=ho
     exact ⟨hz,c,elem,g1,g2,g3,fun j e he=>⟨(g4 j e he).1,fun t c hc2=>let ⟨r,q1,q2⟩:=(g4 j e he).2 t c hc2; ⟨r,q1,QK c r (YG (YH hc _ _ he) _ _ hc2) q2⟩⟩,g5⟩
  ·rcases two k o x hk hx with ⟨_,hk,hx⟩ | ⟨j,rfl,hk,hx⟩ <;> rcases two k' o' x' hk' hx' with ⟨_,hk',hx'⟩ | ⟨j',rfl,hk',hx'⟩
   ·exact h1.sep k k' o o' x x' hk hk' ha ha' hx hx' hB
   ·have a1:=hold k o x hk ha hx
    have a2:=hnewB j' o' x' hk' ha' hx'
    omega
   ·have a1:=hold k' o' x' hk' ha' hx'
    have a2:=hnewB j o x hk ha hx
    omega
   ·rw[hs'.sep j j' o o' x x' hk hk' ha ha' hx hx' hB]
  ·rcases two k o x hk hx with ⟨_,hk,hx⟩ | ⟨j,rfl,hk,hx⟩
   ·exact h1.ro k o x hk hal hx
   ·exact hs'.ro j o x hk hal hx
  ·rcases app_get hk with ⟨_,hk2⟩ | ⟨j,rfl,hk2⟩
   ·exact h1.ext k s b hk2
   ·rcases hG _ (GM hk2) with h | ⟨z,els,h,_⟩ <;> cases h
  ·rcases two k o x hk hx with ⟨_,hk,hx⟩ | ⟨j,rfl,hk,hx⟩
   ·exact h1.extsep k o x hk hal hx
   ·intro hB
    have a1:=hnewB j o x hk hal hx
    have a2:=hs.extlt x.B hB
    omega
 ·exact hmk H.length m'.own (m.own++m'.own) m'.imm r (fun k x hk=>by rw[← hlen,app_get2]; exact hk) hrel
theorem QY {id z:Nat}{e:List (List CV)}:∀ {els:List (List CV)},Jo els=true→els.map (J9 id z e)=els
 |[],_=>rfl
 |x::xs,h=>by
  simp only[Jo,Gl]at h
  rw[Gj,KO _ h.1,QY h.2]
theorem Fn.args {f:Nat}{args args':List CV}{v:CV}(h:Fn P f args v) (hw:wks args' args):Fn P f args' v:=fun E H m w vs hs hv=>h E H m w vs hs (Jbr hw hv)
theorem rowV_shift {els:List (List CV)}(i n:Nat) {own own':List Own}{imm:Nat→Nat→Option Value}{r:Value}(ho:∀ (k:Nat) x,own[k]? = some x→own'[n+k]? = some x) (h:rel own imm (QP i els) r):rel own' imm (QP (n+i) els) r:=by
 cases els with
 |nil=>exact h
 |cons e l=>
  simp only[QP,rel]at h ⊢
  obtain ⟨x,a,c,hx,g⟩:=h
  exact ⟨x,a,c,ho _ _ hx,g⟩
theorem rowO_flat {z:Nat}{els:List (List CV)}(h:Jo els=true):flat (XO z els):=by
 cases els with
 |nil=>exact .inl rfl
 |cons e l=>exact .inr ⟨_,_,rfl,h⟩
theorem rowV_one {id:Nat}{els:List (List CV)}:(QP id els).oneCell=true:=by cases els <;> rfl
attribute [go_sem ↓] rowV_one
inductive Frzs (v0:CV):CV→List CObj→Prop
 |done {v:CV} {H:List CObj}:wk v v0→Frzs v0 v H
 |step {v:CV} {H:List CObj} (id z:Nat) (els:List (List CV)):H[id]? = some (.arr z els)→Jo els=true→Frzs v0 (frz id z els v) (KA id z els H)→Frzs v0 v H
theorem XB {f:Nat}{args:List CV}{v0:CV}(h:CallsC P Env.none f args [] fun v H'=>Frzs v0 v H') (ha:Jk args=true) (hv:v0.closed=true):Fn P f args v0:=by
 refine fn_of ?_ ha hv
 intro m w vs hs hvs
 refine (h m w vs hs hvs).mono ?_
 rintro e w' ⟨r,m',v,H',h1,h2,h3,h4,g⟩
 subst h1
 induction g generalizing m' with
 |done hw=>exact ⟨r,m',v0,_,rfl,h2,h3,hw _ _ _ h4,rfl⟩
 |step id z els g1 g2 _ ih=>
  obtain ⟨imm',hs',he,hf⟩:=Sim.freeze (n0:=([]:List CObj).length) h3 g1 g2
  exact ih _ (h2.trans he) hs' (hf _ _ h4)
def Jcq (P:Program) (f:Nat) (args:List CV) (z:Nat) (els:List (List CV)):Prop:=∀ (E:Env) (H:List CObj),CallsC P E f args H fun v H'=>v=QP H.length els∧H'=H++[XO z els]
theorem Jc8 {f:Nat}{args:List CV}{z:Nat}{els:List (List CV)}(h:CallsC P Env.none f args [] fun v H'=>∃ id,v=QP id els∧H'[id]? = some (XO z els)) (ha:Jk args=true) (hc:Jo els=true):Jcq P f args z els:=fun E H=>by
 refine CallsC.frameG (mk:=fun n=>QP n els) (G:=[XO z els]) (h.ren fun v H' ⟨id,hv,hH⟩=>⟨[id],?_,?_,?_⟩) ha (fun o ho=>by simp only[Gs]at ho; rw[ho]; exact rowO_flat hc) fun n own own' imm r ho h=>rowV_shift 0 n ho h
 ·have:=(Gw.1 hH).1
  simp[JfO,this]
 ·rw[hv]; exact Qn (by simp[ren,Jp])
 ·simp only[KT,Gj,Gn,Ga,hH,Option.getD_some]
  cases els with
  |nil=>rfl
  |cons e l=>
   have:=Jc (ρ:=[id]) hc
   simp only[XO,Jv,this]
theorem Jcq.fn {f:Nat}{args:List CV}{z:Nat}{els:List (List CV)}(h:Jcq P f args z els) (ha:Jk args=true) (hc:Jo els=true):Fn P f args (.rslc z els none):=
 Jfc ((h Env.none []).mono fun v H' ⟨h1,h2⟩=>⟨0,h1,by rw[h2]; rfl⟩) ha hc
end
section
variable {P:Program}{E:Env}{n0:Nat}{N:Fr}{Q:Exit→List CV→List CObj→Prop}{H:List CObj}{T:List CV}{k:List KItem}{l:List IOper}{es:List (List Nat)}
theorem JeH {d:Option Nat}{g:Option (Nat×Bool)}{f:Nat}{xa:List IArg}{l:List IOper}{z:Nat}{els:List (List CV)}(hg:GOk T g) (hcall:Jcq P f (xa.map (JO T)) z els) (h:Ko P E n0 N Q (.ops l::k) (put T d (QP H.length els)) (H++[XO z els])):Ok P E n0 N Q (.ops (⟨d,.call f xa,g⟩::l)::k) T H:=
 Xp hg (hcall E H) fun v H' ⟨h1,h2⟩=>by rw[h1,h2]; exact h
theorem vr_loopL {x:ICode}{σ:Type}(I:σ→Prop) (inv:σ→List CV) (hp:σ→List CObj) (μ:σ→Nat) (s0:σ) (h0:I s0) (hT:∀ Q,leads P E n0 N Q (inv s0) (hp s0) T H)
  (hb:∀ s,I s→Ko P E n0 N (Jcr P E n0 N Q k fun T' H'=>∃ s',I s'∧μ s' < μ s∧∀ Q,leads P E n0 N Q (inv s') (hp s') T' H') [.code x] (inv s) (hp s)):Ok P E n0 N Q (.code (.loop x)::k) T H:=by
 refine JfV (I:=fun s T H=>I s∧∀ Q,leads P E n0 N Q (inv s) (hp s) T H) μ s0 ⟨h0,hT⟩ ?_
 rintro s T H ⟨hs,hl⟩
 refine hl _ _ ?_
 exact (JP _ _ _ (hb s hs)).mono fun e T' H' hq=>Y3 (fun T2 H2 ⟨s',hs',hlt,hl'⟩=>⟨s',⟨hs',hl'⟩,hlt⟩) hq
def Jep (P:Program) (E:Env) (n0:Nat) (N:Fr) (Q:Exit→List CV→List CObj→Prop) (k:List KItem) (l:List IOper) (es:List (List Nat)) (T:List CV) (H:List CObj):Prop:=∀ is,Sched l.length es (fun _=>false) is→Ok P E n0 N Q (.ops (is.map (KG l))::k) T H
theorem vr_draw (hm:P.follows .mixedOrders=true) (h:Jep P E n0 N Q k l es T H):Ok P E n0 N Q (.code (.dreg l es)::k) T H:=ok_draw hm h
theorem draw_pair (i j:Nat) (hb:(!(i == j) && decide (i < es.length) && decide (j < es.length))=true) (h1:Jep P E n0 N Q k l (addE es j i) T H) (h2:Jep P E n0 N Q k l (addE es i j) T H):Jep P E n0 N Q k l es T H:=by
 intro is hs
 simp only[Gl,Bool.not_eq_true',beq_eq_false_iff_ne,decide_eq_true_eq]at hb
 rcases sched_pair hb.1.1 hb.1.2 hb.2 hs rfl rfl with h | h
 ·exact h1 is h
 ·exact h2 is h
theorem draw_leaf (bs:List Bool) (T':List CV) (H':List CObj) (hord:(l.length == bs.length && (JcP l.length es (clo es) && Xe l (clo es) (bs.map Xw)))=true) (hfin:Ok P E n0 N Q k T' H') (h:vdk P E (leads P E n0 N Q T' H') l bs T H):Jep P E n0 N Q k l es T H:=
 fun _ hs=>sched_run hord h hfin hs
def pm (p:List Nat) (a:Nat):Nat:=p.getD a a
theorem pm_out {p:List Nat}{a:Nat}(h:p.length≤a):pm p a=a:=by
 unfold pm; rw[Ga,List.getElem?_eq_none h]; rfl
def permOk (n:Nat) (p q:List Nat):Bool:=p.length == n && q.length == n && (List.range n).all fun a=>decide (pm p a < n) && decide (pm q a < n) && pm q (pm p a) == a && pm p (pm q a) == a
theorem sched_perm {n:Nat}{p q:List Nat}(hb:permOk n p q=true) {es2:List (List Nat)}(he:∀ a,a < n→es2.getD a []=(es.getD (pm p a) []).map (pm q)) {S:Nat→Bool}{is:List Nat}(h:Sched n es S is):Sched n es2 (fun a=>S (pm p a)) (is.map (pm q)):=by
 simp only[permOk,Gl,beq_iff_eq,Gt,GX,decide_eq_true_eq]at hb
 obtain ⟨⟨hpl,hql⟩,hall⟩:=hb
 have hqp:∀ a,pm p (pm q a)=a:=fun a=>by
  rcases Gv a n with h | h
  ·exact (hall a h).2
  ·rw[pm_out (p:=q) (by omega),pm_out (by omega)]
 have hpq:∀ a,pm q (pm p a)=a:=fun a=>by
  rcases Gv a n with h | h
  ·exact (hall a h).1.2
  ·rw[pm_out (p:=p) (by omega),pm_out (by omega)]
 induction h with
 |nil hn=>
  refine .nil fun a ha hS=>?_
  obtain ⟨e,h1,h2⟩:=hn _ (hall a ha).1.1.1 hS
  exact ⟨pm q e,by rw[he a ha]; exact List.mem_map_of_mem h1,by rw[hqp]; exact h2⟩
 |cons ha hS hr _ ih=>
  rename_i S a is _
  refine .cons (hall a ha).1.1.2 (by rw[hqp]; exact hS) (fun e hm=>?_) ?_
  ·rw[he _ (hall a ha).1.1.2,hqp]at hm
   obtain ⟨e',h1,rfl⟩:=List.mem_map.1 hm
   rw[hqp]; exact hr e' h1
  ·have e:(fun b=>S (pm p b) || b == pm q a)=fun b=>S (pm p b) || pm p b == a:=by
    funext b
    congr 1
    by_cases h:b=pm q a
    ·subst h; rw[hqp]; simp
    ·have:pm p b≠a:=fun hh=>h (by rw[← hh,hpq])
     rw[beq_false_of_ne h,beq_false_of_ne this]
   rw[e]; exact ih
theorem sched_mem {n : Nat} {S : Nat → Bool} {is : List Nat} (h : Sched n es S is) : ∀ a ∈ is, a < n := by
  induction h with
  | nil _ => intro a ha; cases ha
  | cons h _ _ _ ih => intro a ha; rcases GY.1 ha with h' | h'
                       · subst h'; exact h
                       · exact ih a h'
def prl (p:List Nat) (l:List IOper):List IOper:=p.map fun a=>KG l a
def pre (p q:List Nat) (es:List (List Nat)):List (List Nat):=p.map fun a=>(es.getD a []).map (pm q)
theorem draw_perm (p q:List Nat) (hb:permOk l.length p q=true) (h:Jep P E n0 N Q k (prl p l) (pre p q es) T H):Jep P E n0 N Q k l es T H:=by
 intro is hs
 have hb2:=hb
 simp only[permOk,Gl,beq_iff_eq,Gt,GX,decide_eq_true_eq]at hb2
 obtain ⟨⟨hpl,hql⟩,hall⟩:=hb2
 have hlen:(prl p l).length=l.length:=by rw[prl,List.length_map]; exact hpl
 have hs2:=sched_perm hb (es2:=pre p q es) (fun a ha=>by
  unfold pre pm
  rw[Ga,GQ,Gb (by omega)]
  simp[Ga,Gb (show a < p.length by omega)]) hs
 rw[← hlen]at hs2
 have:=h _ hs2
 have e:(is.map (pm q)).map (KG (prl p l))=is.map (KG l):=by
  rw[List.map_map]
  refine List.map_congr_left fun a ha=>?_
  have hal:=sched_mem hs a ha
  have h1:=(hall a hal).1.1.2
  have h2:=(hall a hal).2
  simp only[Function.comp]
  unfold prl KG
  rw[Ga,GQ,Gb (by omega)]
  simp only[Option.map_some,Option.getD_some]
  have e2:p[pm q a]'(by omega)=a:=by
   unfold pm at h2 ⊢
   rw[Ga,Gb (by simpa [pm]using (by omega:pm q a < p.length))]at h2
   exact h2
  rw[e2]
 rw[e]at this
 exact this
end
end
end Go.Cm
end
section
set_option maxRecDepth 100000
set_option maxHeartbeats 4000000
open Go.Proofs
namespace Go.Cm
theorem rowN {l:List Nd}{i:Nat}(h:i < l.length):l.getD i default=l[i]:=by rw[Ga,Gb h]; rfl
theorem GoodT.item {t:Tr}{o:List Int}(g:GoodT t o) {i:Nat}(hi:i < t.items.length):∃ L F:Nat,t.items.getD i 0=(L:Int)∧fs o L=(F:Int)∧F≤L∧L < t.nodes.length∧o.length=t.nodes.length∧o.getD L 0=(F:Int):=by
 have hol:o.length=t.nodes.length:=by rw[g.ord.len,Qq]
 have hm:t.items.getD i 0∈t.items:=by
  rw[Ga,Gb hi]; exact Gd hi
 obtain ⟨_,h2,h3,h4⟩:=KX g.ord.ok hol _ _ _ g.its _ hm
 obtain ⟨h5,h6⟩:=Jf9 g.ord.ok h2 (by omega)
 generalize t.items.getD i 0=L at *
 obtain ⟨L,rfl⟩:∃ n:Nat,L=(n:Int):=⟨L.toNat,by omega⟩
 exact ⟨L,(fs o L).toNat,rfl,by omega,by omega,by omega,hol,by rw[show o.getD L 0=fs o (L:Int) by simp[fs]]; omega⟩
theorem GoodT.itr {t:Tr}{o:List Int}(g:GoodT t o) {i:Int}(hi:i∈t.items):0≤i∧i < t.nodes.length:=by
 have hol:o.length=t.nodes.length:=by rw[g.ord.len,Qq]
 obtain ⟨_,h2,h3,h4⟩:=KX g.ord.ok hol _ _ _ g.its _ hi
 exact ⟨h2,h4⟩
end Go.Cm
end
section
namespace Go.Cm
section
theorem chain_app {o:List Int}{m:Nat}:∀ (x y:List Int) (a e:Int),chain o m a (x++y) e↔∃ c,chain o m a x c∧chain o m c y e
 |[],y,a,e=>by simp[chain]
 |i::x,y,a,e=>by
  simp only[Gz,chain,chain_app x y]
  constructor
  ·rintro ⟨h1,c,h2,h3⟩; exact ⟨c,⟨h1,h2⟩,h3⟩
  ·rintro ⟨c,⟨h1,h2⟩,h3⟩; exact ⟨h1,c,h2,h3⟩
theorem fixA_at {α:Type}{q:α→Bool}:∀ (l:List α) (i:Nat),QQ q l i = -1∧(∀ x∈l,q x=false)∨∃ j x,QQ q l i=((i+j:Nat):Int)∧l[j]? = some x∧q x=true:=by
 intro l
 induction l with
 |nil=>intro i; exact .inl ⟨rfl,by simp⟩
 |cons y l ih=>
  intro i
  simp only[QQ]
  cases hq:q y with
  |true=>exact .inr ⟨0,y,by simp,rfl,hq⟩
  |false=>
   rcases ih (i+1) with ⟨h1,h2⟩ | ⟨j,x,h1,h2,h3⟩
   ·exact .inl ⟨by simpa using h1,fun x hx=>by
     rcases GY.1 hx with rfl | hx
     ·exact hq
     ·exact h2 x hx⟩
   ·exact .inr ⟨j+1,x,by rw[show i+(j+1)=i+1+j by omega]; simpa using h1,by simpa using h2,h3⟩
section
variable {t:Tr}{o:List Int}(g:GoodT t o)
def endI (t:Tr):Nat→Nat
 |0=>0
 |i+1=>(t.items.getD i 0).toNat+1
include g
theorem Jaa:∀ i,i≤t.items.length→chain o t.nodes.length 0 (t.items.take i) (endI t i)∧chain o t.nodes.length (endI t i) (t.items.drop i) t.nodes.length:=by
 intro i hi
 have h:=g.its
 rw[← List.take_append_drop i t.items,chain_app]at h
 obtain ⟨c,h1,h2⟩:=h
 have hc:c=(endI t i:Int):=by
  cases i with
  |zero=>simp[chain]at h1; simp[endI,h1]
  |succ i=>
   rw[JcU (d:=0) (by omega),JaG]at h1
   simp only[endI]
   omega
 rw[hc]at h1 h2
 exact ⟨h1,h2⟩
theorem item_at {i:Nat}(hi:i < t.items.length):∃ L:Nat,t.items.getD i 0=(L:Int)∧fs o L=(endI t i:Int)∧endI t i≤L∧L < t.nodes.length∧endI t (i+1)=L+1:=by
 obtain ⟨L,F,hL,hFs,hFL,hLn,hol,hoL⟩:=g.item hi
 have h:=(Jaa g i (by omega)).2
 have e0:t.items.drop i=t.items.getD i 0::t.items.drop (i+1):=by
  rw[GL hi,Ga,Gb hi]; rfl
 rw[e0,hL]at h
 simp only[chain,GH]at h
 have:(F:Int)=endI t i:=by rw[← hoL]; exact h.1.2.2
 refine ⟨L,hL,by rw[hFs]; exact this,by omega,hLn,?_⟩
 simp only[endI,hL,GH]
theorem par_in:∀ (N n:Nat),N < t.nodes.length→fs o N≤n→n < N→∃ m:Nat,n < m∧m≤N∧(n:Int)∈(t.nodes.getD m default).kids:=by
 intro N
 induction N using Nat.strongRecOn with
 |_ N ih=>
  intro n hN h1 h2
  have hK:=JV hN
  obtain ⟨c,hc,h3,h4⟩:=QL g.ord.ok rfl _ _ _ (n:Int) (g.ord.kids hK) h1 (by omega)
  have hr:=g.ord.kid_rng hK hc
  by_cases he:c=n
  ·subst he; exact ⟨N,h2,Gf _,hc⟩
  ·obtain ⟨c,rfl⟩:∃ k:Nat,c=(k:Int):=⟨c.toNat,by omega⟩
   obtain ⟨m,q1,q2,q3⟩:=ih c (by omega) n (by omega) h3 (by omega)
   exact ⟨m,q1,by omega,q3⟩
def J2 (t:Tr) (n:Nat):Int:=QQ (fun x:Nd=>x.kids.contains (n:Int)) t.nodes 0
theorem QF {n:Nat}(hn:n < t.nodes.length):(J2 t n = -1∧∀ m:Nat,m < t.nodes.length→(n:Int)∉(t.nodes.getD m default).kids)∨∃ m:Nat,J2 t n=(m:Int)∧n < m∧m < t.nodes.length∧(n:Int)∈(t.nodes.getD m default).kids:=by
 rcases fixA_at (q:=fun x:Nd=>x.kids.contains (n:Int)) t.nodes 0 with ⟨h1,h2⟩ | ⟨j,x,h1,h2,h3⟩
 ·refine .inl ⟨h1,fun m hm hk=>?_⟩
  have:=h2 (t.nodes.getD m default) (by rw[rowN hm]; exact Gd hm)
  simp only[GN,decide_eq_false_iff_not]at this
  exact this hk
 ·have hj:=(Gw.1 h2).1
  have hx:t.nodes.getD j default=x:=by rw[Ga,h2]; rfl
  simp only[GN,decide_eq_true_eq]at h3
  rw[← hx]at h3
  have:=g.kid hj h3
  exact .inr ⟨j,by rw[Gp]at h1; exact h1,by omega,hj,h3⟩
end
end
end Go.Cm
end
end
