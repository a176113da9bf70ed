/-
  A part of the proof. Conditions: none.
-/
import Derived.Test.YtebakpoggommpaaGreatDoorQPkRK
import Derived.Test.YtebakpoggommpaaGreatDoorQPkRF
import Derived.Lib.Join
import Derived.Lib.ItoaLen
set_option linter.unusedSimpArgs false
set_option linter.unusedVariables false
open Go.Proofs.Tryz renaming prog→Gd
open Int renaming toNat_natCast→Gw,cast_ofNat_Int→GL,add_zero→GA
open Nat renaming le_refl→Gj,zero_add→Gn,lt_or_ge→GM
open List renaming getD_eq_getElem?_getD→Ga,getElem?_eq_getElem→Gf,length_cons→Gb,length_nil→Gc,getElem_mem→Gi,map_cons→Gg,map_nil→Gh,take_length→Gl,take_of_length_le→Gt,cons_append→Gm,mem_singleton→Gp,take_succ_eq_append_getElem→GD,drop_eq_nil_of_le→Gx,nil_append→Gq,getElem?_eq_some_iff→GG,drop_eq_getElem_cons→GH,length_take→Gu,drop_zero→Gv,mem_append→Gy,all_eq_true→GI,mem_map→Gz,length_map→GJ,length_append→GN,getElem?_map→GQ,getElem?_append_right→GZ,getElem?_append_left→G5,mem_cons→GR,mem_of_mem_take→G6,mem_of_getElem?→G7,getElem?_of_mem→G8,contains_eq_mem→G9,getD_cons_zero→Ha,getD_cons_succ→Hd,range→GU,any_eq_false→He,all_eq_false→Hf,length_drop→Hg,map_append→Hl,foldl_cons→Hm,replicate→Ho,mem_range→Hq
open Bool renaming and_eq_true→Gr,true_and→Gs,and_eq_false_iff→GV,not_false→GK,false_and→GX,not_true→GY,or_eq_false_iff→Hr,not_eq_true→Ht,eq_iff_iff→Hu
noncomputable section
section
set_option maxRecDepth 100000
set_option maxHeartbeats 40000000
open Go.Proofs
namespace Go.Cm
theorem refKin28 (t:Tr) (x:Nd) (hx:x.Fit) (hm:t.nodes.length≤1400) (hn:∀ y∈t.nodes,y.k < 256) (hk:∀ k∈x.kids,0≤k∧k < t.nodes.length) (h28:x.k=28) :
  Fn Gd 44 [t.cv,.agg x.cv] (.bool (KZ x.k x.n (lets t.nodes x))):=by
 have hkn:=hx.kidn
 have hll:=QK (l:=t.nodes) (x:=x)
 have hK:∀ (c:Nat) (b:UInt8),(c,b)∈([(200,101),(201,116),(202,99),(40,66),(41,83),(42,98),(43,73),(44,78),(45,71),(48,79),(64,80)]:List (Nat×UInt8))→∀ p q:Int,Fn Gd 98 [t.cv,.agg x.cv,.int .i64 p,.int .i64 q,.int .u8 c] (.bool (JU (lets t.nodes x) p q b)):=by
  intro c b hcb p q
  have:=refKids t x hx hm hk p q c
  rw[kids_conv hn hk (fun k h=>cls_all ⟨k,h⟩ (c,b) hcb)]at this
  exact this
 have hM:=refMany t x hx hk 41
 rw[Jd9 (b:=83) hn hk (fun k h=>(let_all ⟨k,h⟩).1)]at hM
 have hc83:K9 83 (lets t.nodes x)≤30:=Nat.le_trans (cntB_le _ _) (by omega)
 have K200:=hK 200 101 (by decide)
 have K41:=hK 41 83 (by decide)
 have K43:=hK 43 73 (by decide)
 have K44:=hK 44 78 (by decide)
 have K45:=hK 45 71 (by decide)
 simp only[GL]at K200 K41 K43 K44 K45 hM
 obtain ⟨k,text,n,kids,pl⟩:=x
 simp only at h28
 subst h28
 generalize lets t.nodes ⟨28,text,n,kids,pl⟩=hv at hll K200 K41 K43 K44 K45 hM hc83 ⊢
 obtain ⟨cs,hcs⟩:∃ cs:Int,cs=(K9 83 hv:Int):=⟨_,rfl⟩
 rw[← hcs]at hM
 simp only[Nd.cv,Tr.cv,Tr.row]at hkn hll K200 K41 K43 K44 K45 hM ⊢
 clear hK
 obtain ⟨m,hmm⟩:∃ m:Int,m=(kids.length:Int):=⟨_,rfl⟩
 refine Jb c44_ok rfl rfl fun N=>?_
 simp (maxSteps:=2000000) -implicitDefEqProofs only[c44,go_sem,Jf,GL,← hmm]
 refine JR hM ?_
 by_cases h0:0≤n
 ·have f0:((0:Int)≤n)=True:=eq_true h0
  by_cases h1:n < m
  ·have f1:(n < m)=True:=eq_true h1
   simp (maxSteps:=2000000) -implicitDefEqProofs only[go_sem,Jf,← hmm,f0,f1]
   have hkk:KZ 28 n hv=(JU hv 0 n 73 && JU hv n (n+1) 101 && JU hv (n+1) (n+1+cs) 83 && JU hv (n+1+cs) (m-1) 78 && JU hv (m-1) m 71):=by
    simp[KZ,hll,← hmm,← hcs,h0,h1]
   rw[hkk]
   refine JV (gok rfl) (K43 (0) n) ?_
   cases g0:JU hv (0) n 73 with
   |false=>simp (maxSteps:=2000000) -implicitDefEqProofs only[go_sem,Jf,← hmm]; try simp
   |true=>
    simp (maxSteps:=2000000) -implicitDefEqProofs only[go_sem,Jf,← hmm]
    refine ⟨Jj,?_⟩
    refine JV (gok rfl) (K200 (n) (n+1)) ?_
    cases g1:JU hv (n) (n+1) 101 with
    |false=>simp (maxSteps:=2000000) -implicitDefEqProofs only[go_sem,Jf,← hmm]; try simp
    |true=>
     simp (maxSteps:=2000000) -implicitDefEqProofs only[go_sem,Jf,← hmm]
     refine ⟨Jj,?_⟩
     refine ⟨Jj,?_⟩
     refine ⟨Jj,?_⟩
     refine JV (gok rfl) (K41 (n+1) (n+1+cs)) ?_
     cases g2:JU hv (n+1) (n+1+cs) 83 with
     |false=>simp (maxSteps:=2000000) -implicitDefEqProofs only[go_sem,Jf,← hmm]; try simp
     |true=>
      simp (maxSteps:=2000000) -implicitDefEqProofs only[go_sem,Jf,← hmm]
      refine ⟨Jj,?_⟩
      refine ⟨Jj,?_⟩
      refine ⟨Jj,?_⟩
      refine JV (gok rfl) (K44 (n+1+cs) (m-1)) ?_
      cases g3:JU hv (n+1+cs) (m-1) 78 with
      |false=>simp (maxSteps:=2000000) -implicitDefEqProofs only[go_sem,Jf,← hmm]; try simp
      |true=>
       simp (maxSteps:=2000000) -implicitDefEqProofs only[go_sem,Jf,← hmm]
       refine ⟨Jj,?_⟩
       refine JV (gok rfl) (K45 (m-1) m) ?_
       cases g4:JU hv (m-1) m 71 with
       |false=>simp (maxSteps:=2000000) -implicitDefEqProofs only[go_sem,Jf,← hmm]; try simp
       |true=>
        simp (maxSteps:=2000000) -implicitDefEqProofs only[go_sem,Jf,← hmm]
        try simp
  ·have f1:(n < m)=False:=eq_false h1
   simp (maxSteps:=2000000) -implicitDefEqProofs only[go_sem,Jf,← hmm,f0,f1]
   simp[KZ,hll,← hmm,h1]
 ·have f0:((0:Int)≤n)=False:=eq_false h0
  simp (maxSteps:=2000000) -implicitDefEqProofs only[go_sem,Jf,← hmm,f0]
  simp[KZ,h0]
end Go.Cm
end
section
open Go.Shelf Go.RowKit Go.Proofs
namespace Go.Proofs
open Go.Cm in
set_option maxHeartbeats 4000000 in
set_option maxRecDepth 100000 in
theorem Tryz.kinMax_walk (ta tb:Value) (s:ByteArray) (b:Option Addr) (len cap:Nat) (pl:Int) (hl:len≤1000) (w:World) :
  Calls Gd 44 #[.agg #[ta,tb],.agg #[.int .u8 41,.string s,.int .i64 9223372036854775807,.slice b len cap,.int .i64 pl]] w fun e w'=>e=.returned (.bool false)∧Below w.heap.size w w':=by
 have hw:wrap64 9223372036854775808 = -9223372036854775808:=by decide +kernel
 have hne:¬ ((len:Int)=wrap64 9223372036854775808):=by omega
 go_enter Tryz.func44,Tryz.ntmps44
 go_wp2
 all_goals first
  |(exfalso; omega)
  |skip
 go_ret
 exact ⟨rfl,((Below.refl _ _).alloc (Gj _) _).alloc (show _≤(w.heap.push _).size by rw[Array.size_push]; omega) _⟩
end Go.Proofs
namespace Go.Cm
theorem refKinMax (t:Tr) (x:Nd) (hx:x.Fit) (h41:x.k=41) (hm:x.n=9223372036854775807):Fn Gd 44 [t.cv,.agg x.cv] (.bool (KZ x.k x.n (lets t.nodes x))):=by
 have hkn:=hx.kidn
 have hll:=QK (l:=t.nodes) (x:=x)
 have hf:KZ x.k x.n (lets t.nodes x)=false:=by
  rw[h41,hm]
  have:((lets t.nodes x).length:Int)≠9223372036854775808:=by omega
  simp[KZ,this]
 rw[hf]
 intro E H
 refine KG fun m w vs hs hv=>?_
 obtain ⟨k,text,n,kids,pl⟩:=x
 simp only at h41 hm
 subst h41 hm
 simp only[JM,rel,Tr.cv,Tr.row,Nd.cv]at hv
 obtain ⟨r,rs,e,⟨v1,rfl,ra,ras,e1,-,rb,rbs,e2,-,e3⟩,x,xs,e4,⟨v2,rfl,y1,ys1,f1,g1,y2,ys2,f2,g2,y3,ys3,f3,g3,y4,ys4,f4,g4,y5,ys5,f5,g5,f6⟩,e5⟩:=hv
 have hvs:vs=#[.agg v1,.agg v2]:=by cases vs; simp_all
 have h1:v1=#[ra,rb]:=by cases v1; simp_all
 have h2:v2=#[y1,y2,y3,y4,y5]:=by cases v2; simp_all
 subst hvs h1 h2 g1 g2 g3 g5
 have h4:∃ b c,y4=.slice b kids.length c:=by
  rcases g4 with ⟨-,h,b,rfl⟩ | ⟨B,o,c,rfl,-⟩
  ·have:kids.length=0:=by rw[← Jf (l:=kids),h]; rfl
   exact ⟨b,0,by rw[this]⟩
  ·exact ⟨_,c,by rw[Jf]⟩
 obtain ⟨b,c,rfl⟩:=h4
 exact ⟨_,Tryz.kinMax_walk ra rb ⟨⟨text⟩⟩ b kids.length c pl (by simp only at hkn; omega) w,rfl⟩
theorem refKin (t:Tr) (x:Nd) (hx:x.Fit) (hm:t.nodes.length≤1400) (hn:∀ y∈t.nodes,y.k < 256) (hk:∀ k∈x.kids,0≤k∧k < t.nodes.length):Fn Gd 44 [t.cv,.agg x.cv] (.bool (KZ x.k x.n (lets t.nodes x))):=by
 by_cases h28:x.k=28
 ·exact refKin28 t x hx hm hn hk h28
 ·by_cases h41:x.k=41∧x.n=9223372036854775807
  ·exact refKinMax t x hx h41.1 h41.2
  ·exact refKin1 t x hx hm hn hk (fun h=>by
   have h5:x.n≤9223372036854775807:=hx.n.2
   have h6:x.n≠9223372036854775807:=fun e=>h41 ⟨h,e⟩
   omega) h28
end Go.Cm
end
section
set_option maxRecDepth 100000
set_option maxHeartbeats 4000000
open Go.Proofs
namespace Go.Cm
def mD (d:List Int) (ks:List Int):Int:=ks.foldl (fun a k=>mx a (d.getD k.toNat 0)) 0
theorem mx_succ (a b:Int):mx (a+1) (b+1)=mx a b+1:=by unfold mx; split <;> split <;> omega
theorem ownD_mD (d ks:List Int):Jew d ks=mD d ks+1:=by
 have key:∀ (l:List Int) (a:Int),l.foldl (fun a k=>mx a (d.getD k.toNat 0+1)) (a+1)=l.foldl (fun a k=>mx a (d.getD k.toNat 0)) a+1:=by
  intro l
  induction l with
  |nil=>intro a; rfl
  |cons k l ih=>intro a; rw[Hm,Hm,mx_succ]; exact ih _
 exact key ks 0
theorem mD_rng {d:List Int}{m:Int}(h:∀ v∈d,1≤v∧v≤m) (hm:0≤m) (ks:List Int):0≤mD d ks∧mD d ks≤m:=by
 have:=Jf0 (m:=m) h hm ks 1 (by omega) (by omega)
 have e:=ownD_mD d ks
 unfold Jew at e
 omega
theorem JeX (t:Tr) (ht:t.Fit) {o:List Int}(ho:Jt (Js t.nodes) []=some o):Fn Gd 39 [t.cv] (.bool (JaF t)):=by
 have hmany:=ht.many
 refine Jb c39_ok rfl rfl fun N=>?_
 simp -implicitDefEqProofs only[c39,go_sem,Tr.cv,Tr.row]
 refine Je (id:=0) (z:=2) (els:=[t.row]) rfl rfl ?_
 simp only[go_sem,JS,Ki,frz,KP]
 refine Jy (I:=fun i:Nat=>i≤t.nodes.length∧∀ v∈Km ((Js t.nodes).take i) [],v≤30) (inv:=fun i=>gp [(1,.rptr t.row),(1,.slc 1 0 (iz (Km ((Js t.nodes).take i) [])).length (JbF (iz (Km ((Js t.nodes).take i) [])))),(0,.int .i64 (i:Int))] 43)
  (hp:=fun i=>[.dead,.arr 1 (iz (Km ((Js t.nodes).take i) []))]) (μ:=fun i=>t.nodes.length-i) 0 [0,1] ⟨by omega,by simp[Km]⟩ rfl ?_ rfl ?_
 ·simp[forget,JA,ren,Jl,gp,Km,iz,JbF]
 ·rintro i ⟨hi,hall⟩
  have hdl:(Km ((Js t.nodes).take i) []).length=i:=by
   rw[Xi,Gu]
   simp[Js]
   omega
  have hdk:=Jgs ((Js t.nodes).take i) [] (by intro v hv; simp at hv)
  by_cases hlt:i < t.nodes.length
  ·have hstep:=YG (JK hlt)
   have hbel:=QM ho (JK hlt)
   have hx:=ht.nodes _ (Gi hlt)
   rw[← rowg hlt]at hx
   have hln:=hdl
   clear hdl
   have hbig:∀ v∈Km ((Js t.nodes).take (i+1)) [],v∈Km (Js t.nodes) []:=by
    intro v hv
    rw[YF (by rw[Ko]; omega)]at hv
    exact G6 hv
   generalize hD:Km ((Js t.nodes).take i) []=d at hstep hln hdk hall ⊢
   have d1:((i:Int) < (t.nodes.length:Int))=True:=Jo
   simp -implicitDefEqProofs only[go_sem,Tr.row,Jc,d1]
   have hg:=KQ hlt
   generalize t.nodes.getD i default=x at hstep hbel hx hg ⊢
   have hkn:=hx.kidn
   have hdr:∀ v∈d,1≤v∧v≤i:=fun v hv=>by have:=hdk v hv; omega
   refine JC (I:=fun j:Nat=>j≤x.kids.length) (inv:=fun j=>gp [(1,.rptr t.row),(1,.slc 1 0 (iz d).length (JbF (iz d))),(0,.int .i64 (i:Int)),(0,.int .i64 (mD d (x.kids.take j))),(0,.int .i64 (j:Int))] 41)
    (hp:=fun _=>[.dead,.arr 1 (iz d)]) (μ:=fun j=>x.kids.length-j) 0 (by omega) ?_ rfl ?_
   ·simp[forget,gp,mD,Tr.row]
   ·intro j hj
    have hxl:(iz x.kids).length=x.kids.length:=Jf
    by_cases hjl:j < x.kids.length
    ·have d2:((j:Int) < (x.kids.length:Int))=True:=Jo
     have hmem:x.kids.getD j 0∈x.kids:=by
      rw[Ga,Gf hjl]; exact Gi hjl
     have hb:=hbel _ hmem
     have hst:mD d (x.kids.take (j+1))=mx (mD d (x.kids.take j)) (d.getD (x.kids.getD j 0).toNat 0):=by
      have hgk:x.kids.getD j 0=x.kids[j]:=by rw[Ga,Gf hjl]; rfl
      unfold mD
      rw[GD hjl,List.foldl_append,hgk]; rfl
     have hgi:=JP hjl
     generalize x.kids.getD j 0=k at hb hst hgi
     have hgk:=JP (l:=d) (i:=k.toNat) (by omega)
     have hgr:=Jgd (m:=i) (fun v hv=>by have:=hdr v hv; omega) (by omega) k.toNat
     have hdz:(iz d).length=d.length:=Jf
     simp -implicitDefEqProofs only[go_sem,Tr.row,Jc,hg,Nd.cv,hxl,d2,hgi,hgk]
     refine ⟨by omega,by omega,by omega,by omega,by omega,Jj,j+1,by omega,by omega,?_⟩
     rw[hst]
     simp[forget,mx]
    ·have hje:j=x.kids.length:=by omega
     subst hje
     have d2:((x.kids.length:Int) < (x.kids.length:Int))=False:=Jn
     rw[Gl]
     have hmr:=mD_rng hdr (by omega) x.kids
     have hdz:(iz d).length=d.length:=Jf
     rw[ownD_mD]at hstep
     have hz:iz (d++[mD d x.kids+1])=iz d++[[.int .i64 (mD d x.kids+1)]]:=Ka
     have hcl:=Jd (d++[mD d x.kids+1])
     generalize mD d x.kids=v at hstep hmr hz hcl ⊢
     by_cases hv:30 < v+1
     ·have d3:((30:Int) < v+1)=True:=eq_true hv
      have hB:JaF t=true:=by
       rw[JaF,List.any_eq_true]
       exact ⟨v+1,hbig _ (by rw[hstep]; simp),by simpa using hv⟩
      simp -implicitDefEqProofs only[go_sem,Tr.row,Jc,hg,Nd.cv,hxl,d2,d3,Jr,hB]
      repeat' apply And.intro
      all_goals first | omega | exact Jj
     ·have d3:((30:Int) < v+1)=False:=eq_false hv
      simp -implicitDefEqProofs only[go_sem,Tr.row,Jc,hg,Nd.cv,hxl,d2,d3,Jr]
      refine ⟨by omega,Jj,by omega,Jj,Jj,i+1,[0,3],⟨by omega,?_⟩,by omega,rfl,?_,?_⟩
      ·rw[hstep]
       intro u hu
       rcases Gy.1 hu with hu | hu
       ·exact hall u hu
       ·rw[Gp.1 hu]; omega
      ·rw[hstep]
       have hc:=Ja (ρ:=[0,3]) hcl
       simp only[Ke,Gg,Gh,go_sem,Ji]
       rw[hz]at hc ⊢
       rw[hc]
       rfl
      ·rw[hstep,hz,Y2]
       simp[forget,JA,ren,Jl,Jf,Tr.row]
  ·have hie:i=t.nodes.length:=by omega
   subst hie
   have d1:((t.nodes.length:Int) < (t.nodes.length:Int))=False:=Jn
   have hB:JaF t=false:=by
    rw[JaF,← Gt (l:=Js t.nodes) (i:=t.nodes.length) (by simp[Js]),He]
    intro v hv
    have:=hall v hv
    simp; omega
   rw[hB]
   simp -implicitDefEqProofs only[go_sem,Tr.row,Jc,d1]
theorem JaL {t:Tr}(h1:¬ (700 < t.nodes.length∨20 < t.items.length)) (h2:frm t=false):chk t=4:=by
 unfold chk; rw[if_neg h1,if_neg (by rw[h2]; simp)]
theorem frm_none {t:Tr}(h:Jt (Js t.nodes) []=none):frm t=false:=by unfold frm; rw[h]
theorem frm_kid {t:Tr}{i:Nat}(hi:i < t.nodes.length) {k:Int}(hk:k∈(t.nodes.getD i default).kids) (hb:¬ (0≤k∧k < i)):frm t=false:=by
 cases h:Jt (Js t.nodes) []with
 |none=>exact frm_none h
 |some o=>exact absurd (QM h (JK hi) k hk) hb
theorem frm_nd {t:Tr}{i:Nat}(hi:i < t.nodes.length) (hb:ndI t.nodes (t.nodes.getD i default)=false):frm t=false:=by
 unfold frm
 cases h:Jt (Js t.nodes) []with
 |none=>rfl
 |some o=>
  simp only[GV]
  right
  rw[Hf]
  refine ⟨t.nodes.getD i default,?_,by rw[hb]; simp⟩
  rw[Ga,Gf hi]; exact Gi hi
theorem step_ord {K:List (List Int)}{i:Nat}{o ks:List Int}(ho:Jt (K.take i) []=some o) (hk:K[i]? = some ks) :
  (Jt (K.take (i+1)) []=none∧(Jex (fs o) ks.reverse i).2=false)∨(∃ f,Jt (K.take (i+1)) []=some (o++[f])∧(Jex (fs o) ks.reverse i).2=true):=by
 obtain ⟨h1,h2⟩:=JaA ho hk
 have hok:=Qh _ _ _ QG.nil ho
 have h3:=Je2 (fst:=fs o) hok (fun k _ _=>rfl) ks.reverse ((o.length:Int)-1) (by omega)
 rw[h1]
 unfold Jci
 have e:((o.length:Int)-1+1)=(i:Int):=by omega
 rw[e]at h3
 cases h4:Qd o ks.reverse ((o.length:Int)-1) with
 |none=>rw[h4]at h3; exact .inl ⟨rfl,h3⟩
 |some b=>rw[h4]at h3; simp only at h3; exact .inr ⟨b+1,rfl,by rw[h3]⟩
theorem ndI_R (l:List Nd) (x:Nd):ndI l x=(KZ x.k x.n (lets l x) && Qx (Jac x.text) x.k x.text x.n x.pl && K8 x.k x.n (lets l x)):=by
 unfold ndI; rw[node_eq]; rfl
theorem JfV (t:Tr) (ht:t.Fit):Fn Gd 11 [t.cv] (.int .i64 (chk t)):=by
 have hmany:=ht.many
 have hitems:=ht.items
 refine Jb c11_ok rfl rfl fun N=>?_
 simp -implicitDefEqProofs only[c11,go_sem,Tr.cv,Tr.row]
 refine Je (id:=0) (z:=2) (els:=[t.row]) rfl rfl ?_
 simp only[go_sem,JS,Ki,frz,KP,Tr.row]
 refine JR (refLimits t) ?_
 by_cases h1:700 < t.nodes.length∨20 < t.items.length
 ·have hc:chk t=5:=by unfold chk; rw[if_pos h1]
  rw[decide_eq_false (not_not_intro h1),hc]
  simp -implicitDefEqProofs only[go_sem]
 ·rw[decide_eq_true h1]
  simp -implicitDefEqProofs only[go_sem]
  refine JC (I:=fun i:Nat=>i≤t.nodes.length∧∀ j,j < i→∀ k∈(t.nodes.getD j default).kids,0≤k∧k < j) (inv:=fun i=>gp [(1,.rptr t.row),(1,.int .i64 (i:Int))] 123) (hp:=fun _=>[.dead]) (μ:=fun i=>t.nodes.length-i) 0 ⟨by omega,by omega⟩ ?_ rfl ?_
  ·simp[forget,gp,Tr.row]
  ·rintro i ⟨hi,hkids⟩
   by_cases hlt:i < t.nodes.length
   ·have d1:((i:Int) < (t.nodes.length:Int))=True:=Jo
    have hx:=ht.nodes _ (Gi hlt)
    rw[← rowg hlt]at hx
    have hg:=KQ hlt
    have hfk:=fun {k:Int} (hk:k∈(t.nodes.getD i default).kids) (hb:¬ (0≤k∧k < i))=>frm_kid hlt hk hb
    have hsucc:(∀ k∈(t.nodes.getD i default).kids,0≤k∧k < i)→∀ j,j < i+1→∀ k∈(t.nodes.getD j default).kids,0≤k∧k < j:=by
     intro h j hj
     by_cases e:j=i
     ·subst e; exact h
     ·exact hkids j (by omega)
    generalize t.nodes.getD i default=x at hx hg hfk hsucc
    have hkn:=hx.kidn
    have hxl:(iz x.kids).length=x.kids.length:=Jf
    simp -implicitDefEqProofs only[go_sem,Tr.row,Jc,d1]
    refine JC (I:=fun j:Nat=>j≤x.kids.length∧∀ k∈x.kids.take j,0≤k∧k < i) (inv:=fun j=>gp [(1,.rptr t.row),(1,.int .i64 (i:Int)),(0,.int .i64 (j:Int))] 122) (hp:=fun _=>[.dead]) (μ:=fun j=>x.kids.length-j) 0 ⟨by omega,by simp⟩ ?_ rfl ?_
    ·simp[forget,gp,Tr.row]
    ·rintro j ⟨hj,hkj⟩
     by_cases hjl:j < x.kids.length
     ·have d2:((j:Int) < (x.kids.length:Int))=True:=Jo
      have hgi:=JP hjl
      have hmem:x.kids.getD j 0∈x.kids:=by
       rw[Ga,Gf hjl]; exact Gi hjl
      have hts:x.kids.take (j+1)=x.kids.take j++[x.kids.getD j 0]:=by
       rw[GD hjl,Ga,Gf hjl]; rfl
      generalize x.kids.getD j 0=k at hgi hmem hts
      simp -implicitDefEqProofs only[go_sem,Tr.row,Jc,hg,Nd.cv,hxl,d2,hgi]
      refine ⟨by omega,by omega,by omega,Jj,?_⟩
      refine JR (Jbc k 0 ((i:Int)-1)) ?_
      cases hin:inI 0 ((i:Int)-1) k with
      |true=>
       simp only[inI,Gr,decide_eq_true_eq]at hin
       simp -implicitDefEqProofs only[go_sem]
       refine ⟨Jj,j+1,⟨by omega,?_⟩,by omega,?_⟩
       ·rw[hts]
        intro u hu
        rcases Gy.1 hu with hu | hu
        ·exact hkj u hu
        ·rw[Gp.1 hu]; omega
       ·simp[forget]
      |false=>
       have hb:¬ (0≤k∧k < i):=by
        simp only[inI,GV,decide_eq_false_iff_not]at hin
        omega
       rw[JaL h1 (hfk hmem hb)]
       simp -implicitDefEqProofs only[go_sem]
     ·have hje:j=x.kids.length:=by omega
      subst hje
      rw[Gl]at hkj
      have d2:((x.kids.length:Int) < (x.kids.length:Int))=False:=Jn
      simp -implicitDefEqProofs only[go_sem,Tr.row,Jc,hg,Nd.cv,hxl,d2]
      refine ⟨by omega,Jj,i+1,⟨by omega,hsucc hkj⟩,by omega,?_⟩
      simp[forget]
   ·have hie:i=t.nodes.length:=by omega
    subst hie
    have d1:((t.nodes.length:Int) < (t.nodes.length:Int))=False:=Jn
    simp -implicitDefEqProofs only[go_sem,Tr.row,Jc,d1]
    refine JC (I:=fun i:Nat=>i≤t.nodes.length∧(∃ o,Jt ((Js t.nodes).take i) []=some o)∧∀ j,j < i→ndI t.nodes (t.nodes.getD j default)=true) (inv:=fun i=>gp [(1,.rptr t.row),(3,.int .i64 (i:Int))] 121) (hp:=fun _=>[.dead]) (μ:=fun i=>t.nodes.length-i) 0 ⟨by omega,⟨[],by simp[Jt]⟩,by omega⟩ ?_ rfl ?_
    ·simp[forget,gp,Tr.row]
    ·rintro i ⟨hi,⟨o,ho⟩,hnd⟩
     by_cases hlt:i < t.nodes.length
     ·have d1:((i:Int) < (t.nodes.length:Int))=True:=Jo
      have hx:=ht.nodes _ (Gi hlt)
      rw[← rowg hlt]at hx
      have hg:=KQ hlt
      have hki:=JK hlt
      have hkk:=hkids i hlt
      have hnf:=fun hb=>frm_nd hlt hb
      have hnR:=ndI_R t.nodes (t.nodes.getD i default)
      have hS:=refSized t i hlt hmany hx (fun y hy=>(ht.nodes y hy).k) (fun k hk=>by have:=hkk k hk; omega)
      have hstep:=step_ord ho hki
      have hsn:ndI t.nodes (t.nodes.getD i default)=true→∀ j,j < i+1→ndI t.nodes (t.nodes.getD j default)=true:=by
       intro h j hj
       by_cases e:j=i
       ·subst e; exact h
       ·exact hnd j (by omega)
      generalize t.nodes.getD i default=x at hx hg hki hkk hnf hnR hS hstep hsn
      have hO:=JeY t ho hi hmany x.kids (by have:=hx.kidn; omega) i (Gj _)
      have hKi:=refKin t x hx hmany (fun y hy=>(ht.nodes y hy).k) (fun k hk=>by have:=hkk k hk; omega)
      have hF:=refFields x (kindR x.text) (Jac x.text) (kindR_name x.text) (refKind x.text (by have:=hx.text; omega))
      simp -implicitDefEqProofs only[go_sem,Tr.row,Jc,d1]
      refine JQ Jz (by decide) ?_
      simp -implicitDefEqProofs only[go_sem,Tr.row,Jc,hg]
      refine ⟨by omega,?_⟩
      simp -implicitDefEqProofs only[go_sem,Nd.cv]
      refine J4 (.inl rfl) hO ?_
      simp -implicitDefEqProofs only[go_sem]
      refine JQ Jz (by decide) ?_
      rcases hstep with ⟨s1,s2⟩ | ⟨f,s1,s2⟩
      ·simp -implicitDefEqProofs only[go_sem,s2]
       rw[JaL h1 (frm_none (JcR s1))]
      ·simp -implicitDefEqProofs only[go_sem,Tr.row,Jc,s2,hg]
       refine ⟨by omega,?_⟩
       refine ⟨by simp[Nd.cv],?_⟩
       refine J4 (gok rfl) hKi ?_
       cases b1:KZ x.k x.n (lets t.nodes x) with
       |false=>
        rw[b1,GX,GX]at hnR
        simp -implicitDefEqProofs only[go_sem]
        rw[JaL h1 (hnf hnR)]
       |true=>
        simp -implicitDefEqProofs only[go_sem,Tr.row,Jc,hg]
        refine ⟨by omega,by simp[Nd.cv],?_⟩
        refine J4 (gok rfl) hF ?_
        cases b2:Qx (Jac x.text) x.k x.text x.n x.pl with
        |false=>
         rw[b1,b2,Gs,GX]at hnR
         simp -implicitDefEqProofs only[go_sem]
         rw[JaL h1 (hnf hnR)]
        |true=>
         simp -implicitDefEqProofs only[go_sem,Tr.row,Jc,hg]
         refine J4 (gok rfl) hS ?_
         cases b3:K8 x.k x.n (lets t.nodes x) with
         |false=>
          rw[b1,b2,b3,Gs,Gs]at hnR
          simp -implicitDefEqProofs only[go_sem]
          rw[JaL h1 (hnf hnR)]
         |true=>
          rw[b1,b2,b3,Gs,Gs]at hnR
          simp -implicitDefEqProofs only[go_sem]
          refine ⟨Jj,i+1,⟨by omega,⟨_,s1⟩,hsn hnR⟩,by omega,?_⟩
          simp[forget,Tr.row]
     ·have hie:i=t.nodes.length:=by omega
      subst hie
      have d1:((t.nodes.length:Int) < (t.nodes.length:Int))=False:=Jn
      have ho2:Jt (Js t.nodes) []=some o:=by
       rw[← Gt (l:=Js t.nodes) (i:=t.nodes.length) (by simp[Js])]; exact ho
      have hok:=Qh _ _ _ QG.nil ho2
      have hol:=Qn _ _ _ ho2
      simp only[Gc,Gn,Ko]at hol
      have hO:=JeY t ho (Gj _) hmany t.items (by omega) t.nodes.length (Gj _)
      have hie2:=items_eq (fst:=fs o) (isD:=fun i=>Jq t.nodes i == 65) hok hol (fun k _ _=>rfl) t.items
      have hall:t.nodes.all (ndI t.nodes)=true:=by
       rw[GI]
       intro y hy
       obtain ⟨j,hj⟩:=G8 hy
       have hjl:=(GG.1 hj).1
       have:=hnd j hjl
       rw[Ga,hj]at this
       exact this
      have hfrm:frm t=Yl o (fun i=>Jq t.nodes i == 65) t.nodes.length t.items 0:=by
       unfold frm; rw[ho2]; simp only[hall,Bool.and_true]
      simp -implicitDefEqProofs only[go_sem,Tr.row,Jc,d1]
      refine JR hO ?_
      simp -implicitDefEqProofs only[go_sem]
      cases b1:(Jex (fs o) t.items.reverse t.nodes.length).2 with
      |false=>
       rw[JaL h1 (by rw[hfrm,hie2,decide_eq_false (fun h=>by rw[h]at b1; cases b1)]; rfl)]
       simp -implicitDefEqProofs only[go_sem]
      |true=>
       by_cases b2:(Jex (fs o) t.items.reverse t.nodes.length).1=0
       ·have e2:((Jex (fs o) t.items.reverse t.nodes.length).1 != 0)=false:=by simp[b2]
        have hor:Jex (fs o) t.items.reverse t.nodes.length=(0,true):=Prod.ext b2 b1
        rw[hor,decide_eq_true rfl,Gs]at hie2
        simp -implicitDefEqProofs only[go_sem,e2]
        have hch:=(Jcr hok hol (fst:=fs o) (fun k _ _=>rfl) t.items.reverse t.nodes.length (by omega) (by omega)).1 hor
        rw[List.reverse_reverse]at hch
        have hmem:=fun i hi=>Qp hok rfl t.items 0 t.nodes.length (by rw[hol]; exact hch) i hi
        refine JC (I:=fun i:Nat=>i≤t.items.length∧∀ k∈t.items.take i,(Jq t.nodes k == 65)=true) (inv:=fun i=>gp [(1,.rptr t.row),(8,.int .i64 (i:Int))] 116) (hp:=fun _=>[.dead]) (μ:=fun i=>t.items.length-i) 0 ⟨by omega,by simp⟩ ?_ rfl ?_
        ·simp[forget,gp,Tr.row]
        ·rintro i ⟨hi,hdk⟩
         have hil:(iz t.items).length=t.items.length:=Jf
         by_cases hlt:i < t.items.length
         ·have d2:((i:Int) < (t.items.length:Int))=True:=Jo
          have hgi:=JP hlt
          have hm2:t.items.getD i 0∈t.items:=by
           rw[Ga,Gf hlt]; exact Gi hlt
          have hts:t.items.take (i+1)=t.items.take i++[t.items.getD i 0]:=by
           rw[GD hlt,Ga,Gf hlt]; rfl
          generalize t.items.getD i 0=k at hgi hm2 hts
          have hkr:=hmem k hm2
          have hgk:=KQ (l:=t.nodes) (i:=k.toNat) (by omega)
          have hkk:Jq t.nodes k=(t.nodes.getD k.toNat default).k:=rfl
          generalize t.nodes.getD k.toNat default=x at hgk hkk
          simp -implicitDefEqProofs only[go_sem,Tr.row,Jc,hil,d2]
          refine JQ Jz (by decide) ?_
          simp -implicitDefEqProofs only[go_sem,Tr.row,Jc,hil,hgi]
          refine ⟨by omega,?_⟩
          simp -implicitDefEqProofs only[go_sem,Tr.row,Jc,hil,hgk,Nd.cv]
          refine ⟨by omega,?_⟩
          have q65:=JcV 65 x.k
          simp only[GL]at q65
          cases b3:(x.k == 65) with
          |true=>
           have e3:((x.k:Int) != 65)=false:=by rw[bne,q65,b3]; rfl
           simp -implicitDefEqProofs only[go_sem,e3]
           refine ⟨Jj,i+1,⟨by omega,?_⟩,by omega,?_⟩
           ·rw[hts]
            intro u hu
            rcases Gy.1 hu with hu | hu
            ·exact hdk u hu
            ·rw[Gp.1 hu,hkk]; exact b3
           ·simp[forget]
          |false=>
           have e3:((x.k:Int) != 65)=true:=by rw[bne,q65,b3]; rfl
           have hf:frm t=false:=by
            rw[hfrm,hie2,Hf]
            exact ⟨k,hm2,by rw[hkk,b3]; simp⟩
           rw[JaL h1 hf]
           simp -implicitDefEqProofs only[go_sem,e3]
         ·have hie:i=t.items.length:=by omega
          subst hie
          rw[Gl]at hdk
          have d2:((t.items.length:Int) < (t.items.length:Int))=False:=Jn
          have hf:frm t=true:=by
           rw[hfrm,hie2,GI]; exact hdk
          have hc:chk t=if JaF t=true then 5 else 0:=by unfold chk; rw[if_neg h1,if_pos hf]
          rw[hc]
          simp -implicitDefEqProofs only[go_sem,Tr.row,Jc,hil,d2]
          refine JR (JeX t ht ho2) ?_
          cases b4:JaF t with
          |true=>simp -implicitDefEqProofs only[go_sem]
          |false=>simp -implicitDefEqProofs only[go_sem]
       ·have e2:((Jex (fs o) t.items.reverse t.nodes.length).1 != 0)=true:=by simp[b2]
        rw[JaL h1 (by rw[hfrm,hie2,decide_eq_false (fun h=>by rw[h]at b2; exact b2 rfl)]; rfl)]
        simp -implicitDefEqProofs only[go_sem,e2]
theorem QJ {α:Type}{l:List α}{i:Nat}{d:α}(h:i < l.length):l.take (i+1)=l.take i++[l.getD i d]:=by
 rw[GD h,Ga,Gf h]; rfl
theorem YP (a b:List Int) (ha:a.length≤100000):Fn Gd 51 [.rslc 1 (iz a) none,.rslc 1 (iz b) none] (.bool (a == b)):=by
 have hal:(iz a).length=a.length:=Jf
 have hbl:(iz b).length=b.length:=Jf
 refine Jb c51_ok rfl rfl fun N=>?_
 by_cases hl:a.length=b.length
 ·have e1:((a.length:Int) != (b.length:Int))=false:=by simp[hl]
  simp -implicitDefEqProofs only[c51,go_sem,hal,hbl,e1]
  refine JC (I:=fun i:Nat=>i≤a.length∧a.take i=b.take i) (inv:=fun i=>gp [(0,.rslc 1 (iz a) none),(0,.rslc 1 (iz b) none),(3,.int .i64 (i:Int))] 20) (hp:=fun _=>[]) (μ:=fun i=>a.length-i) 0 ⟨by omega,by simp⟩ ?_ rfl ?_
  ·simp[forget,gp]
  ·rintro i ⟨hi,hinv⟩
   by_cases hlt:i < a.length
   ·have d1:((i:Int) < (a.length:Int))=True:=Jo
    have hga:=JP hlt
    have hgb:=JP (l:=b) (i:=i) (by omega)
    have hta:=QJ (d:=0) hlt
    have htb:=QJ (l:=b) (i:=i) (d:=0) (by omega)
    simp -implicitDefEqProofs only[go_sem,hal,hbl,d1]
    refine JQ Jz (by decide) ?_
    simp -implicitDefEqProofs only[go_sem,hal,hbl,hga,hgb]
    refine ⟨by omega,by omega,?_⟩
    by_cases he:a.getD i 0=b.getD i 0
    ·have e2:(a.getD i 0 != b.getD i 0)=false:=by rw[he]; simp
     simp -implicitDefEqProofs only[go_sem,e2]
     refine ⟨Jj,i+1,⟨by omega,by rw[hta,htb,hinv,he]⟩,by omega,?_⟩
     simp[forget]
    ·have e2:(a.getD i 0 != b.getD i 0)=true:=by simpa using he
     have hne:(a == b)=false:=by
      rw[beq_eq_false_iff_ne]; rintro rfl; exact he rfl
     simp -implicitDefEqProofs only[go_sem,e2,hne]
   ·have d1:((i:Int) < (a.length:Int))=False:=Jn
    have he:(a == b)=true:=by
     rw[beq_iff_eq]
     have h1:i=a.length:=by omega
     rw[h1,Gl,Gt (by omega)]at hinv
     exact hinv
    simp -implicitDefEqProofs only[go_sem,hal,hbl,d1,he]
 ·have e1:((a.length:Int) != (b.length:Int))=true:=by simp; omega
  have hne:(a == b)=false:=by
   rw[beq_eq_false_iff_ne]; rintro rfl; exact hl rfl
  simp -implicitDefEqProofs only[c51,go_sem,hal,hbl,e1,hne]
def JfO (x y:Nd):Bool:=x.k == y.k && x.text == y.text && x.n == y.n && x.kids == y.kids
theorem sameN_self (x:Nd):JfO x x=true:=by simp[JfO]
def Yd:List Nd→List Nd→Bool
 |[],[]=>true
 |x::l,y::m=>JfO x y && Yd l m
 |_,_=>false
theorem JeT:∀ l:List Nd,Yd l l=true
 |[]=>rfl
 |x::l=>by simp[Yd,sameN_self,JeT l]
theorem sameL_len:∀ {l m:List Nd},Yd l m=true→l.length=m.length
 |[],[],_=>rfl
 |x::l,y::m,h=>by simp[Yd]at h; simp[sameL_len h.2]
 |[],_::_,h=>by simp[Yd]at h
 |_::_,[],h=>by simp[Yd]at h
theorem sameL_drop {l m:List Nd}{i:Nat}(hi:i < l.length) (hm:i < m.length):Yd (l.drop i) (m.drop i)=(JfO (l.getD i default) (m.getD i default) && Yd (l.drop (i+1)) (m.drop (i+1))):=by
 rw[GH hi,GH hm,Yd]
 simp[Ga,hi,hm]
def JfN (a b:Tr):Bool:=a.items == b.items && Yd a.nodes b.nodes
theorem refSame (a b:Tr) (ha:a.Fit) (hb:b.Fit):Fn Gd 63 [a.cv,b.cv] (.bool (JfN a b)):=by
 have hal:=ha.many
 have hail:=ha.items
 refine Jb c63_ok rfl rfl fun N=>?_
 by_cases hl:a.nodes.length=b.nodes.length
 ·have e1:((a.nodes.length:Int) != (b.nodes.length:Int))=false:=by simp[hl]
  simp -implicitDefEqProofs only[c63,go_sem,Tr.cv,Tr.row,Jc,e1]
  refine Je (id:=0) (z:=2) (els:=[a.row]) rfl rfl ?_
  simp only[go_sem,JS,Ki,frz,KP]
  refine Je (id:=1) (z:=2) (els:=[b.row]) rfl rfl ?_
  simp only[go_sem,JS,Ki,frz,KP,Tr.row,Jc]
  refine JV (gok rfl) (YP a.items b.items (by omega)) ?_
  cases h2:(a.items == b.items) with
  |false=>
   have hs:JfN a b=false:=by unfold JfN; rw[h2]; rfl
   simp -implicitDefEqProofs only[go_sem,hs]
  |true=>
   have hs:JfN a b=Yd a.nodes b.nodes:=by unfold JfN; rw[h2]; rfl
   rw[hs]
   simp -implicitDefEqProofs only[go_sem]
   refine Jy (I:=fun i:Nat=>i≤a.nodes.length∧Yd a.nodes b.nodes=Yd (a.nodes.drop i) (b.nodes.drop i)) (inv:=fun i=>gp [(2,.rptr a.row),(0,.rptr b.row),(1,.int .i64 (i:Int))] 61) (hp:=fun _=>[.dead,.dead]) (μ:=fun i=>a.nodes.length-i) 0 [0,1] ⟨by omega,rfl⟩ rfl ?_ rfl ?_
   ·simp[forget,gp,JA,ren,Jl,Tr.row]
   ·rintro i ⟨hi,hinv⟩
    by_cases hlt:i < a.nodes.length
    ·have d1:((i:Int) < (a.nodes.length:Int))=True:=Jo
     have hga:=KQ hlt
     have hgb:=KQ (l:=b.nodes) (i:=i) (by omega)
     have hx:=ha.nodes _ (Gi hlt)
     rw[← rowg hlt]at hx
     rw[sameL_drop hlt (by omega)]at hinv
     generalize a.nodes.getD i default=x at hga hx hinv
     generalize b.nodes.getD i default=y at hgb hinv
     simp -implicitDefEqProofs only[go_sem,Tr.row,Jc,d1]
     refine vr_dregP 10 11 [false,false,false,false,false,false,false,false,false,false,true,true,true,true] [false,false,false,false,false,false,false,false,false,false,true,true,true,true] (gp [(2,.rptr a.row),(0,.rptr b.row),(1,.int .i64 (i:Int)),(0,.ptr 2 0 0),(0,.ptr 3 0 0)] 59) [.dead,.dead,.arr 5 [x.cv],.arr 5 [y.cv]] Jz (by decide +kernel) ?_ ?_ ?_
     ·simp -implicitDefEqProofs only[go_sem,Tr.row,Jc,hga,hgb,Nd.cv,splice]
      exact ⟨by omega,by omega,QW [0,1,2,3] rfl (by simp[forget,JA,ren,Jl]) (by simp only[Ke,Gg,Gh,go_sem,Ji,Jh]; rfl)⟩
     ·simp -implicitDefEqProofs only[swl,swi,QI,GU,List.range.loop,Gb,Gc,Gg,Gh,Ha,Hd,go_sem,Tr.row,Jc,hga,hgb,Nd.cv,splice]
      exact ⟨by omega,by omega,QW [0,1,3,2] rfl (by simp[forget,JA,ren,Jl]) (by simp only[Ke,Gg,Gh,go_sem,Ji,Jh]; rfl)⟩
     ·have hkx:=hx.kidn
      have hK:=YP x.kids y.kids (by omega)
      obtain ⟨k1,t1,n1,ks1,p1⟩:=x
      obtain ⟨k2,t2,n2,ks2,p2⟩:=y
      simp only[gp,Ho]
      dsimp only at hK hinv
      have c1:((k1:Int) != (k2:Int)) = !(k1 == k2):=by
       rw[bne]; congr 1; rw[Hu,beq_iff_eq,beq_iff_eq]; omega
      cases b1:(k1 == k2) with
      |false=>
       rw[b1]at c1
       have hR:Yd a.nodes b.nodes=false:=by rw[hinv]; simp[JfO,b1]
       simp -implicitDefEqProofs only[go_sem,Nd.cv,c1,hR,GK]
      |true=>
       rw[b1]at c1
       cases b2:(t1 == t2) with
       |false=>
        have hR:Yd a.nodes b.nodes=false:=by rw[hinv]; simp[JfO,b2]
        simp -implicitDefEqProofs only[go_sem,Nd.cv,c1,b2,hR,GY,GK]
       |true=>
        cases b3:(n1 == n2) with
        |false=>
         have e3:(n1 != n2)=true:=by rw[bne,b3]; rfl
         have hR:Yd a.nodes b.nodes=false:=by rw[hinv]; simp[JfO,b3]
         simp -implicitDefEqProofs only[go_sem,Nd.cv,c1,b2,e3,hR,GY,GK]
        |true=>
         have e3:(n1 != n2)=false:=by rw[bne,b3]; rfl
         simp -implicitDefEqProofs only[go_sem,Nd.cv,c1,b2,e3,GY,GK]
         refine JV (gok rfl) hK ?_
         cases b4:(ks1 == ks2) with
         |false=>
          have hR:Yd a.nodes b.nodes=false:=by rw[hinv]; simp[JfO,b4]
          simp -implicitDefEqProofs only[go_sem,hR]
         |true=>
          have hR:Yd a.nodes b.nodes=Yd (a.nodes.drop (i+1)) (b.nodes.drop (i+1)):=by rw[hinv]; simp only[JfO,b1,b2,b3,b4,Gs]
          simp -implicitDefEqProofs only[go_sem]
          refine ⟨Jj,i+1,[0,1],⟨by omega,hR⟩,by omega,rfl,?_,?_⟩
          ·simp only[Ke,Gg,Gh,go_sem,Jh]
          ·simp[forget,JA,ren,Jl,Tr.row]
    ·have hie:i=a.nodes.length:=by omega
     have d1:((i:Int) < (a.nodes.length:Int))=False:=Jn
     have hR:Yd a.nodes b.nodes=true:=by
      rw[hinv,Gx (by omega),Gx (by omega)]; rfl
     simp -implicitDefEqProofs only[go_sem,Tr.row,Jc,d1,hR]
 ·have e1:((a.nodes.length:Int) != (b.nodes.length:Int))=true:=by simp; omega
  have hs:JfN a b=false:=by
   unfold JfN
   cases h:Yd a.nodes b.nodes with
   |false=>simp
   |true=>exact absurd (sameL_len h) hl
  simp -implicitDefEqProofs only[c63,go_sem,Tr.cv,Tr.row,Jc,e1,hs]
theorem refAlike (a:Tr) (ha:a.Fit):Fn Gd 22 [a.cv,a.cv] (.bool true):=by
 have hal:=ha.many
 have hS:=refSame a a ha ha
 rw[show JfN a a=true by simp[JfN,JeT]]at hS
 refine Jb c22_ok rfl rfl fun N=>?_
 simp -implicitDefEqProofs only[c22,go_sem,Tr.cv,Tr.row]
 refine Je (id:=0) (z:=2) (els:=[a.row]) rfl rfl ?_
 simp only[go_sem,JS,Ki,frz,KP]
 refine Je (id:=1) (z:=2) (els:=[a.row]) rfl rfl ?_
 simp only[go_sem,JS,Ki,frz,KP,Tr.row]
 refine JR hS ?_
 simp -implicitDefEqProofs only[go_sem]
 refine JC (I:=fun i:Nat=>i≤a.nodes.length) (inv:=fun i=>gp [(2,.rptr a.row),(0,.rptr a.row),(1,.int .i64 (i:Int))] 24) (hp:=fun _=>[.dead,.dead]) (μ:=fun i=>a.nodes.length-i) 0 (by omega) ?_ rfl ?_
 ·simp[forget,gp,Tr.row]
 ·intro i hi
  by_cases hlt:i < a.nodes.length
  ·have d1:((i:Int) < (a.nodes.length:Int))=True:=Jo
   have hga:=KQ hlt
   generalize a.nodes.getD i default=x at hga
   have e:(x.pl != x.pl)=false:=by simp
   simp -implicitDefEqProofs only[go_sem,Tr.row,Jc,d1]
   refine JQ Jz (by decide) ?_
   simp -implicitDefEqProofs only[go_sem,Tr.row,Jc,hga,Nd.cv,e]
   refine ⟨by omega,by omega,Jj,i+1,by omega,by omega,?_⟩
   simp[forget,Tr.row]
  ·have d1:((i:Int) < (a.nodes.length:Int))=False:=Jn
   simp -implicitDefEqProofs only[go_sem,Tr.row,Jc,d1]
def Jcg (x:Nd):Bool:=decide (30 < x.kids.length) || decide (60 < x.text.length)
def vastH (t:Tr):Bool:=(decide (250 < t.nodes.length) && decide (t.nodes.length≤700)) || decide (1400 < t.nodes.length) || decide (40 < t.items.length)
def vastT (t:Tr):Bool:=vastH t || t.nodes.any Jcg
theorem row_agg5 {x:Nd}{id n:Nat}{cap:Option Nat}(hn:n=x.kids.length):wk (frz id 1 (iz x.kids) (.agg [.int .u8 x.k,S x.text,.int .i64 x.n,.slc id 0 n cap,.int .i64 x.pl])) (.agg x.cv):=by
 subst hn
 have hl:(iz x.kids).length=x.kids.length:=Jf
 simp only[frz,JS,if_true,Gn,hl,Gj,Gv]
 rw[← hl,Gl]
 exact JbH ⟨wk.refl _,wk.refl _,wk.refl _,wk.rslc,wk.refl _,trivial⟩
theorem JaX (x:Nd) (hx:x.kids.length≤1000) (d:Int) (hk:∀ k∈x.kids,InR .i64 (k+d)):Fn Gd 47 [.agg x.cv,.int .i64 d] (.agg (mvN d x).cv):=by
 have hxl:(iz x.kids).length=x.kids.length:=Jf
 refine X8 ?_ rfl rfl
 refine J7 c47_ok fun N=>?_
 simp -implicitDefEqProofs only[c47,go_sem,Nd.cv]
 refine Jy (I:=fun i:Nat=>i≤x.kids.length) (inv:=fun i=>gp [(1,.int .i64 d),(0,.ptr 0 0 0),(1,.ptr 1 0 0),(0,.slc 2 0 (iz ((x.kids.take i).map (· + d))).length (JbF (iz ((x.kids.take i).map (· + d))))),(0,.int .i64 (i:Int))] 21)
  (hp:=fun i=>[.arr 5 [x.cv],.arr 5 [[.int .u8 0,S [],.int .i64 0,.nils,.int .i64 0]],.arr 1 (iz ((x.kids.take i).map (· + d)))]) (μ:=fun i=>x.kids.length-i) 0 [0,1,2] (by omega) rfl ?_ rfl ?_
 ·simp[forget,JA,ren,Jl,gp,iz,JbF]
 ·intro i hi
  by_cases hlt:i < x.kids.length
  ·have d1:((i:Int) < (x.kids.length:Int))=True:=Jo
   have hgi:=JP hlt
   have hts:(x.kids.take (i+1)).map (· + d)=(x.kids.take i).map (· + d)++[x.kids.getD i 0+d]:=by
    rw[QJ (d:=0) hlt,Hl]; rfl
   have hol:((x.kids.take i).map (· + d)).length=i:=by simp; omega
   have hmem:x.kids.getD i 0∈x.kids:=by
    rw[Ga,Gf hlt]; exact Gi hlt
   have hin:=hk _ hmem
   generalize x.kids.getD i 0=k at hgi hts hin
   generalize (x.kids.take i).map (· + d)=L at hts hol ⊢
   have hLl:(iz L).length=L.length:=Jf
   have hz:iz (L++[k+d])=iz L++[[.int .i64 (k+d)]]:=Ka
   simp -implicitDefEqProofs only[go_sem,Nd.cv,hxl,d1,hgi,Jr]
   refine ⟨by omega,hin,by omega,Jj,i+1,[0,1,4],by omega,by omega,rfl,?_,?_⟩
   ·have hc:=Ja (ρ:=[0,1,4]) (Jd (L++[k+d]))
    rw[hz]at hc
    rw[hts,hz]
    simp only[Ke,Gg,Gh,go_sem,Ji,hc]
    rfl
   ·rw[hts,hz,Y2]
    simp[forget,JA,ren,Jl]
  ·have hie:i=x.kids.length:=by omega
   subst hie
   have d1:((x.kids.length:Int) < (x.kids.length:Int))=False:=Jn
   rw[Gl]
   simp -implicitDefEqProofs only[go_sem,Nd.cv,hxl,d1,splice]
   exact .inr ⟨2,1,iz (x.kids.map (· + d)),rfl,Jd _,row_agg5 (x:=mvN d x) (by simp[Jf,mvN])⟩
theorem JfR {z:Nat}{els:List (List CV)}{id n:Nat}{cap:Option Nat}{y:CV}(hy:y.closed=true) (hn:n=els.length):wk (frz id z els (.agg [.slc id 0 n cap,y])) (.agg [.rslc z els none,y]):=by
 subst hn
 simp only[frz,JS,if_true,Gn,Gj,Gv,Gl,Xu y hy]
 exact JbH ⟨wk.rslc,wk.refl _,trivial⟩
theorem refCopy (t:Tr) (ht:t.Fit):Fn Gd 13 [t.cv] t.cv:=by
 have hmany:=ht.many
 have hitems:=ht.items
 have hil:(iz t.items).length=t.items.length:=Jf
 have hrc:=Jd t.items
 refine X8 ?_ rfl rfl
 refine J7 c13_ok fun N=>?_
 obtain ⟨R,hR⟩:∃ R,R=iz t.items:=⟨_,rfl⟩
 simp only[Tr.cv,Tr.row]
 rw[← hR]at hrc hil ⊢
 cases R with
 |nil=>
  simp -implicitDefEqProofs only[c13,go_sem]
  refine Je (id:=0) (z:=2) (els:=[[.rslc 5 (ndz t.nodes) none,.rslc 1 [] none]]) rfl rfl ?_
  simp only[go_sem,JS,Ki,frz,KP]
  refine Je (id:=2) (z:=1) (els:=[]) rfl rfl ?_
  simp only[go_sem,JS,Ki,frz,KP]
  refine Q3 ?_
  simp only[go_sem,Gm,Gq]
  refine Jy (I:=fun i:Nat=>i≤t.nodes.length) (inv:=fun i=>gp [(1,.rptr [.rslc 5 (ndz t.nodes) none,.rslc 1 [] none]),(0,.ptr 1 0 0),(0,.ptr 2 0 0),(0,.int .i64 (i:Int))] 24) (hp:=fun i=>[.dead,.arr 2 [[.nils,.nils]],.arr 2 [[KN 3 (ndz (t.nodes.take i)),.rslc 1 [] none]],Qi 5 (ndz (t.nodes.take i))]) (μ:=fun i=>t.nodes.length-i) 0 [0,1,3,4] (by omega) rfl ?_ ?_ ?_
  ·simp[forget,JA,ren,Jl,gp]
  ·rfl
  ·intro i hi
   by_cases hlt:i < t.nodes.length
   ·have d1:((i:Int) < (t.nodes.length:Int))=True:=Jo
    have hg:=KQ hlt
    have hx:=ht.nodes _ (Gi hlt)
    rw[← rowg hlt]at hx
    have hts:ndz (t.nodes.take (i+1))=ndz (t.nodes.take i)++[(t.nodes.getD i default).cv]:=by
     rw[QJ (d:=default) hlt]; simp[ndz]
    have hcl:=JL (t.nodes.take (i+1))
    have hpl:(ndz (t.nodes.take i)).length=i:=by rw[Jc,Gu]; omega
    generalize t.nodes.getD i default=x at hg hx hts
    generalize ndz (t.nodes.take i)=Z at hts hpl ⊢
    have hM:=JaX x (by have:=hx.kidn; omega) 0 (fun k hk=>by rw[GA]; exact hx.kids k hk)
    have hmv:mvN 0 x=x:=by
     obtain ⟨k,te,n,ks,p⟩:=x
     simp[mvN]
    rw[hmv]at hM
    simp -implicitDefEqProofs only[go_sem,Jc,d1]
    refine Qt [false,true,false,false,false,false,false,false,false,true,false,true] Jz (by decide +kernel) ?_
    simp -implicitDefEqProofs only[go_sem,Jc,hg]
    refine ⟨by omega,by simp[Nd.cv],?_⟩
    refine vh_f hM ?_
    simp -implicitDefEqProofs only[go_sem]
    refine JbJ [x.cv] rfl rfl rfl rfl ?_
    simp -implicitDefEqProofs only[go_sem,Jr,splice,Gb,Gc]
    refine ⟨by omega,Jj,i+1,[0,1,2,4],by omega,by omega,rfl,?_,?_⟩
    ·rw[hts]at hcl
     have hc:=Ja (ρ:=[0,1,2,4]) hcl
     rw[hts,JY,JZ]
     simp only[Ke,Gg,Gh,go_sem,Ji,hc]
     rfl
    ·simp[forget,JA,ren,Jl]
   ·have hie:i=t.nodes.length:=by omega
    subst hie
    have d1:((t.nodes.length:Int) < (t.nodes.length:Int))=False:=Jn
    rw[Gl]
    have hnc:=JL t.nodes
    cases hN:ndz t.nodes with
    |nil=>
     have hnl:(([]:List (List CV)).length:Int)=t.nodes.length:=by rw[← hN,Jc]
     simp only[Gc]at hnl
     simp -implicitDefEqProofs only[go_sem,Qu,Xc,Gc,hnl,d1,splice]
     exact .inl (JbH ⟨wk.nils,wk.refl _,trivial⟩)
    |cons f fs=>
     have hnl:((fs.length+1:Nat):Int)=t.nodes.length:=by rw[← Gb,← hN,Jc]
     rw[QA (by simp),Qk (by simp)]
     simp -implicitDefEqProofs only[go_sem,Gb,hnl,d1,splice]
     rw[hN]at hnc
     exact .inr ⟨3,5,f::fs,rfl,hnc,JfR rfl rfl⟩
 |cons e es=>
  have hel:es.length+1≤40:=by have:=hil; simp only[Gb]at this; omega
  simp -implicitDefEqProofs only[c13,go_sem,Jr,Gb]
  refine ⟨by omega,?_⟩
  refine Je (id:=3) (z:=1) (els:=e::es) rfl hrc ?_
  simp only[go_sem,JS,Ki,frz,KP,Gb,Gv,Gt (l:=e::es) (i:=es.length+1) (Gj _)]
  refine Je (id:=0) (z:=2) (els:=[[.rslc 5 (ndz t.nodes) none,.rslc 1 (e::es) none]]) rfl rfl ?_
  simp only[go_sem,JS,Ki,frz,KP]
  refine Q3 ?_
  simp only[go_sem,Gm,Gq]
  refine Jy (I:=fun i:Nat=>i≤t.nodes.length) (inv:=fun i=>gp [(1,.rptr [.rslc 5 (ndz t.nodes) none,.rslc 1 (e::es) none]),(0,.ptr 1 0 0),(0,.ptr 2 0 0),(0,.int .i64 (i:Int))] 24) (hp:=fun i=>[.dead,.arr 2 [[.nils,.nils]],.arr 2 [[KN 3 (ndz (t.nodes.take i)),.rslc 1 (e::es) none]],Qi 5 (ndz (t.nodes.take i))]) (μ:=fun i=>t.nodes.length-i) 0 [0,1,4,5] (by omega) rfl ?_ ?_ ?_
  ·simp[forget,JA,ren,Jl,gp]
  ·rfl
  ·intro i hi
   by_cases hlt:i < t.nodes.length
   ·have d1:((i:Int) < (t.nodes.length:Int))=True:=Jo
    have hg:=KQ hlt
    have hx:=ht.nodes _ (Gi hlt)
    rw[← rowg hlt]at hx
    have hts:ndz (t.nodes.take (i+1))=ndz (t.nodes.take i)++[(t.nodes.getD i default).cv]:=by
     rw[QJ (d:=default) hlt]; simp[ndz]
    have hcl:=JL (t.nodes.take (i+1))
    have hpl:(ndz (t.nodes.take i)).length=i:=by rw[Jc,Gu]; omega
    generalize t.nodes.getD i default=x at hg hx hts
    generalize ndz (t.nodes.take i)=Z at hts hpl ⊢
    have hM:=JaX x (by have:=hx.kidn; omega) 0 (fun k hk=>by rw[GA]; exact hx.kids k hk)
    have hmv:mvN 0 x=x:=by
     obtain ⟨k,te,n,ks,p⟩:=x
     simp[mvN]
    rw[hmv]at hM
    simp -implicitDefEqProofs only[go_sem,Jc,d1]
    refine Qt [false,true,false,false,false,false,false,false,false,true,false,true] Jz (by decide +kernel) ?_
    simp -implicitDefEqProofs only[go_sem,Jc,hg]
    refine ⟨by omega,by simp[Nd.cv],?_⟩
    refine vh_f hM ?_
    simp -implicitDefEqProofs only[go_sem]
    refine JbJ [x.cv] rfl rfl rfl rfl ?_
    simp -implicitDefEqProofs only[go_sem,Jr,splice,Gb,Gc]
    refine ⟨by omega,Jj,i+1,[0,1,2,4],by omega,by omega,rfl,?_,?_⟩
    ·rw[hts]at hcl
     have hc:=Ja (ρ:=[0,1,2,4]) hcl
     rw[hts,JY,JZ]
     simp only[Ke,Gg,Gh,go_sem,Ji,hc]
     rfl
    ·simp[forget,JA,ren,Jl]
   ·have hie:i=t.nodes.length:=by omega
    subst hie
    have d1:((t.nodes.length:Int) < (t.nodes.length:Int))=False:=Jn
    rw[Gl]
    have hnc:=JL t.nodes
    cases hN:ndz t.nodes with
    |nil=>
     have hnl:(([]:List (List CV)).length:Int)=t.nodes.length:=by rw[← hN,Jc]
     simp only[Gc]at hnl
     simp -implicitDefEqProofs only[go_sem,Qu,Xc,Gc,hnl,d1,splice]
     exact .inl (JbH ⟨wk.nils,wk.refl _,trivial⟩)
    |cons f fs=>
     have hnl:((fs.length+1:Nat):Int)=t.nodes.length:=by rw[← Gb,← hN,Jc]
     rw[QA (by simp),Qk (by simp)]
     simp -implicitDefEqProofs only[go_sem,Gb,hnl,d1,splice]
     rw[hN]at hnc
     exact .inr ⟨3,5,f::fs,rfl,hnc,JfR rfl rfl⟩
end Go.Cm
end
section
namespace Go.Cm
structure Nd.Ty (x:Nd):Prop where
 k:x.k < 256
 n:InR .i64 x.n
 kids:∀ i∈x.kids,InR .i64 i
 pl:InR .i64 x.pl
structure Tr.Ty (t:Tr):Prop where
 nodes:∀ x∈t.nodes,x.Ty
 items:∀ i∈t.items,InR .i64 i
theorem Tr.Ty.fit {t:Tr}(h:t.Ty) (hv:vastT t=false):t.Fit:=by
 unfold vastT vastH at hv
 simp only[Hr,GV,decide_eq_false_iff_not,He]at hv
 obtain ⟨⟨⟨_,h2⟩,h3⟩,h4⟩:=hv
 refine ⟨by omega,by omega,fun x hx=>?_,h.items⟩
 have hn:=h4 x hx
 unfold Jcg at hn
 simp only[Ht,Hr,decide_eq_false_iff_not]at hn
 have ty:=h.nodes x hx
 exact ⟨ty.k,by omega,ty.n,by omega,ty.kids,ty.pl⟩
end Go.Cm
end
section
set_option maxRecDepth 100000
set_option maxHeartbeats 4000000
open Go.Proofs
namespace Go.Cm
theorem indexI (l:List Int) (x:Int) (hl:l.length≤100000):Fn Gd 104 [.rslc 1 (iz l) none,.int .i64 x] (.int .i64 (Q8 (fun y=>x == y) l 0)):=by
 have hil:(iz l).length=l.length:=Jf
 refine Jb c104_ok rfl rfl fun N=>?_
 simp -implicitDefEqProofs only[c104,go_sem,hil]
 refine JC (I:=fun i:Nat=>i≤l.length∧Q8 (fun y=>x == y) l 0=Q8 (fun y=>x == y) (l.drop i) i) (inv:=fun i=>gp [(0,.rslc 1 (iz l) none),(0,.int .i64 x),(5,.int .i64 (l.length:Int)),(0,.int .i64 (i:Int))] 10) (hp:=fun _=>[]) (μ:=fun i=>l.length-i) 0 ⟨by omega,rfl⟩ ?_ rfl ?_
 ·simp[forget,gp]
 ·rintro i ⟨hi,hinv⟩
  by_cases hlt:i < l.length
  ·have d1:((i:Int) < (l.length:Int))=True:=Jo
   have hgi:=JP hlt
   have hge:l[i]? = some (l.getD i 0):=by rw[Ga,Gf hlt]; rfl
   rw[QS hge]at hinv
   simp -implicitDefEqProofs only[go_sem,hil,d1,hgi]
   generalize l.getD i 0=y at hinv ⊢
   refine ⟨by omega,?_⟩
   cases he:(x == y) with
   |true=>
    rw[he,if_pos rfl]at hinv
    simp -implicitDefEqProofs only[go_sem,hinv]
   |false=>
    rw[he]at hinv
    simp -implicitDefEqProofs only[go_sem]
    refine ⟨Jj,i+1,⟨by omega,by simpa using hinv⟩,by omega,?_⟩
    simp[forget]
  ·have d1:((i:Int) < (l.length:Int))=False:=Jn
   rw[Gx (by omega)]at hinv
   simp -implicitDefEqProofs only[go_sem,d1,hinv,Q8]
theorem containsI (l:List Int) (x:Int) (hl:l.length≤100000):Fn Gd 78 [.rslc 1 (iz l) none,.int .i64 x] (.bool (l.contains x)):=by
 refine Jb c78_ok rfl rfl fun N=>?_
 simp -implicitDefEqProofs only[c78,go_sem]
 refine JR (indexI l x hl) ?_
 have e:decide (0≤Q8 (fun y=>x == y) l 0)=l.contains x:=by rw[Ja5,List.contains_eq_any_beq]
 simp -implicitDefEqProofs only[go_sem,e]
def inT (t:Tr) (n:Int):Bool:=inI 0 ((t.nodes.length:Int)-1) n
theorem JdR {t:Tr}{n:Int}:inT t n=true↔0≤n∧n < t.nodes.length:=by
 simp only[inT,inI,Gr,decide_eq_true_eq]; omega
theorem fixA_skip {α:Type}{q:α→Bool}{l:List α}:∀ (n:Nat),n≤l.length→(∀ j (h:j < l.length),j < n→q l[j]=false)→Q8 q l 0=Q8 q (l.drop n) n
 |0,_,_=>rfl
 |n+1,h,hq=>by
  rw[fixA_skip n (by omega) fun j hj hn=>hq j hj (by omega),QS (Gf (by omega:n < l.length)),hq n (by omega) (by omega)]
  simp
theorem refParent (t:Tr) (ht:t.Fit) {o:List Int}(g:GoodT t o) (n:Nat) (hn:n < t.nodes.length):Fn Gd 106 [t.cv,.int .i64 n] (.int .i64 (Q8 (fun x:Nd=>x.kids.contains (n:Int)) t.nodes 0)):=by
 have hmany:=ht.many
 refine Jb c106_ok rfl rfl fun N=>?_
 simp -implicitDefEqProofs only[c106,go_sem,Tr.cv,Tr.row]
 refine ⟨Jj,?_⟩
 refine Je (id:=0) (z:=2) (els:=[t.row]) rfl rfl ?_
 simp only[go_sem,JS,Ki,frz,KP,Tr.row]
 have hskip:Q8 (fun x:Nd=>x.kids.contains (n:Int)) t.nodes 0=Q8 (fun x:Nd=>x.kids.contains (n:Int)) (t.nodes.drop (n+1)) (n+1):=by
  refine fixA_skip (n+1) (by omega) fun j hj hjn=>?_
  rw[← Ht,List.contains_iff_mem]
  intro hm
  have:=g.kid hj (k:=n) (by rw[rowg hj]; exact hm)
  omega
 refine JC (I:=fun i:Nat=>i≤t.nodes.length∧Q8 (fun x:Nd=>x.kids.contains (n:Int)) t.nodes 0=Q8 (fun x:Nd=>x.kids.contains (n:Int)) (t.nodes.drop i) i) (inv:=fun i=>gp [(1,.int .i64 (n:Int)),(0,.rptr t.row),(2,.int .i64 (i:Int))] 33) (hp:=fun _=>[.dead]) (μ:=fun i=>t.nodes.length-i) (n+1) ⟨by omega,hskip⟩ ?_ rfl ?_
 ·simp[forget,gp,Tr.row]
 ·rintro i ⟨hi,hinv⟩
  by_cases hlt:i < t.nodes.length
  ·have d1:((i:Int) < (t.nodes.length:Int))=True:=Jo
   have hg:=KQ hlt
   have hx:=ht.nodes _ (Gi hlt)
   rw[← rowg hlt]at hx
   have hge:t.nodes[i]? = some (t.nodes.getD i default):=by rw[Ga,Gf hlt]; rfl
   rw[QS hge]at hinv
   generalize t.nodes.getD i default=x at hg hinv hx
   have hkn:=hx.kidn
   have hxl:(iz x.kids).length=x.kids.length:=Jf
   simp -implicitDefEqProofs only[go_sem,Tr.row,Jc,d1]
   refine JC (I:=fun j:Nat=>j≤x.kids.length∧x.kids.contains (n:Int)=(x.kids.drop j).contains (n:Int)) (inv:=fun j=>gp [(1,.int .i64 (n:Int)),(0,.rptr t.row),(2,.int .i64 (i:Int)),(0,.int .i64 (j:Int))] 32) (hp:=fun _=>[.dead]) (μ:=fun j=>x.kids.length-j) 0 ⟨by omega,rfl⟩ ?_ rfl ?_
   ·simp[forget,gp,Tr.row]
   ·rintro j ⟨hj,hjv⟩
    by_cases hjl:j < x.kids.length
    ·have d2:((j:Int) < (x.kids.length:Int))=True:=Jo
     have hgi:=JP hjl
     rw[GH hjl,List.contains_cons,show x.kids[j]=x.kids.getD j 0 by rw[Ga,Gf hjl]; rfl]at hjv
     generalize x.kids.getD j 0=k at hgi hjv
     have hsym:(k == (n:Int))=((n:Int) == k):=by rw[Hu,beq_iff_eq,beq_iff_eq]; exact eq_comm
     cases he:(k == (n:Int)) with
     |true=>
      rw[← hsym,he,Bool.true_or]at hjv
      rw[hjv,if_pos rfl]at hinv
      simp -implicitDefEqProofs only[go_sem,Tr.row,Jc,hg,Nd.cv,hxl,d2,hgi,he,hinv]
      omega
     |false=>
      rw[← hsym,he,Bool.false_or]at hjv
      simp -implicitDefEqProofs only[go_sem,Tr.row,Jc,hg,Nd.cv,hxl,d2,hgi,he]
      refine ⟨by omega,by omega,by omega,Jj,j+1,⟨by omega,hjv⟩,by omega,?_⟩
      simp[forget,Tr.row]
    ·have d2:((j:Int) < (x.kids.length:Int))=False:=Jn
     rw[Gx (by omega)]at hjv
     rw[hjv]at hinv
     simp -implicitDefEqProofs only[go_sem,Tr.row,Jc,hg,Nd.cv,hxl,d2]
     refine ⟨by omega,Jj,i+1,⟨by omega,by simpa using hinv⟩,by omega,?_⟩
     simp[forget,Tr.row]
  ·have d1:((i:Int) < (t.nodes.length:Int))=False:=Jn
   rw[Gx (by omega)]at hinv
   simp -implicitDefEqProofs only[go_sem,Tr.row,Jc,d1,hinv,Q8]
theorem ord_take {t:Tr}{o:List Int}(g:GoodT t o):Jt ((Js t.nodes).take t.nodes.length) []=some o:=by
 rw[Gt (by rw[Ko]; exact Gj _)]; exact g.ord.h
theorem refIsBelow (t:Tr) (ht:t.Fit) {o:List Int}(g:GoodT t o) (a:Int) (i:Nat) (hi:i < t.nodes.length):Fn Gd 66 [t.cv,.int .i64 a,.int .i64 i] (.bool (decide (a≤i) && decide (fs o i≤a))):=by
 refine Jb c66_ok rfl rfl fun N=>?_
 by_cases h:a≤(i:Int)
 ·have d1:(a≤(i:Int))=True:=eq_true h
  simp -implicitDefEqProofs only[c66,go_sem,Tr.cv,Tr.row,d1]
  refine JV (gok rfl) (JfU t (ord_take g) (Gj _) i hi) ?_
  simp -implicitDefEqProofs only[go_sem]
 ·have d1:(a≤(i:Int))=False:=eq_false h
  simp -implicitDefEqProofs only[c66,go_sem,Tr.cv,Tr.row,d1]
def kid (x:Nd) (i:Nat):Int:=x.kids.getD i 0
end Go.Cm
end
section
namespace Go.Cm
section
def flat (o:CObj):Prop:=o=.dead∨∃ z els,o=.arr z els∧Jw els=true
section
variable {P:Program}{E:Env}{H:List CObj}
theorem JcE {α:Type}{a b:List α}{k:Nat}{x:α}(h:(a++b)[k]? = some x):(k < a.length∧a[k]? = some x)∨∃ j,k=a.length+j∧b[j]? = some x:=by
 rcases GM k a.length with hlt | hge
 ·rw[G5 hlt]at h; exact .inl ⟨hlt,h⟩
 ·rw[GZ hge]at h; exact .inr ⟨k-a.length,by omega,h⟩
theorem app_get2 {α:Type}{a b:List α}{j:Nat}:(a++b)[a.length+j]? = b[j]?:=by
 rw[GZ (by omega)]; congr 1; omega
theorem CallsC.frameG {f:Nat}{args:List CV}{G:List CObj}{mk:Nat→CV}(h:CallsC P Env.none f args [] fun v H'=>v=mk 0∧H'=G) (ha:Jv args=true) (hG:∀ o∈G,flat o)
  (hmk:∀ (n:Nat) (own own':List Own) imm r,(∀ (k:Nat) x,own[k]? = some x→own'[n+k]? = some x)→rel own imm (mk 0) r→rel own' imm (mk n) r):CallsC P E f args H fun v H'=>v=mk H.length∧H'=H++G:=by
 intro m w vs hs hv
 refine (h _ w vs hs.nothing (KF _ _ ha hv)).mono ?_
 rintro e w' ⟨r,m',v,H',rfl,hext,hs',hrel,rfl,rfl⟩
 obtain ⟨h1,h2⟩:=hs.back hext hs'
 have hno:∀ B,¬ owned { own:=[],imm:=m.imm,ext:=fun _=>False } [] B:=by
  rintro B (h | ⟨k,o,x,hk,_⟩)
  ·exact h
  ·simp at hk
 have hlen:m.own.length=H.length:=hs.len
 have hold:∀ (k:Nat) o x,H[k]? = some o→o.alive=true→m.own[k]? = some x→x.B < w.heap.size:=fun k o x hk hal hx=>YI hs hk hal hx
 have hnewB:∀ (k:Nat) o x,H'[k]? = some o→o.alive=true→m'.own[k]? = some x→w.heap.size≤x.B:=fun k o x hk hal hx=>
  (hext.newOwn x.B (.inr ⟨k,o,x,hk,hal,hx,rfl⟩)).resolve_left (hno _)
 have two:∀ (k:Nat) o x,(H++H')[k]? = some o→(m.own++m'.own)[k]? = some x→(k < H.length∧H[k]? = some o∧m.own[k]? = some x)∨∃ j,k=H.length+j∧H'[j]? = some o∧m'.own[j]? = some x:=by
  intro k o x hk hx
  rcases JcE hk with ⟨hlt,hk2⟩ | ⟨j,rfl,hk2⟩
  ·rw[G5 (by omega)]at hx; exact .inl ⟨hlt,hk2,hx⟩
  ·rw[← hlen,app_get2]at hx; exact .inr ⟨j,rfl,hk2,hx⟩
 have hle:=KH.append m.own m'.own
 refine ⟨r,{ m with own:=m.own++m'.own,imm:=m'.imm },mk H.length,H++H',rfl,?_,?_,?_,rfl,rfl⟩
 ·have hE:=h2 H.length
  refine ⟨hE.size,hE.frame,hE.imm,?_,hE.newImm,fun k x _ hx=>hle _ _ hx,fun h=>by simp; omega,hE.same⟩
  rintro B (hB | ⟨k,o,x,hk,hal,hx,rfl⟩)
  ·exact .inl (.inl hB)
  ·rcases two k o x hk hx with ⟨_,hk,hx⟩ | ⟨j,_,hk,hx⟩
   ·exact .inl (.inr ⟨k,o,x,hk,hal,hx,rfl⟩)
   ·exact .inr (hnewB j o x hk hal hx)
 ·refine ⟨by simp[hs.len,hs'.len],fun k o x hk hx=>?_,h1.imm,h1.one,fun k k' o o' x x' hk hk' ha ha' hx hx' hB=>?_,fun k o x hk hal hx=>?_,fun k s b hk=>?_,fun k o x hk hal hx=>?_,h1.extlt,h1.gl⟩
  ·rcases two k o x hk hx with ⟨_,hk,hx⟩ | ⟨j,_,hk,hx⟩
   ·exact Ku hle (Kl.refl _) (fun _=>rfl) (h1.obj k o x hk hx)
   ·have ho:=hs'.obj j o x hk hx
    rcases hG o (G7 hk) with rfl | ⟨z,els,rfl,hc⟩
    ·trivial
    ·obtain ⟨hz,c,elem,g1,g2,g3,g4,g5⟩:=ho
     exact ⟨hz,c,elem,g1,g2,g3,fun j e he=>⟨(g4 j e he).1,fun t c hc2=>let ⟨r,q1,q2⟩:=(g4 j e he).2 t c hc2; ⟨r,q1,K6 c r (Yb (XX hc _ _ he) _ _ hc2) q2⟩⟩,g5⟩
  ·rcases two k o x hk hx with ⟨_,hk,hx⟩ | ⟨j,rfl,hk,hx⟩ <;> rcases two k' o' x' hk' hx' with ⟨_,hk',hx'⟩ | ⟨j',rfl,hk',hx'⟩
   ·exact h1.sep k k' o o' x x' hk hk' ha ha' hx hx' hB
   ·have a1:=hold k o x hk ha hx
    have a2:=hnewB j' o' x' hk' ha' hx'
    omega
   ·have a1:=hold k' o' x' hk' ha' hx'
    have a2:=hnewB j o x hk ha hx
    omega
   ·rw[hs'.sep j j' o o' x x' hk hk' ha ha' hx hx' hB]
  ·rcases two k o x hk hx with ⟨_,hk,hx⟩ | ⟨j,rfl,hk,hx⟩
   ·exact h1.ro k o x hk hal hx
   ·exact hs'.ro j o x hk hal hx
  ·rcases JcE hk with ⟨_,hk2⟩ | ⟨j,rfl,hk2⟩
   ·exact h1.ext k s b hk2
   ·rcases hG _ (G7 hk2) with h | ⟨z,els,h,_⟩ <;> cases h
  ·rcases two k o x hk hx with ⟨_,hk,hx⟩ | ⟨j,rfl,hk,hx⟩
   ·exact h1.extsep k o x hk hal hx
   ·intro hB
    have a1:=hnewB j o x hk hal hx
    have a2:=hs.extlt x.B hB
    omega
 ·exact hmk H.length m'.own (m.own++m'.own) m'.imm r (fun k x hk=>by rw[← hlen,app_get2]; exact hk) hrel
theorem KE {id z:Nat}{e:List (List CV)}:∀ {els:List (List CV)},Jw els=true→els.map (JS id z e)=els
 |[],_=>rfl
 |x::xs,h=>by
  simp only[Jw,Gr]at h
  rw[Gg,Qb _ h.1,KE h.2]
theorem Fn.args {f:Nat}{args args':List CV}{v:CV}(h:Fn P f args v) (hw:wks args' args):Fn P f args' v:=fun E H m w vs hs hv=>h E H m w vs hs (JaR hw hv)
theorem JeU {els:List (List CV)}(i n:Nat) {own own':List Own}{imm:Nat→Nat→Option Value}{r:Value}(ho:∀ (k:Nat) x,own[k]? = some x→own'[n+k]? = some x) (h:rel own imm (KN i els) r):rel own' imm (KN (n+i) els) r:=by
 cases els with
 |nil=>exact h
 |cons e l=>
  simp only[KN,rel]at h ⊢
  obtain ⟨x,a,c,hx,g⟩:=h
  exact ⟨x,a,c,ho _ _ hx,g⟩
theorem Jdq {z:Nat}{els:List (List CV)}(h:Jw els=true):flat (Qi z els):=by
 cases els with
 |nil=>exact .inl rfl
 |cons e l=>exact .inr ⟨_,_,rfl,h⟩
theorem rowV_one {id:Nat}{els:List (List CV)}:(KN id els).oneCell=true:=by cases els <;> rfl
attribute [go_sem ↓] rowV_one
theorem Ja1 {id z j:Nat}{e els:List (List CV)}(h:j≠id):frz id z e (KN j els)=KN j els:=by
 cases els with
 |nil=>rfl
 |cons x l=>simp only[KN,frz]; rw[if_neg h]
theorem YD {id z y:Nat}{e els:List (List CV)}(h:Jw els=true):KP id z e (Qi y els)=Qi y els:=by
 cases els with
 |nil=>rfl
 |cons x l=>simp only[Qi,KP]; rw[KE h]
theorem fn_of_two {f:Nat}{args:List CV}{i j z y:Nat}{Z R:List (List CV)}(h:CallsC P Env.none f args [] fun v H'=>∃ cap,v=.agg [KN i Z,.slc j 0 R.length cap]∧H'[i]? = some (Qi z Z)∧H'[j]? = some (.arr y R)) (hij:i≠j) (ha:Jv args=true) (hZ:Jw Z=true) (hR:Jw R=true):Fn P f args (.agg [.rslc z Z none,.rslc y R none]):=by
 have h1:=h.freeze (R':=fun v H'=>v=.agg [KN i Z,.rslc y R none]∧H'[i]? = some (Qi z Z)) fun v H' ⟨cap,hv,g1,g2⟩=>⟨j,y,R,g2,hR,by
  rw[hv]
  simp only[frz,JS,Ja1 hij,if_true,Gn,Gj,Gv,Gl],by
  simp only[Ki]
  rw[List.getElem?_set_ne hij.symm,GQ,g1,Option.map_some,YD hZ]⟩
 refine X8 (h1.mono fun v H' ⟨hv,g1⟩=>?_) ha rfl
 subst hv
 cases Z with
 |nil=>exact .inl (JbH ⟨wk.nils,wk.refl _,trivial⟩)
 |cons e l=>exact .inr ⟨i,z,e::l,g1,hZ,by
   simp only[KN,frz,JS,if_true,Gn,Gb,Gj,Gv]
   rw[show l.length+1=(e::l).length from rfl,Gl]
   exact wk.refl _⟩
inductive Frzs (v0:CV):CV→List CObj→Prop
 |done {v:CV} {H:List CObj}:wk v v0→Frzs v0 v H
 |step {v:CV} {H:List CObj} (id z:Nat) (els:List (List CV)):H[id]? = some (.arr z els)→Jw els=true→Frzs v0 (frz id z els v) (Ki id z els H)→Frzs v0 v H
theorem Q6 {f:Nat}{args:List CV}{v0:CV}(h:CallsC P Env.none f args [] fun v H'=>Frzs v0 v H') (ha:Jv args=true) (hv:v0.closed=true):Fn P f args v0:=by
 refine fn_of ?_ ha hv
 intro m w vs hs hvs
 refine (h m w vs hs hvs).mono ?_
 rintro e w' ⟨r,m',v,H',h1,h2,h3,h4,g⟩
 subst h1
 induction g generalizing m' with
 |done hw=>exact ⟨r,m',v0,_,rfl,h2,h3,hw _ _ _ h4,rfl⟩
 |step id z els g1 g2 _ ih=>
  obtain ⟨imm',hs',he,hf⟩:=Sim.freeze (n0:=([]:List CObj).length) h3 g1 g2
  exact ih _ (h2.trans he) hs' (hf _ _ h4)
def Jbi (P:Program) (f:Nat) (args:List CV) (z:Nat) (els:List (List CV)):Prop:=∀ (E:Env) (H:List CObj),CallsC P E f args H fun v H'=>v=KN H.length els∧H'=H++[Qi z els]
theorem Ja4 {f:Nat}{args:List CV}{z:Nat}{els:List (List CV)}(h:CallsC P Env.none f args [] fun v H'=>∃ id,v=KN id els∧H'[id]? = some (Qi z els)) (ha:Jv args=true) (hc:Jw els=true):Jbi P f args z els:=fun E H=>by
 refine CallsC.frameG (mk:=fun n=>KN n els) (G:=[Qi z els]) (h.ren fun v H' ⟨id,hv,hH⟩=>⟨[id],?_,?_,?_⟩) ha (fun o ho=>by simp only[Gp]at ho; rw[ho]; exact Jdq hc) fun n own own' imm r ho h=>JeU 0 n ho h
 ·have:=(GG.1 hH).1
  simp[Jet,this]
 ·rw[hv]; exact KC (by simp[ren,Jl])
 ·simp only[Ke,Gg,Gh,Ga,hH,Option.getD_some]
  cases els with
  |nil=>rfl
  |cons e l=>
   have:=Ja (ρ:=[id]) hc
   simp only[Qi,Ji,this]
theorem Jbi.fn {f:Nat}{args:List CV}{z:Nat}{els:List (List CV)}(h:Jbi P f args z els) (ha:Jv args=true) (hc:Jw els=true):Fn P f args (.rslc z els none):=
 Jfi ((h Env.none []).mono fun v H' ⟨h1,h2⟩=>⟨0,h1,by rw[h2]; rfl⟩) ha hc
end
section
variable {P:Program}{E:Env}{n0:Nat}{N:Fr}{Q:Exit→List CV→List CObj→Prop}{H:List CObj}{T:List CV}{k:List KItem}{l:List IOper}{es:List (List Nat)}
theorem Jdf {d:Option Nat}{g:Option (Nat×Bool)}{f:Nat}{xa:List IArg}{l:List IOper}{z:Nat}{els:List (List CV)}(hg:GOk T g) (hcall:Jbi P f (xa.map (Kc T)) z els) (h:Kn P E n0 N Q (.ops l::k) (put T d (KN H.length els)) (H++[Qi z els])):Ok P E n0 N Q (.ops (⟨d,.call f xa,g⟩::l)::k) T H:=
 J8 hg (hcall E H) fun v H' ⟨h1,h2⟩=>by rw[h1,h2]; exact h
theorem JbI {x:ICode}{σ:Type}(I:σ→Prop) (inv:σ→List CV) (hp:σ→List CObj) (μ:σ→Nat) (s0:σ) (h0:I s0) (hT:∀ Q,leads P E n0 N Q (inv s0) (hp s0) T H)
  (hb:∀ s,I s→Kn P E n0 N (JcF P E n0 N Q k fun T' H'=>∃ s',I s'∧μ s' < μ s∧∀ Q,leads P E n0 N Q (inv s') (hp s') T' H') [.code x] (inv s) (hp s)):Ok P E n0 N Q (.code (.loop x)::k) T H:=by
 refine ok_loop (I:=fun s T H=>I s∧∀ Q,leads P E n0 N Q (inv s) (hp s) T H) μ s0 ⟨h0,hT⟩ ?_
 rintro s T H ⟨hs,hl⟩
 refine hl _ _ ?_
 exact (JB _ _ _ (hb s hs)).mono fun e T' H' hq=>Jai (fun T2 H2 ⟨s',hs',hlt,hl'⟩=>⟨s',⟨hs',hl'⟩,hlt⟩) hq
def Jeq (P:Program) (E:Env) (n0:Nat) (N:Fr) (Q:Exit→List CV→List CObj→Prop) (k:List KItem) (l:List IOper) (es:List (List Nat)) (T:List CV) (H:List CObj):Prop:=∀ is,Sched l.length es (fun _=>false) is→Ok P E n0 N Q (.ops (is.map (QI l))::k) T H
theorem JfA (hm:P.follows .mixedOrders=true) (h:Jeq P E n0 N Q k l es T H):Ok P E n0 N Q (.code (.dreg l es)::k) T H:=ok_draw hm h
theorem Jb5 (i j:Nat) (hb:(!(i == j) && decide (i < es.length) && decide (j < es.length))=true) (h1:Jeq P E n0 N Q k l (YK es j i) T H) (h2:Jeq P E n0 N Q k l (YK es i j) T H):Jeq P E n0 N Q k l es T H:=by
 intro is hs
 simp only[Gr,Bool.not_eq_true',beq_eq_false_iff_ne,decide_eq_true_eq]at hb
 rcases JeR hb.1.1 hb.1.2 hb.2 hs rfl rfl with h | h
 ·exact h1 is h
 ·exact h2 is h
theorem XK (bs:List Bool) (T':List CV) (H':List CObj) (hord:(l.length == bs.length && (Jad l.length es (clo es) && KW l (clo es) (bs.map Qw)))=true) (hfin:Ok P E n0 N Q k T' H') (h:vdk P E (leads P E n0 N Q T' H') l bs T H):Jeq P E n0 N Q k l es T H:=
 fun _ hs=>Jdm hord h hfin hs
def pm (p:List Nat) (a:Nat):Nat:=p.getD a a
theorem pm_out {p:List Nat}{a:Nat}(h:p.length≤a):pm p a=a:=by
 unfold pm; rw[Ga,List.getElem?_eq_none h]; rfl
def JcO (n:Nat) (p q:List Nat):Bool:=p.length == n && q.length == n && (GU n).all fun a=>decide (pm p a < n) && decide (pm q a < n) && pm q (pm p a) == a && pm p (pm q a) == a
theorem sched_perm {n:Nat}{p q:List Nat}(hb:JcO n p q=true) {es2:List (List Nat)}(he:∀ a,a < n→es2.getD a []=(es.getD (pm p a) []).map (pm q)) {S:Nat→Bool}{is:List Nat}(h:Sched n es S is):Sched n es2 (fun a=>S (pm p a)) (is.map (pm q)):=by
 simp only[JcO,Gr,beq_iff_eq,GI,Hq,decide_eq_true_eq]at hb
 obtain ⟨⟨hpl,hql⟩,hall⟩:=hb
 have hqp:∀ a,pm p (pm q a)=a:=fun a=>by
  rcases GM a n with h | h
  ·exact (hall a h).2
  ·rw[pm_out (p:=q) (by omega),pm_out (by omega)]
 have hpq:∀ a,pm q (pm p a)=a:=fun a=>by
  rcases GM a n with h | h
  ·exact (hall a h).1.2
  ·rw[pm_out (p:=p) (by omega),pm_out (by omega)]
 induction h with
 |nil hn=>
  refine .nil fun a ha hS=>?_
  obtain ⟨e,h1,h2⟩:=hn _ (hall a ha).1.1.1 hS
  exact ⟨pm q e,by rw[he a ha]; exact List.mem_map_of_mem h1,by rw[hqp]; exact h2⟩
 |cons ha hS hr _ ih=>
  rename_i S a is _
  refine .cons (hall a ha).1.1.2 (by rw[hqp]; exact hS) (fun e hm=>?_) ?_
  ·rw[he _ (hall a ha).1.1.2,hqp]at hm
   obtain ⟨e',h1,rfl⟩:=Gz.1 hm
   rw[hqp]; exact hr e' h1
  ·have e:(fun b=>S (pm p b) || b == pm q a)=fun b=>S (pm p b) || pm p b == a:=by
    funext b
    congr 1
    by_cases h:b=pm q a
    ·subst h; rw[hqp]; simp
    ·have:pm p b≠a:=fun hh=>h (by rw[← hh,hpq])
     rw[beq_false_of_ne h,beq_false_of_ne this]
   rw[e]; exact ih
theorem sched_mem {n : Nat} {S : Nat → Bool} {is : List Nat} (h : Sched n es S is) : ∀ a ∈ is, a < n := by
  induction h with
  | nil _ => intro a ha; cases ha
  | cons h _ _ _ ih => intro a ha; rcases GR.1 ha with h' | h'
                       · subst h'; exact h
                       · exact ih a h'
def prl (p:List Nat) (l:List IOper):List IOper:=p.map fun a=>QI l a
def pre (p q:List Nat) (es:List (List Nat)):List (List Nat):=p.map fun a=>(es.getD a []).map (pm q)
theorem Jb4 (p q:List Nat) (hb:JcO l.length p q=true) (h:Jeq P E n0 N Q k (prl p l) (pre p q es) T H):Jeq P E n0 N Q k l es T H:=by
 intro is hs
 have hb2:=hb
 simp only[JcO,Gr,beq_iff_eq,GI,Hq,decide_eq_true_eq]at hb2
 obtain ⟨⟨hpl,hql⟩,hall⟩:=hb2
 have hlen:(prl p l).length=l.length:=by rw[prl,GJ]; exact hpl
 have hs2:=sched_perm hb (es2:=pre p q es) (fun a ha=>by
  unfold pre pm
  rw[Ga,GQ,Gf (by omega)]
  simp[Ga,Gf (show a < p.length by omega)]) hs
 rw[← hlen]at hs2
 have:=h _ hs2
 have e:(is.map (pm q)).map (QI (prl p l))=is.map (QI l):=by
  rw[List.map_map]
  refine List.map_congr_left fun a ha=>?_
  have hal:=sched_mem hs a ha
  have h1:=(hall a hal).1.1.2
  have h2:=(hall a hal).2
  simp only[Function.comp]
  unfold prl QI
  rw[Ga,GQ,Gf (by omega)]
  simp only[Option.map_some,Option.getD_some]
  have e2:p[pm q a]'(by omega)=a:=by
   unfold pm at h2 ⊢
   rw[Ga,Gf (by simpa [pm]using (by omega:pm q a < p.length))]at h2
   exact h2
  rw[e2]
 rw[e]at this
 exact this
end
end
end Go.Cm
end
section
set_option maxRecDepth 100000
set_option maxHeartbeats 4000000
open Go.Proofs
namespace Go.Cm
theorem rowN {l:List Nd}{i:Nat}(h:i < l.length):l.getD i default=l[i]:=by rw[Ga,Gf h]; rfl
theorem cloneR {l:List Int}(hl:l.length≤100000) (hne:l≠[]):Jbi Gd 72 [.rslc 1 (iz l) none] 1 (iz l):=by
 refine Ja4 (J7 c72_ok fun N=>?_) rfl (Jd l)
 obtain ⟨x,xs,hR⟩:∃ x xs,iz l=x::xs:=by
  cases l with
  |nil=>exact absurd rfl hne
  |cons a l=>exact ⟨_,_,rfl⟩
 have hlen:xs.length+1=l.length:=by rw[← Jf (l:=l),hR]; rfl
 rw[hR]
 simp -implicitDefEqProofs only[c72,go_sem,Jr]
 refine ⟨by omega,1,by rw[QQ],rfl⟩
theorem cloneE:Fn Gd 72 [.rslc 1 [] none] (.rslc 1 [] none):=by
 refine X8 ?_ rfl rfl
 refine J7 c72_ok fun N=>?_
 simp -implicitDefEqProofs only[c72,go_sem]
 refine ok_eqnil rfl fun b=>?_
 cases b with
 |true=>
  simp -implicitDefEqProofs only[go_sem]
  exact .inl wk.nils
 |false=>
  simp -implicitDefEqProofs only[go_sem]
  exact .inr ⟨0,1,[],rfl,rfl,by simp[frz]; exact wk.refl _⟩
theorem equalI (a b:List Int) (ha:a.length≤100000):Fn Gd 74 [.rslc 1 (iz a) none,.rslc 1 (iz b) none] (.bool (a == b)):=by
 have hal:(iz a).length=a.length:=Jf
 have hbl:(iz b).length=b.length:=Jf
 refine Jb c74_ok rfl rfl fun N=>?_
 by_cases hl:a.length=b.length
 ·have e1:((a.length:Int) != (b.length:Int))=false:=by simp[hl]
  simp -implicitDefEqProofs only[c74,go_sem,hal,hbl,e1]
  refine JC (I:=fun i:Nat=>i≤a.length∧a.take i=b.take i) (inv:=fun i=>gp [(0,.rslc 1 (iz a) none),(0,.rslc 1 (iz b) none),(10,.int .i64 (a.length:Int)),(0,.int .i64 (i:Int))] 12) (hp:=fun _=>[]) (μ:=fun i=>a.length-i) 0 ⟨by omega,by simp⟩ ?_ rfl ?_
  ·simp[forget,gp,hal]
  ·rintro i ⟨hi,hinv⟩
   by_cases hlt:i < a.length
   ·have d1:((i:Int) < (a.length:Int))=True:=Jo
    have hga:=JP hlt
    have hgb:=JP (l:=b) (i:=i) (by omega)
    have hta:=QJ (d:=0) hlt
    have htb:=QJ (l:=b) (i:=i) (d:=0) (by omega)
    simp -implicitDefEqProofs only[go_sem,hal,hbl,d1]
    refine JQ Jz (by decide) ?_
    simp -implicitDefEqProofs only[go_sem,hal,hbl,hga,hgb]
    refine ⟨by omega,by omega,?_⟩
    by_cases he:a.getD i 0=b.getD i 0
    ·have e2:(a.getD i 0 != b.getD i 0)=false:=by rw[he]; simp
     simp -implicitDefEqProofs only[go_sem,e2]
     refine ⟨Jj,i+1,⟨by omega,by rw[hta,htb,hinv,he]⟩,by omega,?_⟩
     simp[forget,hal]
    ·have e2:(a.getD i 0 != b.getD i 0)=true:=by simpa using he
     have hne:(a == b)=false:=by
      rw[beq_eq_false_iff_ne]; rintro rfl; exact he rfl
     simp -implicitDefEqProofs only[go_sem,e2,hne]
   ·have d1:((i:Int) < (a.length:Int))=False:=Jn
    have he:(a == b)=true:=by
     rw[beq_iff_eq]
     have h1:i=a.length:=by omega
     rw[h1,Gl,Gt (by omega)]at hinv
     exact hinv
    simp -implicitDefEqProofs only[go_sem,hal,hbl,d1,he]
 ·have e1:((a.length:Int) != (b.length:Int))=true:=by simp; omega
  have hne:(a == b)=false:=by
   rw[beq_eq_false_iff_ne]; rintro rfl; exact hl rfl
  simp -implicitDefEqProofs only[c74,go_sem,hal,hbl,e1,hne]
def JcD (o:List Int) (t:Tr) (i:Nat):Tr:=
 let last:=t.items.getD i 0
 ⟨((t.nodes.drop (fs o last).toNat).take (last.toNat+1-(fs o last).toNat)).map (mvN (-(fs o last))),[last-fs o last]⟩
def noT:Tr:=⟨[],[]⟩
theorem GoodT.item {t:Tr}{o:List Int}(g:GoodT t o) {i:Nat}(hi:i < t.items.length):∃ L F:Nat,t.items.getD i 0=(L:Int)∧fs o L=(F:Int)∧F≤L∧L < t.nodes.length∧o.length=t.nodes.length∧o.getD L 0=(F:Int):=by
 have hol:o.length=t.nodes.length:=by rw[g.ord.len,Ko]
 have hm:t.items.getD i 0∈t.items:=by
  rw[Ga,Gf hi]; exact Gi hi
 obtain ⟨_,h2,h3,h4⟩:=Qp g.ord.ok hol _ _ _ g.its _ hm
 obtain ⟨h5,h6⟩:=Jgg g.ord.ok h2 (by omega)
 generalize t.items.getD i 0=L at *
 obtain ⟨L,rfl⟩:∃ n:Nat,L=(n:Int):=⟨L.toNat,by omega⟩
 exact ⟨L,(fs o L).toNat,rfl,by omega,by omega,by omega,hol,by rw[show o.getD L 0=fs o (L:Int) by simp[fs]]; omega⟩
theorem GoodT.kidr {t:Tr}{o:List Int}(g:GoodT t o) {x:Nd}(hx:x∈t.nodes) {k:Int}(hk:k∈x.kids):0≤k∧k < t.nodes.length:=by
 obtain ⟨j,hj⟩:=G8 hx
 have hjl:=(GG.1 hj).1
 have:=QM g.ord.h (j:=j) (ks:=x.kids) (by simp[Js,hj]) k hk
 omega
theorem refCut (t:Tr) (ht:t.Fit) {o:List Int}(g:GoodT t o) (i:Nat) (hi:i < t.items.length):Fn Gd 33 [t.cv,.int .i64 (i:Int)] (JcD o t i).cv:=by
 have hit:=g.items
 have hmany:=g.many
 have hil:(iz t.items).length=t.items.length:=Jf
 obtain ⟨L,F,hL,hFs,hFL,hLn,hol,hoL⟩:=g.item hi
 have hgi:(iz t.items).getD i []=[.int .i64 (L:Int)]:=by rw[JP hi,hL]
 have hR:=JfU t (ord_take g) (Gj _) L hLn
 rw[hFs]at hR
 have hT:JcD o t i=⟨((t.nodes.drop F).take (L+1-F)).map (mvN (-(F:Int))),[(L:Int)-F]⟩:=by
  unfold JcD; simp only[hL,hFs,Gw]
 rw[hT]
 obtain ⟨O,hO⟩:∃ O:Nat→List Nd,O=fun j=>((t.nodes.drop F).take j).map (mvN (-(F:Int))):=⟨_,rfl⟩
 have hO0:O 0=[]:=by rw[hO]; simp
 have hOe:((t.nodes.drop F).take (L+1-F)).map (mvN (-(F:Int)))=O (L+1-F):=by rw[hO]
 have hOl:∀ j,j≤L+1-F→(O j).length=j:=fun j hj=>by rw[hO]; simp; omega
 have hOs:∀ j,j < L+1-F→O (j+1)=O j++[mvN (-(F:Int)) (t.nodes.getD (F+j) default)]:=fun j hj=>by
  rw[hO]
  simp only
  rw[QJ (d:=default) (by rw[Hg]; omega),Hl]
  simp[Ga]
 rw[hOe]
 refine X8 ?_ rfl rfl
 refine J7 c33_ok fun N=>?_
 simp -implicitDefEqProofs only[c33,go_sem,Tr.cv,Tr.row,hil,hgi]
 refine ⟨by omega,?_⟩
 refine Je (id:=0) (z:=2) (els:=[t.row]) rfl rfl ?_
 simp only[go_sem,JS,Ki,frz,KP,Tr.row]
 refine JR hR ?_
 simp -implicitDefEqProofs only[go_sem,splice,Gb,Gc]
 refine ⟨Jj,?_⟩
 refine Je (id:=2) (z:=1) (els:=[[.int .i64 ((L:Int)-F)]]) rfl rfl ?_
 simp only[go_sem,JS,Ki,frz,KP,Gb,Gc,Gn,Gj,if_true,Gv,List.take_succ_cons,List.take_zero]
 refine Q3 ?_
 simp only[go_sem,Gm,Gq]
 refine Jy (I:=fun j:Nat=>j≤L+1-F) (inv:=fun j=>gp [(2,.rptr t.row),(1,.ptr 1 0 0),(0,.int .i64 (L:Int)),(0,.int .i64 (F:Int)),(0,.ptr 3 0 0),(0,.int .i64 ((F+j:Nat):Int))] 33) (hp:=fun j=>[.dead,.arr 2 [[.nils,.nils]],.dead,.arr 2 [[KN 4 (ndz (O j)),.rslc 1 [[.int .i64 ((L:Int)-F)]] none]],Qi 5 (ndz (O j))]) (μ:=fun j=>L+1-F-j) 0 [0,1,2,3,4] (by omega) rfl ?_ ?_ ?_
 ·simp[forget,JA,ren,Jl,gp,Tr.row]
 ·rw[hO0]; rfl
 ·intro j hj
  by_cases hlt:j < L+1-F
  ·have d1:(((F+j:Nat):Int)≤(L:Int))=True:=Jo
   have hFj:F+j < t.nodes.length:=by omega
   have hg:=KQ hFj
   have hxm:t.nodes.getD (F+j) default∈t.nodes:=by rw[rowN hFj]; exact Gi hFj
   have hx:=ht.nodes _ hxm
   have hxk:∀ k∈(t.nodes.getD (F+j) default).kids,InR .i64 (k + -(F:Int)):=fun k hk=>by
    have:=g.kidr hxm hk
    exact Jj
   have hOj:=hOs j hlt
   have hcl:=JL (O (j+1))
   have hpl:(ndz (O j)).length=j:=by rw[Jc,hOl j hj]
   generalize t.nodes.getD (F+j) default=x at hg hx hxk hOj
   have hts:ndz (O (j+1))=ndz (O j)++[(mvN (-(F:Int)) x).cv]:=by rw[hOj]; simp[ndz]
   have hM:=JaX x (by have:=hx.kidn; omega) (-(F:Int)) hxk
   generalize ndz (O j)=Z at hts hpl ⊢
   simp -implicitDefEqProofs only[go_sem,d1,Tr.row]
   refine Qt [false,true,false,false,false,false,false,false,false,false,false,true,false,true] Jz (by decide +kernel) ?_
   simp -implicitDefEqProofs only[go_sem,Jc,hg,Int.zero_sub]
   repeat (refine And.intro (by first | omega | exact Jj | simp[Nd.cv]) ?_)
   refine vh_f hM ?_
   simp -implicitDefEqProofs only[go_sem]
   refine JbJ [(mvN (-(F:Int)) x).cv] rfl rfl rfl rfl ?_
   simp -implicitDefEqProofs only[go_sem,Jr,splice,Gb,Gc]
   refine ⟨by omega,Jj,j+1,[0,1,2,3,5],by omega,by omega,rfl,?_,?_⟩
   ·rw[hts]at hcl
    have hc:=Ja (ρ:=[0,1,2,3,5]) hcl
    rw[hts,JY,JZ]
    simp only[Ke,Gg,Gh,go_sem,Ji,hc]
    rfl
   ·simp[forget,JA,ren,Jl,Tr.row]
    omega
  ·have hje:j=L+1-F:=by omega
   subst hje
   have d1:(((F+(L+1-F):Nat):Int)≤(L:Int))=False:=Jn
   have hnc:=JL (O (L+1-F))
   have hne:ndz (O (L+1-F))≠[]:=by
    intro e
    have:=congrArg List.length e
    rw[Jc,hOl _ (Gj _)]at this
    simp at this
    omega
   rw[QA hne,Qk hne]
   simp -implicitDefEqProofs only[go_sem,d1,splice]
   exact .inr ⟨4,5,ndz (O (L+1-F)),rfl,hnc,JfR rfl rfl⟩
theorem mvN0 (x:Nd):mvN 0 x=x:=by
 obtain ⟨k,te,n,ks,p⟩:=x
 simp[mvN]
theorem copyO (t:Tr) (ht:t.Fit) (E:Env) (H:List CObj):CallsC Gd E 13 [t.cv] H fun v H'=>v=.agg [KN H.length (ndz t.nodes),.slc (H.length+1) 0 (iz t.items).length (JbF (iz t.items))]∧H'=H++[Qi 5 (ndz t.nodes),.arr 1 (iz t.items)]:=by
 have hmany:=ht.many
 have hitems:=ht.items
 have hil:(iz t.items).length=t.items.length:=Jf
 have hrc:=Jd t.items
 refine CallsC.frameG (mk:=fun n=>.agg [KN n (ndz t.nodes),.slc (n+1) 0 (iz t.items).length (JbF (iz t.items))]) (G:=[Qi 5 (ndz t.nodes),.arr 1 (iz t.items)]) ?_ rfl ?_ ?_
 rotate_left
 ·intro o ho
  rcases GR.1 ho with rfl | ho
  ·exact Jdq (JL _)
  ·rw[Gp]at ho
   exact .inr ⟨_,_,ho,hrc⟩
 ·rintro n own own' imm r ho ⟨vs,rfl,r1,rs1,e1,h1,r2,rs2,e2,⟨x,a,c,hx,gg⟩,h3⟩
  exact ⟨vs,rfl,r1,rs1,e1,JeU 0 n ho h1,r2,rs2,e2,⟨x,a,c,ho _ _ hx,gg⟩,h3⟩
 refine CallsC.ren (R:=fun v H'=>∃ ρ,Jet ρ 0 H'.length=true∧ren ρ v=.agg [KN 0 (ndz t.nodes),.slc 1 0 (iz t.items).length (JbF (iz t.items))]∧Ke ρ H'=[Qi 5 (ndz t.nodes),.arr 1 (iz t.items)]) ?_ fun v H' h=>h
 refine J7 c13_ok fun N=>?_
 obtain ⟨R,hR⟩:∃ R,R=iz t.items:=⟨_,rfl⟩
 simp only[Tr.cv,Tr.row]
 rw[← hR]at hrc hil ⊢
 cases R with
 |nil=>
  simp -implicitDefEqProofs only[c13,go_sem]
  refine Je (id:=0) (z:=2) (els:=[[.rslc 5 (ndz t.nodes) none,.rslc 1 [] none]]) rfl rfl ?_
  simp only[go_sem,JS,Ki,frz,KP]
  refine Q3 ?_
  simp only[go_sem,Gm,Gq]
  refine Jy (I:=fun i:Nat=>i≤t.nodes.length) (inv:=fun i=>gp [(1,.rptr [.rslc 5 (ndz t.nodes) none,.rslc 1 [] none]),(0,.ptr 1 0 0),(0,.ptr 2 0 0),(0,.int .i64 (i:Int))] 24) (hp:=fun i=>[.dead,.arr 2 [[.nils,.nils]],.arr 2 [[KN 4 (ndz (t.nodes.take i)),.slc 3 0 0 (some 0)]],.arr 1 [],Qi 5 (ndz (t.nodes.take i))]) (μ:=fun i=>t.nodes.length-i) 0 [0,1,3,2,4] (by omega) rfl ?_ ?_ ?_
  ·simp[forget,JA,ren,Jl,gp]
  ·rfl
  ·intro i hi
   by_cases hlt:i < t.nodes.length
   ·have d1:((i:Int) < (t.nodes.length:Int))=True:=Jo
    have hg:=KQ hlt
    have hx:=ht.nodes _ (Gi hlt)
    rw[← rowg hlt]at hx
    have hts:ndz (t.nodes.take (i+1))=ndz (t.nodes.take i)++[(t.nodes.getD i default).cv]:=by
     rw[QJ (d:=default) hlt]; simp[ndz]
    have hcl:=JL (t.nodes.take (i+1))
    have hpl:(ndz (t.nodes.take i)).length=i:=by rw[Jc,Gu]; omega
    generalize t.nodes.getD i default=x at hg hx hts
    generalize ndz (t.nodes.take i)=Z at hts hpl ⊢
    have hM:=JaX x (by have:=hx.kidn; omega) 0 (fun k hk=>by rw[GA]; exact hx.kids k hk)
    rw[mvN0]at hM
    simp -implicitDefEqProofs only[go_sem,Jc,d1]
    refine Qt [false,true,false,false,false,false,false,false,false,true,false,true] Jz (by decide +kernel) ?_
    simp -implicitDefEqProofs only[go_sem,Jc,hg]
    refine ⟨by omega,by simp[Nd.cv],?_⟩
    refine vh_f hM ?_
    simp -implicitDefEqProofs only[go_sem]
    refine JbJ [x.cv] rfl rfl rfl rfl ?_
    simp -implicitDefEqProofs only[go_sem,Jr,splice,Gb,Gc]
    refine ⟨by omega,Jj,i+1,[0,1,2,3,5],by omega,by omega,rfl,?_,?_⟩
    ·rw[hts]at hcl
     have hc:=Ja (ρ:=[0,1,2,3,5]) hcl
     have hc2:=Ja (ρ:=[0,1,2,3,5]) hrc
     rw[hts,JY,JZ]
     simp only[Ke,Gg,Gh,go_sem,Ji,hc]
     rfl
    ·simp[forget,JA,ren,Jl]
   ·have hie:i=t.nodes.length:=by omega
    subst hie
    have d1:((t.nodes.length:Int) < (t.nodes.length:Int))=False:=Jn
    rw[Gl]
    have hc2:=Ja (ρ:=[4,3]) hrc
    cases hN:ndz t.nodes with
    |nil=>
     have hnl:(([]:List (List CV)).length:Int)=t.nodes.length:=by rw[← hN,Jc]
     simp only[Gc]at hnl
     simp -implicitDefEqProofs only[go_sem,Qu,Xc,Gc,hnl,d1,splice]
     refine ⟨[4,3],rfl,by simp[ren,JA,Jl,JbF],?_⟩
     simp only[Ke,Gg,Gh,go_sem,Ji,Jh,hc2]
    |cons f fs=>
     have hnl:((fs.length+1:Nat):Int)=t.nodes.length:=by rw[← Gb,← hN,Jc]
     have hc:=Ja (ρ:=[4,3]) (hN▸JL t.nodes)
     have hne:f::fs≠[]:=by simp
     generalize hFF:f::fs=FF at *
     simp only[QA hne,Qk hne]
     have hfl:FF.length=fs.length+1:=by rw[← hFF]; rfl
     simp -implicitDefEqProofs only[go_sem,hfl,hnl,d1,splice]
     refine ⟨[4,3],rfl,?_,?_⟩
     ·simp[ren,JA,Jl,JbF,hfl]
     ·simp only[Ke,Gg,Gh,go_sem,Ji,hc,hc2]
 |cons e es=>
  have hel:es.length+1≤40:=by have:=hil; simp only[Gb]at this; omega
  simp -implicitDefEqProofs only[c13,go_sem,Jr,Gb]
  refine ⟨by omega,?_⟩
  have hl:es.length+1=(e::es).length:=rfl
  have hcap:JbF (e::es)=none:=rfl
  rw[hl,hcap]
  clear hel hl hcap
  generalize e::es=R' at *
  have hz:=KE (id:=0) (z:=2) (e:=[[.rslc 5 (ndz t.nodes) none,.rslc 1 R' none]]) hrc
  refine Je (id:=0) (z:=2) (els:=[[.rslc 5 (ndz t.nodes) none,.rslc 1 R' none]]) rfl rfl ?_
  simp only[go_sem,JS,Ki,frz,KP,hz]
  refine Q3 ?_
  simp only[go_sem,Gm,Gq]
  refine Jy (I:=fun i:Nat=>i≤t.nodes.length) (inv:=fun i=>gp [(1,.rptr [.rslc 5 (ndz t.nodes) none,.rslc 1 R' none]),(0,.ptr 1 0 0),(0,.ptr 2 0 0),(0,.int .i64 (i:Int))] 24) (hp:=fun i=>[.dead,.arr 2 [[.nils,.nils]],.arr 2 [[KN 4 (ndz (t.nodes.take i)),.slc 3 0 R'.length none]],.arr 1 R',Qi 5 (ndz (t.nodes.take i))]) (μ:=fun i=>t.nodes.length-i) 0 [0,1,4,3,5] (by omega) rfl ?_ ?_ ?_
  ·simp[forget,JA,ren,Jl,gp]
  ·have hc2:=Ja (ρ:=[0,1,4,3,5]) hrc
   simp only[Ke,Gg,Gh,go_sem,Ji]
   rw[hc2]
   rfl
  ·intro i hi
   by_cases hlt:i < t.nodes.length
   ·have d1:((i:Int) < (t.nodes.length:Int))=True:=Jo
    have hg:=KQ hlt
    have hx:=ht.nodes _ (Gi hlt)
    rw[← rowg hlt]at hx
    have hts:ndz (t.nodes.take (i+1))=ndz (t.nodes.take i)++[(t.nodes.getD i default).cv]:=by
     rw[QJ (d:=default) hlt]; simp[ndz]
    have hcl:=JL (t.nodes.take (i+1))
    have hpl:(ndz (t.nodes.take i)).length=i:=by rw[Jc,Gu]; omega
    generalize t.nodes.getD i default=x at hg hx hts
    generalize ndz (t.nodes.take i)=Z at hts hpl ⊢
    have hM:=JaX x (by have:=hx.kidn; omega) 0 (fun k hk=>by rw[GA]; exact hx.kids k hk)
    rw[mvN0]at hM
    simp -implicitDefEqProofs only[go_sem,Jc,d1]
    refine Qt [false,true,false,false,false,false,false,false,false,true,false,true] Jz (by decide +kernel) ?_
    simp -implicitDefEqProofs only[go_sem,Jc,hg]
    refine ⟨by omega,by simp[Nd.cv],?_⟩
    refine vh_f hM ?_
    simp -implicitDefEqProofs only[go_sem]
    refine JbJ [x.cv] rfl rfl rfl rfl ?_
    simp -implicitDefEqProofs only[go_sem,Jr,splice,Gb,Gc]
    refine ⟨by omega,Jj,i+1,[0,1,2,3,5],by omega,by omega,rfl,?_,?_⟩
    ·rw[hts]at hcl
     have hc:=Ja (ρ:=[0,1,2,3,5]) hcl
     have hc2:=Ja (ρ:=[0,1,2,3,5]) hrc
     rw[hts,JY,JZ]
     simp only[Ke,Gg,Gh,go_sem,Ji,hc]
     rw[hc2]
     rfl
    ·simp[forget,JA,ren,Jl]
   ·have hie:i=t.nodes.length:=by omega
    subst hie
    have d1:((t.nodes.length:Int) < (t.nodes.length:Int))=False:=Jn
    rw[Gl]
    have hc2:=Ja (ρ:=[4,3]) hrc
    cases hN:ndz t.nodes with
    |nil=>
     have hnl:(([]:List (List CV)).length:Int)=t.nodes.length:=by rw[← hN,Jc]
     simp only[Gc]at hnl
     simp -implicitDefEqProofs only[go_sem,Qu,Xc,Gc,hnl,d1,splice]
     refine ⟨[4,3],rfl,by simp[ren,JA,Jl,JbF],?_⟩
     simp only[Ke,Gg,Gh,go_sem,Ji,Jh,hc2]
    |cons f fs=>
     have hnl:((fs.length+1:Nat):Int)=t.nodes.length:=by rw[← Gb,← hN,Jc]
     have hc:=Ja (ρ:=[4,3]) (hN▸JL t.nodes)
     have hne:f::fs≠[]:=by simp
     generalize hFF:f::fs=FF at *
     simp only[QA hne,Qk hne]
     have hfl:FF.length=fs.length+1:=by rw[← hFF]; rfl
     simp -implicitDefEqProofs only[go_sem,hfl,hnl,d1,splice]
     refine ⟨[4,3],rfl,?_,?_⟩
     ·simp[ren,JA,Jl,JbF,hfl]
     ·simp only[Ke,Gg,Gh,go_sem,Ji,hc,hc2]
def Qa (a b:Tr):Tr:=⟨a.nodes++b.nodes.map (mvN a.nodes.length),a.items++b.items.map (· + (a.nodes.length:Int))⟩
theorem GoodT.itr {t:Tr}{o:List Int}(g:GoodT t o) {i:Int}(hi:i∈t.items):0≤i∧i < t.nodes.length:=by
 have hol:o.length=t.nodes.length:=by rw[g.ord.len,Ko]
 obtain ⟨_,h2,h3,h4⟩:=Qp g.ord.ok hol _ _ _ g.its _ hi
 exact ⟨h2,h4⟩
theorem refGlue (a b:Tr) (ha:a.Fit) (hb:b.Fit) {oa ob:List Int}(ga:GoodT a oa) (gb:GoodT b ob):Fn Gd 32 [a.cv,b.cv] (Qa a b).cv:=by
 have ham:=ga.many
 have hbm:=gb.many
 have hai:=ga.items
 have hbi:=gb.items
 obtain ⟨n,hn⟩:∃ n,n=a.nodes.length:=⟨_,rfl⟩
 obtain ⟨O,hO⟩:∃ O:Nat→List Nd,O=fun j=>a.nodes++(b.nodes.take j).map (mvN n):=⟨_,rfl⟩
 obtain ⟨I,hI⟩:∃ I:Nat→List Int,I=fun j=>a.items++(b.items.take j).map (· + (n:Int)):=⟨_,rfl⟩
 have hT:Qa a b=⟨O b.nodes.length,I b.items.length⟩:=by rw[hO,hI,hn]; simp[Qa]
 have hO0:O 0=a.nodes:=by rw[hO]; simp
 have hI0:I 0=a.items:=by rw[hI]; simp
 have hOl:∀ j,j≤b.nodes.length→(O j).length=n+j:=fun j hj=>by rw[hO,hn]; simp; omega
 have hIl:∀ j,j≤b.items.length→(I j).length=a.items.length+j:=fun j hj=>by rw[hI]; simp; omega
 have hOs:∀ j,j < b.nodes.length→O (j+1)=O j++[mvN n (b.nodes.getD j default)]:=fun j hj=>by
  rw[hO]; simp only; rw[QJ (d:=default) hj]; simp
 have hIs:∀ j,j < b.items.length→I (j+1)=I j++[b.items.getD j 0+(n:Int)]:=fun j hj=>by
  rw[hI]; simp only; rw[QJ (d:=0) hj]; simp
 have hnl:(ndz a.nodes).length=n:=by rw[Jc,hn]
 have hbl:(iz b.items).length=b.items.length:=Jf
 rw[hT]
 clear hT
 refine fn_of_two (i:=4) (j:=5) (z:=5) (y:=1) (Z:=ndz (O b.nodes.length)) (R:=iz (I b.items.length)) (J7 c32_ok fun N=>?_) (by decide) rfl (JL _) (Jd _)
 simp -implicitDefEqProofs only[c32,go_sem,Tr.cv,Tr.row]
 refine Je (id:=0) (z:=2) (els:=[a.row]) rfl rfl ?_
 simp only[go_sem,JS,Ki,frz,KP,Tr.row]
 refine Je (id:=1) (z:=2) (els:=[b.row]) rfl rfl ?_
 simp only[go_sem,JS,Ki,frz,KP,Tr.row]
 have hC:=copyO a ha Env.none
 refine vr_dregP 1 5 [false,true,false,false,false,true,true,false] [false,true,false,false,false,true,true,false] (gp [(3,.rptr b.row),(0,.ptr 2 0 0),(0,.ptr 3 0 0),(0,.int .i64 (n:Int))] 46) [.dead,.dead,.arr 2 [[.nils,.nils]],.arr 2 [[KN 4 (ndz a.nodes),.slc 5 0 (iz a.items).length (JbF (iz a.items))]],Qi 5 (ndz a.nodes),.arr 1 (iz a.items)] Jz (by decide +kernel) ?_ ?_ ?_
 ·simp -implicitDefEqProofs only[go_sem,Tr.row]
  refine ⟨_,_,Jaz (.inl rfl) (hC _),?_⟩
  simp -implicitDefEqProofs only[go_sem,hnl,splice,Gb,Gc,Gm,Gq]
  have hr:ren [0,1,2,5,3,4] (KN 3 (ndz a.nodes))=KN 4 (ndz a.nodes):=KC rfl
  have hri:=Ja (ρ:=[0,1,2,5,3,4]) (Jd a.items)
  refine QW [0,1,2,5,3,4] rfl (by simp[forget,JA,ren,Jl,Tr.row]) ?_
  simp only[Ke,Gg,Gh,go_sem,Ji,Jh,JA,hr,Kk (Ja (JL _)),hri]
  rfl
 ·simp -implicitDefEqProofs only[swl,swi,QI,GU,List.range.loop,Gb,Gc,Gg,Gh,Ha,Hd,go_sem,Tr.row,hnl]
  refine ⟨_,_,Jaz (.inl rfl) (hC _),?_⟩
  simp -implicitDefEqProofs only[go_sem,hnl,splice,Gb,Gc,Gm,Gq]
  exact Jk (by simp[forget,Tr.row])
 ·simp only[gp,Ho]
  simp -implicitDefEqProofs only[go_sem]
  refine JbI (I:=fun j:Nat=>j≤b.nodes.length) (inv:=fun j=>gp [(3,.rptr b.row),(0,.ptr 2 0 0),(0,.ptr 3 0 0),(0,.int .i64 (n:Int)),(0,.int .i64 (j:Int))] 45) (hp:=fun j=>[.dead,.dead,.arr 2 [[.nils,.nils]],.arr 2 [[KN 4 (ndz (O j)),.slc 5 0 (iz a.items).length (JbF (iz a.items))]],Qi 5 (ndz (O j)),.arr 1 (iz a.items)]) (μ:=fun j=>b.nodes.length-j) 0 (by omega) (fun Q=>?_) ?_
  ·rw[hO0]
   exact Jk (by simp[forget,gp,Tr.row])
  ·intro j hj
   by_cases hlt:j < b.nodes.length
   ·have d1:((j:Int) < (b.nodes.length:Int))=True:=Jo
    have hg:=KQ hlt
    have hxm:b.nodes.getD j default∈b.nodes:=by rw[rowN hlt]; exact Gi hlt
    have hx:=hb.nodes _ hxm
    have hxk:∀ k∈(b.nodes.getD j default).kids,InR .i64 (k+(n:Int)):=fun k hk=>by
     have:=gb.kidr hxm hk
     exact Jj
    have hOj:=hOs j hlt
    have hcl:=JL (O (j+1))
    have hpl:(ndz (O j)).length=n+j:=by rw[Jc,hOl j hj]
    generalize b.nodes.getD j default=x at hg hx hxk hOj
    have hts:ndz (O (j+1))=ndz (O j)++[(mvN n x).cv]:=by rw[hOj]; simp[ndz]
    have hM:=JaX x (by have:=hx.kidn; omega) (n:Int) hxk
    generalize ndz (O j)=Z at hts hpl ⊢
    simp -implicitDefEqProofs only[go_sem,d1,Tr.row,Jc]
    refine Qt [false,true,false,false,false,false,false,false,false,false,true,false,true] Jz (by decide +kernel) ?_
    simp -implicitDefEqProofs only[go_sem,Jc,hg]
    repeat (refine And.intro (by first | omega | exact Jj | simp[Nd.cv]) ?_)
    refine vh_f hM ?_
    simp -implicitDefEqProofs only[go_sem]
    refine JbJ [(mvN n x).cv] rfl rfl rfl rfl ?_
    simp -implicitDefEqProofs only[go_sem,Jr,splice,Gb,Gc]
    refine ⟨by omega,Jj,j+1,by omega,by omega,fun Q=>QW [0,1,2,3,6,5] rfl ?_ ?_⟩
    ·simp[forget,JA,ren,Jl,Tr.row]
    ·rw[hts]at hcl
     have hc:=Ja (ρ:=[0,1,2,3,6,5]) hcl
     have hri:=Ja (ρ:=[0,1,2,3,6,5]) (Jd a.items)
     rw[hts,JY,JZ]
     simp only[Ke,Gg,Gh,go_sem,Ji,hc,hri]
     rfl
   ·have hje:j=b.nodes.length:=by omega
    subst hje
    have d1:((b.nodes.length:Int) < (b.nodes.length:Int))=False:=Jn
    have hnc:=JL (O b.nodes.length)
    generalize ndz (O b.nodes.length)=Z at hnc ⊢
    simp -implicitDefEqProofs only[go_sem,d1,Tr.row,Jc]
    refine JbI (I:=fun j:Nat=>j≤b.items.length) (inv:=fun j=>gp [(3,.rptr b.row),(0,.ptr 2 0 0),(0,.ptr 3 0 0),(0,.int .i64 (n:Int)),(1,.int .i64 (j:Int))] 44) (hp:=fun j=>[.dead,.dead,.arr 2 [[.nils,.nils]],.arr 2 [[KN 4 Z,.slc 5 0 (iz (I j)).length (JbF (iz (I j)))]],Qi 5 Z,.arr 1 (iz (I j))]) (μ:=fun j=>b.items.length-j) 0 (by omega) (fun Q=>?_) ?_
    ·rw[hI0]
     exact Jk (by simp[forget,gp,Tr.row])
    ·intro j hj
     by_cases hlt:j < b.items.length
     ·have d1:((j:Int) < (b.items.length:Int))=True:=Jo
      have hg:=JP hlt
      have hxr:=gb.itr (i:=b.items.getD j 0) (by rw[Ga,Gf hlt]; exact Gi hlt)
      have hIj:=hIs j hlt
      have hpl:(iz (I j)).length=a.items.length+j:=by rw[Jf,hIl j hj]
      generalize b.items.getD j 0=x at hg hxr hIj
      have hts:iz (I (j+1))=iz (I j)++[[.int .i64 (x+(n:Int))]]:=by rw[hIj]; exact Ka
      have hcl:=Jd (I (j+1))
      generalize iz (I j)=R at hts hpl ⊢
      simp -implicitDefEqProofs only[go_sem,d1,Tr.row,hbl]
      refine Qt [false,true,false,false,false,false,false,false,false,false,true,false,true] Jz (by decide +kernel) ?_
      simp -implicitDefEqProofs only[go_sem,hbl,hg]
      repeat (refine And.intro (by first | omega | exact Jj) ?_)
      refine JbJ [[.int .i64 (x+(n:Int))]] rfl rfl rfl rfl ?_
      simp -implicitDefEqProofs only[go_sem,Jr,splice,Gb,Gc]
      refine ⟨by omega,Jj,j+1,by omega,by omega,fun Q=>QW [0,1,2,3,4,6] rfl ?_ ?_⟩
      ·simp[forget,JA,ren,Jl,Tr.row]
      ·rw[hts]at hcl
       have hc:=Ja (ρ:=[0,1,2,3,4,6]) hcl
       have hr:ren [0,1,2,3,4,6] (KN 4 Z)=KN 4 Z:=KC rfl
       rw[hts,Y2]
       simp only[Ke,Gg,Gh,go_sem,Ji,JA,hr,Kk (Ja hnc),hc,GN,Gb,Gc]
       rfl
     ·have hje:j=b.items.length:=by omega
      subst hje
      have d1:((b.items.length:Int) < (b.items.length:Int))=False:=Jn
      simp -implicitDefEqProofs only[go_sem,d1,Tr.row,hbl,splice]
      exact ⟨_,rfl⟩
end Go.Cm
end
section
namespace Go.Cm
section
theorem Jec {o:List Int}{m:Nat}:∀ (x y:List Int) (a e:Int),chain o m a (x++y) e↔∃ c,chain o m a x c∧chain o m c y e
 |[],y,a,e=>by simp[chain]
 |i::x,y,a,e=>by
  simp only[Gm,chain,Jec x y]
  constructor
  ·rintro ⟨h1,c,h2,h3⟩; exact ⟨c,⟨h1,h2⟩,h3⟩
  ·rintro ⟨c,⟨h1,h2⟩,h3⟩; exact ⟨h1,c,h2,h3⟩
theorem fixA_at {α:Type}{q:α→Bool}:∀ (l:List α) (i:Nat),Q8 q l i = -1∧(∀ x∈l,q x=false)∨∃ j x,Q8 q l i=((i+j:Nat):Int)∧l[j]? = some x∧q x=true:=by
 intro l
 induction l with
 |nil=>intro i; exact .inl ⟨rfl,by simp⟩
 |cons y l ih=>
  intro i
  simp only[Q8]
  cases hq:q y with
  |true=>exact .inr ⟨0,y,by simp,rfl,hq⟩
  |false=>
   rcases ih (i+1) with ⟨h1,h2⟩ | ⟨j,x,h1,h2,h3⟩
   ·exact .inl ⟨by simpa using h1,fun x hx=>by
     rcases GR.1 hx with rfl | hx
     ·exact hq
     ·exact h2 x hx⟩
   ·exact .inr ⟨j+1,x,by rw[show i+(j+1)=i+1+j by omega]; simpa using h1,by simpa using h2,h3⟩
section
variable {t:Tr}{o:List Int}(g:GoodT t o)
def Xz (t:Tr):Nat→Nat
 |0=>0
 |i+1=>(t.items.getD i 0).toNat+1
include g
theorem X4:∀ i,i≤t.items.length→chain o t.nodes.length 0 (t.items.take i) (Xz t i)∧chain o t.nodes.length (Xz t i) (t.items.drop i) t.nodes.length:=by
 intro i hi
 have h:=g.its
 rw[← List.take_append_drop i t.items,Jec]at h
 obtain ⟨c,h1,h2⟩:=h
 have hc:c=(Xz t i:Int):=by
  cases i with
  |zero=>simp[chain]at h1; simp[Xz,h1]
  |succ i=>
   rw[QJ (d:=0) (by omega),Ja7]at h1
   simp only[Xz]
   omega
 rw[hc]at h1 h2
 exact ⟨h1,h2⟩
theorem JcA {i:Nat}(hi:i < t.items.length):∃ L:Nat,t.items.getD i 0=(L:Int)∧fs o L=(Xz t i:Int)∧Xz t i≤L∧L < t.nodes.length∧Xz t (i+1)=L+1:=by
 obtain ⟨L,F,hL,hFs,hFL,hLn,hol,hoL⟩:=g.item hi
 have h:=(X4 g i (by omega)).2
 have e0:t.items.drop i=t.items.getD i 0::t.items.drop (i+1):=by
  rw[GH hi,Ga,Gf hi]; rfl
 rw[e0,hL]at h
 simp only[chain,Gw]at h
 have:(F:Int)=Xz t i:=by rw[← hoL]; exact h.1.2.2
 refine ⟨L,hL,by rw[hFs]; exact this,by omega,hLn,?_⟩
 simp only[Xz,hL,Gw]
theorem endI_le {i:Nat}(hi:i≤t.items.length):Xz t i≤t.nodes.length:=by
 have h:=Jgx g.ord.ok g.olen _ _ _ (X4 g i hi).2
 omega
theorem endI_all:Xz t t.items.length=t.nodes.length:=by
 have h:=(X4 g t.items.length (Gj _)).2
 rw[List.drop_length]at h
 simp only[chain]at h
 omega
theorem Jgv {i:Nat}(hi:i < t.items.length):∃ o',GoodT (JcD o t i) o':=by
 obtain ⟨L,hL,hF,hFL,hLn,hE⟩:=JcA g hi
 generalize Xz t i=F at *
 have hT:JcD o t i=⟨segN t.nodes F (L+1),[(L:Int)-F]⟩:=by
  unfold JcD segN
  simp only[hL,hF,Gw]
  rw[List.drop_take]
 rw[hT]
 have h2:=getD_seg (l:=o) (d:=F) (m:=L+1) (e:=-(F:Int)) (k:=L) (by omega) (by omega) (by rw[g.olen]; omega)
 have hoL:o.getD (L:Int).toNat 0=F:=hF
 rw[hoL]at h2
 have hnest:∀ j:Nat,F≤j→j < L+1→(F:Int)≤fs o j:=fun j h1 h3=>by
  have:=g.ord.nest L j (by rw[Ko]; exact hLn) (by omega) (by rw[hF]; omega) (by omega)
  rw[hF]at this; exact this
 refine ⟨_,g.seg (d:=F) (m:=L+1) (by omega) (by omega) hnest [(L:Int)-F] (by simp) ?_ ?_⟩
 ·simp only[chain]
  rw[show (L:Int) + -(F:Int)=(L:Int)-F by omega]at h2
  refine ⟨⟨by omega,by omega,?_⟩,by omega⟩
  rw[h2]; omega
 ·intro k hk
  rw[Gp]at hk
  subst hk
  have:=segN_kind (l:=t.nodes) (d:=F) (m:=L+1) (k:=L) (by omega) (by omega) (by omega)
  rw[show (L:Int) + -(F:Int)=(L:Int)-F by omega]at this
  rw[this]
  refine g.defs _ ?_
  rw[← hL,Ga,Gf hi]
  exact Gi hi
theorem par_in:∀ (N n:Nat),N < t.nodes.length→fs o N≤n→n < N→∃ m:Nat,n < m∧m≤N∧(n:Int)∈(t.nodes.getD m default).kids:=by
 intro N
 induction N using Nat.strongRecOn with
 |_ N ih=>
  intro n hN h1 h2
  have hK:=JK hN
  obtain ⟨c,hc,h3,h4⟩:=Q7 g.ord.ok rfl _ _ _ (n:Int) (g.ord.kids hK) h1 (by omega)
  have hr:=g.ord.kid_rng hK hc
  by_cases he:c=n
  ·subst he; exact ⟨N,h2,Gj _,hc⟩
  ·obtain ⟨c,rfl⟩:∃ k:Nat,c=(k:Int):=⟨c.toNat,by omega⟩
   obtain ⟨m,q1,q2,q3⟩:=ih c (by omega) n (by omega) h3 (by omega)
   exact ⟨m,q1,by omega,q3⟩
def Kb (t:Tr) (n:Nat):Int:=Q8 (fun x:Nd=>x.kids.contains (n:Int)) t.nodes 0
theorem Qv {n:Nat}(hn:n < t.nodes.length):(Kb t n = -1∧∀ m:Nat,m < t.nodes.length→(n:Int)∉(t.nodes.getD m default).kids)∨∃ m:Nat,Kb t n=(m:Int)∧n < m∧m < t.nodes.length∧(n:Int)∈(t.nodes.getD m default).kids:=by
 rcases fixA_at (q:=fun x:Nd=>x.kids.contains (n:Int)) t.nodes 0 with ⟨h1,h2⟩ | ⟨j,x,h1,h2,h3⟩
 ·refine .inl ⟨h1,fun m hm hk=>?_⟩
  have:=h2 (t.nodes.getD m default) (by rw[rowN hm]; exact Gi hm)
  simp only[G9,decide_eq_false_iff_not]at this
  exact this hk
 ·have hj:=(GG.1 h2).1
  have hx:t.nodes.getD j default=x:=by rw[Ga,h2]; rfl
  simp only[G9,decide_eq_true_eq]at h3
  rw[← hx]at h3
  have:=g.kid hj h3
  exact .inr ⟨j,by rw[Gn]at h1; exact h1,by omega,hj,h3⟩
end
end
end Go.Cm
end
section
set_option maxRecDepth 100000
open Go.Proofs
namespace Go.Cm
theorem mvN_fit {x:Nd}(h:x.Fit) {d:Int}(hk:∀ k∈x.kids,InR .i64 (k+d)):(mvN d x).Fit:=
 ⟨h.k,h.text,h.n,by simpa [mvN]using h.kidn,fun i hi=>by
  simp only[mvN,Gz]at hi
  obtain ⟨k,hk2,rfl⟩:=hi
  exact hk k hk2,h.pl⟩
theorem cutT_fit {t:Tr}{o:List Int}(ht:t.Fit) (g:GoodT t o) {i:Nat}(hi:i < t.items.length):(JcD o t i).Fit:=by
 have hmany:=g.many
 obtain ⟨L,F,hL,hFs,hFL,hLn,hol,hoL⟩:=g.item hi
 have hT:JcD o t i=⟨((t.nodes.drop F).take (L+1-F)).map (mvN (-(F:Int))),[(L:Int)-F]⟩:=by
  unfold JcD; simp only[hL,hFs,Gw]
 rw[hT]
 refine ⟨by simp only[GJ,Gu,Hg]; omega,by simp,fun y hy=>?_,fun y hy=>?_⟩
 ·simp only[Gz]at hy
  obtain ⟨x,hx,rfl⟩:=hy
  have hx2:=List.mem_of_mem_drop (G6 hx)
  refine mvN_fit (ht.nodes x hx2) fun k hk=>?_
  have:=g.kidr hx2 hk
  exact Jj
 ·simp only[Gp]at hy
  subst hy
  exact Jj
theorem joinT_fit {a b:Tr}{oa ob:List Int}(ha:a.Fit) (hb:b.Fit) (ga:GoodT a oa) (gb:GoodT b ob):(Qa a b).Fit:=by
 have h1:=ga.many
 have h2:=gb.many
 have h3:=ga.items
 have h4:=gb.items
 refine ⟨by simp only[Qa,GN,GJ]; omega,by simp only[Qa,GN,GJ]; omega,fun y hy=>?_,fun y hy=>?_⟩
 ·simp only[Qa,Gy,Gz]at hy
  rcases hy with hy | ⟨x,hx,rfl⟩
  ·exact ha.nodes y hy
  ·refine mvN_fit (hb.nodes x hx) fun k hk=>?_
   have:=gb.kidr hx hk
   exact Jj
 ·simp only[Qa,Gy,Gz]at hy
  rcases hy with hy | ⟨x,hx,rfl⟩
  ·exact ha.iz y hy
  ·have:=gb.itr hx
   exact Jj
end Go.Cm
end
section
set_option maxRecDepth 100000
namespace Go.Cm
section
def looks:IOp→Bool
 |.load _ _ _=>true
 |.iaddr _ _ _=>true
 |_=>false
theorem looks_heap {op:IOp}{T:List CV}{H H':List CObj}{c:Cond}{v:CV}(hl:looks op=true) (he:exec op T H=some (c,v,H')):H'=H:=by
 cases op <;> simp only[looks]at hl <;> first | (cases hl; done) | skip
 all_goals
  simp only[exec]at he
  repeat' split at he
  all_goals first | (cases he; done) | (simp only[Option.some.injEq,Prod.mk.injEq]at he; exact he.2.2.symm)
def footQ (b:Nat):Foot×Foot:=if b=0 then Foot.no else if b=1 then (.all,.on []) else Foot.any
def xexec (b:Nat) (op:IOp) (T:List CV) (H:List CObj):Option (Cond×CV×List CObj):=if b=0 then Jgb false op T H else if b=1 then (if looks op=true then exec op T H else none) else exec op T H
section
variable (P:Program) (E:Env) (n0:Nat) (N:Fr) (Q:Exit→List CV→List CObj→Prop)
def vdx (k:List KItem):List IOper→List Nat→List CV→List CObj→Prop
 |[],_,T,H=>Kn P E n0 N Q k T H
 |_::_,[],_,_=>False
 |⟨d,op,none⟩::l,b::bs,T,H=>match xexec b op T H with
  |some (c,v,H')=>c.holds∧vdx k l bs (put T d v) H'
  |none=>∃ v H',HS P E ⟨d,op,none⟩ T H v H' (footQ b)∧vdx k l bs (put T d v) H'
 |⟨d,op,some g⟩::l,b::bs,T,H=>∃ v H',HS P E ⟨d,op,some g⟩ T H v H' (footQ b)∧vdx k l bs (put T d v) H'
def vdxR (r:Option (Cond×CV×List CObj)) (d:Option Nat) (op:IOp) (b:Nat) (k:List KItem) (l:List IOper) (bs:List Nat) (T:List CV) (H:List CObj):Prop:=
 match r with
 |some (c,v,H')=>c.holds∧vdx P E n0 N Q k l bs (put T d v) H'
 |none=>∃ v H',HS P E ⟨d,op,none⟩ T H v H' (footQ b)∧vdx P E n0 N Q k l bs (put T d v) H'
end
section
variable {P:Program}{E:Env}{n0:Nat}{N:Fr}{Q:Exit→List CV→List CObj→Prop}{H H':List CObj}{T:List CV}{k:List KItem}{l:List IOper}{es:List (List Nat)}{bs:List Nat}
theorem vx_nil:vdx P E n0 N Q k [] bs T H=Kn P E n0 N Q k T H:=propext (by cases bs <;> exact Iff.rfl)
theorem vx_op {d:Option Nat}{op:IOp}{b:Nat}:vdx P E n0 N Q k (⟨d,op,none⟩::l) (b::bs) T H=vdxR P E n0 N Q (xexec b op T H) d op b k l bs T H:=propext Iff.rfl
theorem vdxR_some {d:Option Nat}{op:IOp}{b:Nat}{c:Cond}{v:CV}:vdxR P E n0 N Q (some (c,v,H')) d op b k l bs T H=(c.holds∧vdx P E n0 N Q k l bs (put T d v) H'):=propext Iff.rfl
theorem vdx_look {T':List CV}{H':List CObj}(hT:T=T') (hH:H=H'):vdx P E n0 N Q k l bs T H=vdx P E n0 N Q k l bs T' H':=by rw[hT,hH]
theorem vdxR_look {r r':Option (Cond×CV×List CObj)}{d:Option Nat}{op:IOp}{b:Nat}(h:r=r'):vdxR P E n0 N Q r d op b k l bs T H=vdxR P E n0 N Q r' d op b k l bs T H:=by rw[h]
attribute [congr] vdx_look vdxR_look
theorem hs_ro {io:IOper}{x:CV}{c:Cond}(hg:GOk T io.guard) (he:exec io.op T H=some (c,x,H)) (hc:c.holds):HS P E io T H x H (.all,.on []):=by
 have h:=hs_op (P:=P) (E:=E) hg he hc
 refine ⟨fun _ _=>rfl,fun T2 H2 ag hx=>?_⟩
 have hH:H2=H:=JcB fun y=>hx y trivial
 obtain ⟨H2',h1,_,h3⟩:=h.run T2 H2 ag fun y _=>hx y trivial
 have hH':H2'=H:=JcB fun y=>h1 y trivial
 subst hH hH'
 exact ⟨_,fun y hy=>(by cases hy),fun _ _=>rfl,h3⟩
theorem xexec_sound {b:Nat}{d:Option Nat}{op:IOp}{c:Cond}{v:CV}(he:xexec b op T H=some (c,v,H')) (hc:c.holds):HS P E ⟨d,op,none⟩ T H v H' (footQ b):=by
 unfold xexec at he
 unfold footQ
 split at he
 ·rename_i h
  rw[if_pos h]
  exact Jby he hc
 ·rename_i h
  rw[if_neg h]
  split at he
  ·rename_i h1
   rw[if_pos h1]
   split at he
   ·rename_i h2
    obtain rfl:=looks_heap h2 he
    exact hs_ro (.inl rfl) he hc
   ·cases he
  ·rename_i h1
   rw[if_neg h1]
   exact hs_op (.inl rfl) he hc
theorem vdx_vals:∀ (l:List IOper) (bs:List Nat) (T:List CV) (H:List CObj),vdx P E n0 N Q k l bs T H→l.length=bs.length→∃ (v:Nat→CV) (hh:Nat→List CObj),hh 0=H∧(∀ j,j < l.length→HS P E (QI l j) (tst l v T j) (hh j) (v j) (hh (j+1)) (XV (bs.map footQ) j))∧Kn P E n0 N Q k (tst l v T l.length) (hh l.length)
 |[],bs,T,H,h,_=>⟨fun _=>.un,fun _=>H,rfl,by simp,by rw[vx_nil]at h; exact h⟩
 |io::l,[],T,H,h,hl=>by simp at hl
 |io::l,b::bs,T,H,h,hl=>by
  have hex:∃ v0 H',HS P E io T H v0 H' (footQ b)∧vdx P E n0 N Q k l bs (put T io.dst v0) H':=by
   obtain ⟨d,op,g⟩:=io
   cases g with
   |none=>
    rw[vx_op]at h
    unfold vdxR at h
    split at h
    ·rename_i c v H' he
     exact ⟨v,H',xexec_sound he h.1,h.2⟩
    ·exact h
   |some g=>exact h
  obtain ⟨v0,H',h1,h2⟩:=hex
  obtain ⟨v,hh,h0,h3,h4⟩:=vdx_vals l bs _ _ h2 (by simpa using hl)
  let v':Nat→CV:=fun j=>match j with | 0=>v0 | j+1=>v j
  let hh':Nat→List CObj:=fun j=>match j with | 0=>H | j+1=>hh j
  have key:∀ j,tst (io::l) v' T (j+1)=tst l v (put T io.dst v0) j:=by
   intro j
   induction j with
   |zero=>rfl
   |succ j ih=>rw[tst,ih]; rfl
  refine ⟨v',hh',rfl,fun j hj=>?_,?_⟩
  ·cases j with
   |zero=>
    have e:hh' (0+1)=H':=h0
    rw[e]; exact h1
   |succ j=>rw[key]; exact h3 j (by simpa using hj)
  ·rw[Gb,key]; exact h4
theorem vr_dregX (bs:List Nat) (hm:P.follows .mixedOrders=true) (hord:(l.length == bs.length && (Jad l.length es (clo es) && KW l (clo es) (bs.map footQ)))=true) (h:vdx P E n0 N Q k l bs T H):Ok P E n0 N Q (.code (.dreg l es)::k) T H:=by
 simp only[Gr,beq_iff_eq]at hord
 obtain ⟨v,hh,h0,h1,h2⟩:=vdx_vals l bs T H h hord.1
 exact Jf1 hord.2.1 hm hord.2.2 h1 h0 (JB _ _ _ h2)
theorem vx_f {d:Option Nat}{f:Nat}{xa:List IArg}{v:CV}(hcall:Fn P f (xa.map (Kc T)) v) (h:vdx P E n0 N Q k l bs (put T d v) H):vdxR P E n0 N Q none d (.call f xa) 0 k l bs T H:=
 ⟨v,H,hs_f (.inl rfl) hcall,h⟩
end
theorem xexec0 {op:IOp}{T:List CV}{H:List CObj}:xexec 0 op T H=Jgb false op T H:=rfl
theorem xexec1 {op:IOp}{T:List CV}{H:List CObj}:xexec 1 op T H=if looks op=true then exec op T H else none:=rfl
theorem xexec2 {op:IOp}{T:List CV}{H:List CObj}:xexec 2 op T H=exec op T H:=rfl
attribute [go_sem] xexec0 xexec1 xexec2 looks vx_nil vx_op vdxR_some
end
end Go.Cm
end
end
