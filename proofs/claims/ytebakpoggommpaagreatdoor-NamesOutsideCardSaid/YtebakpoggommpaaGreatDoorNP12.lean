/-
  A part of the proof. Conditions: none.
-/
import Derived.Test.YtebakpoggommpaaGreatDoorNPkRK
import Derived.Test.YtebakpoggommpaaGreatDoorNPkRF
import Derived.Lib.Join
import Derived.Lib.ItoaLen
set_option linter.unusedSimpArgs false
set_option linter.unusedVariables false
open Go.Proofs.Tryz renaming prog→Gc
open Int renaming cast_ofNat_Int→Gx,toNat_natCast→GK,add_zero→GL
open Nat renaming le_refl→Gf,zero_add→Gr,lt_or_ge→Gy
open List renaming getD_eq_getElem?_getD→Ga,getElem?_eq_getElem→Gb,getElem_mem→Gd,length_cons→Gg,take_length→Gi,map_cons→Gh,take_succ_eq_append_getElem→Gs,length_nil→Gl,take_of_length_le→Gp,drop_eq_nil_of_le→Gq,map_nil→Gj,drop_eq_getElem_cons→Gt,mem_singleton→Gu,getElem?_eq_some_iff→Gz,all_eq_true→Gv,length_take→GA,cons_append→GD,mem_append→GG,getElem?_append_right→GM,getElem?_append_left→GN,drop_zero→GH,mem_of_getElem?→GQ,contains_eq_mem→GR,getElem?_map→GU,all_eq_false→GV,nil_append→GX,foldl_cons→GY,mem_range→GZ,mem_cons→G5
open Bool renaming and_eq_true→Gn,true_and→Gm,not_false→Gw,false_and→GI,not_true→GJ,and_eq_false_iff→G6,eq_iff_iff→G7
noncomputable section
section
set_option maxRecDepth 100000
set_option maxHeartbeats 40000000
open Go.Proofs
namespace Go.Cm
theorem refKin28 (t:Tr) (x:Nd) (hx:x.Fit) (hm:t.nodes.length≤1400) (hn:∀ y∈t.nodes,y.k < 256) (hk:∀ k∈x.kids,0≤k∧k < t.nodes.length) (h28:x.k=28) :
  Fn Gc 44 [t.cv,.agg x.cv] (.bool (KP x.k x.n (lets t.nodes x))):=by
 have hkn:=hx.kidn
 have hll:=Qw (l:=t.nodes) (x:=x)
 have hK:∀ (c:Nat) (b:UInt8),(c,b)∈([(200,101),(201,116),(202,99),(40,66),(41,83),(42,98),(43,73),(44,78),(45,71),(48,79),(64,80)]:List (Nat×UInt8))→∀ p q:Int,Fn Gc 98 [t.cv,.agg x.cv,.int .i64 p,.int .i64 q,.int .u8 c] (.bool (JR (lets t.nodes x) p q b)):=by
  intro c b hcb p q
  have:=refKids t x hx hm hk p q c
  rw[kids_conv hn hk (fun k h=>cls_all ⟨k,h⟩ (c,b) hcb)]at this
  exact this
 have hM:=refMany t x hx hk 41
 rw[Jdp (b:=83) hn hk (fun k h=>(let_all ⟨k,h⟩).1)]at hM
 have hc83:KV 83 (lets t.nodes x)≤30:=Nat.le_trans (cntB_le _ _) (by omega)
 have K200:=hK 200 101 (by decide)
 have K41:=hK 41 83 (by decide)
 have K43:=hK 43 73 (by decide)
 have K44:=hK 44 78 (by decide)
 have K45:=hK 45 71 (by decide)
 simp only[Gx]at K200 K41 K43 K44 K45 hM
 obtain ⟨k,text,n,kids,pl⟩:=x
 simp only at h28
 subst h28
 generalize lets t.nodes ⟨28,text,n,kids,pl⟩=hv at hll K200 K41 K43 K44 K45 hM hc83 ⊢
 obtain ⟨cs,hcs⟩:∃ cs:Int,cs=(KV 83 hv:Int):=⟨_,rfl⟩
 rw[← hcs]at hM
 simp only[Nd.cv,Tr.cv,Tr.row]at hkn hll K200 K41 K43 K44 K45 hM ⊢
 clear hK
 obtain ⟨m,hmm⟩:∃ m:Int,m=(kids.length:Int):=⟨_,rfl⟩
 refine Jb c44_ok rfl rfl fun N=>?_
 simp (maxSteps:=2000000) -implicitDefEqProofs only[c44,go_sem,Jf,Gx,← hmm]
 refine JM hM ?_
 by_cases h0:0≤n
 ·have f0:((0:Int)≤n)=True:=eq_true h0
  by_cases h1:n < m
  ·have f1:(n < m)=True:=eq_true h1
   simp (maxSteps:=2000000) -implicitDefEqProofs only[go_sem,Jf,← hmm,f0,f1]
   have hkk:KP 28 n hv=(JR hv 0 n 73 && JR hv n (n+1) 101 && JR hv (n+1) (n+1+cs) 83 && JR hv (n+1+cs) (m-1) 78 && JR hv (m-1) m 71):=by
    simp[KP,hll,← hmm,← hcs,h0,h1]
   rw[hkk]
   refine JP (gok rfl) (K43 (0) n) ?_
   cases g0:JR hv (0) n 73 with
   |false=>simp (maxSteps:=2000000) -implicitDefEqProofs only[go_sem,Jf,← hmm]; try simp
   |true=>
    simp (maxSteps:=2000000) -implicitDefEqProofs only[go_sem,Jf,← hmm]
    refine ⟨Jj,?_⟩
    refine JP (gok rfl) (K200 (n) (n+1)) ?_
    cases g1:JR hv (n) (n+1) 101 with
    |false=>simp (maxSteps:=2000000) -implicitDefEqProofs only[go_sem,Jf,← hmm]; try simp
    |true=>
     simp (maxSteps:=2000000) -implicitDefEqProofs only[go_sem,Jf,← hmm]
     refine ⟨Jj,?_⟩
     refine ⟨Jj,?_⟩
     refine ⟨Jj,?_⟩
     refine JP (gok rfl) (K41 (n+1) (n+1+cs)) ?_
     cases g2:JR hv (n+1) (n+1+cs) 83 with
     |false=>simp (maxSteps:=2000000) -implicitDefEqProofs only[go_sem,Jf,← hmm]; try simp
     |true=>
      simp (maxSteps:=2000000) -implicitDefEqProofs only[go_sem,Jf,← hmm]
      refine ⟨Jj,?_⟩
      refine ⟨Jj,?_⟩
      refine ⟨Jj,?_⟩
      refine JP (gok rfl) (K44 (n+1+cs) (m-1)) ?_
      cases g3:JR hv (n+1+cs) (m-1) 78 with
      |false=>simp (maxSteps:=2000000) -implicitDefEqProofs only[go_sem,Jf,← hmm]; try simp
      |true=>
       simp (maxSteps:=2000000) -implicitDefEqProofs only[go_sem,Jf,← hmm]
       refine ⟨Jj,?_⟩
       refine JP (gok rfl) (K45 (m-1) m) ?_
       cases g4:JR hv (m-1) m 71 with
       |false=>simp (maxSteps:=2000000) -implicitDefEqProofs only[go_sem,Jf,← hmm]; try simp
       |true=>
        simp (maxSteps:=2000000) -implicitDefEqProofs only[go_sem,Jf,← hmm]
        try simp
  ·have f1:(n < m)=False:=eq_false h1
   simp (maxSteps:=2000000) -implicitDefEqProofs only[go_sem,Jf,← hmm,f0,f1]
   simp[KP,hll,← hmm,h1]
 ·have f0:((0:Int)≤n)=False:=eq_false h0
  simp (maxSteps:=2000000) -implicitDefEqProofs only[go_sem,Jf,← hmm,f0]
  simp[KP,h0]
end Go.Cm
end
section
open Go.Shelf Go.RowKit Go.Proofs
namespace Go.Proofs
open Go.Cm in
set_option maxHeartbeats 4000000 in
set_option maxRecDepth 100000 in
theorem Tryz.kinMax_walk (ta tb:Value) (s:ByteArray) (b:Option Addr) (len cap:Nat) (pl:Int) (hl:len≤1000) (w:World) :
  Calls Gc 44 #[.agg #[ta,tb],.agg #[.int .u8 41,.string s,.int .i64 9223372036854775807,.slice b len cap,.int .i64 pl]] w fun e w'=>e=.returned (.bool false)∧Below w.heap.size w w':=by
 have hw:wrap64 9223372036854775808 = -9223372036854775808:=by decide +kernel
 have hne:¬ ((len:Int)=wrap64 9223372036854775808):=by omega
 go_enter Tryz.func44,Tryz.ntmps44
 go_wp2
 all_goals first
  |(exfalso; omega)
  |skip
 go_ret
 exact ⟨rfl,((Below.refl _ _).alloc (Gf _) _).alloc (show _≤(w.heap.push _).size by rw[Array.size_push]; omega) _⟩
end Go.Proofs
namespace Go.Cm
theorem refKinMax (t:Tr) (x:Nd) (hx:x.Fit) (h41:x.k=41) (hm:x.n=9223372036854775807):Fn Gc 44 [t.cv,.agg x.cv] (.bool (KP x.k x.n (lets t.nodes x))):=by
 have hkn:=hx.kidn
 have hll:=Qw (l:=t.nodes) (x:=x)
 have hf:KP x.k x.n (lets t.nodes x)=false:=by
  rw[h41,hm]
  have:((lets t.nodes x).length:Int)≠9223372036854775808:=by omega
  simp[KP,this]
 rw[hf]
 intro E H
 refine Kw fun m w vs hs hv=>?_
 obtain ⟨k,text,n,kids,pl⟩:=x
 simp only at h41 hm
 subst h41 hm
 simp only[JJ,rel,Tr.cv,Tr.row,Nd.cv]at hv
 obtain ⟨r,rs,e,⟨v1,rfl,ra,ras,e1,-,rb,rbs,e2,-,e3⟩,x,xs,e4,⟨v2,rfl,y1,ys1,f1,g1,y2,ys2,f2,g2,y3,ys3,f3,g3,y4,ys4,f4,g4,y5,ys5,f5,g5,f6⟩,e5⟩:=hv
 have hvs:vs=#[.agg v1,.agg v2]:=by cases vs; simp_all
 have h1:v1=#[ra,rb]:=by cases v1; simp_all
 have h2:v2=#[y1,y2,y3,y4,y5]:=by cases v2; simp_all
 subst hvs h1 h2 g1 g2 g3 g5
 have h4:∃ b c,y4=.slice b kids.length c:=by
  rcases g4 with ⟨-,h,b,rfl⟩ | ⟨B,o,c,rfl,-⟩
  ·have:kids.length=0:=by rw[← Jf (l:=kids),h]; rfl
   exact ⟨b,0,by rw[this]⟩
  ·exact ⟨_,c,by rw[Jf]⟩
 obtain ⟨b,c,rfl⟩:=h4
 exact ⟨_,Tryz.kinMax_walk ra rb ⟨⟨text⟩⟩ b kids.length c pl (by simp only at hkn; omega) w,rfl⟩
theorem refKin (t:Tr) (x:Nd) (hx:x.Fit) (hm:t.nodes.length≤1400) (hn:∀ y∈t.nodes,y.k < 256) (hk:∀ k∈x.kids,0≤k∧k < t.nodes.length):Fn Gc 44 [t.cv,.agg x.cv] (.bool (KP x.k x.n (lets t.nodes x))):=by
 by_cases h28:x.k=28
 ·exact refKin28 t x hx hm hn hk h28
 ·by_cases h41:x.k=41∧x.n=9223372036854775807
  ·exact refKinMax t x hx h41.1 h41.2
  ·exact refKin1 t x hx hm hn hk (fun h=>by
   have h5:x.n≤9223372036854775807:=hx.n.2
   have h6:x.n≠9223372036854775807:=fun e=>h41 ⟨h,e⟩
   omega) h28
end Go.Cm
end
section
set_option maxRecDepth 100000
set_option maxHeartbeats 4000000
open Go.Proofs
namespace Go.Cm
def mD (d:List Int) (ks:List Int):Int:=ks.foldl (fun a k=>mx a (d.getD k.toNat 0)) 0
theorem mx_succ (a b:Int):mx (a+1) (b+1)=mx a b+1:=by unfold mx; split <;> split <;> omega
theorem ownD_mD (d ks:List Int):ownD d ks=mD d ks+1:=by
 have key:∀ (l:List Int) (a:Int),l.foldl (fun a k=>mx a (d.getD k.toNat 0+1)) (a+1)=l.foldl (fun a k=>mx a (d.getD k.toNat 0)) a+1:=by
  intro l
  induction l with
  |nil=>intro a; rfl
  |cons k l ih=>intro a; rw[GY,GY,mx_succ]; exact ih _
 exact key ks 0
theorem mD_rng {d:List Int}{m:Int}(h:∀ v∈d,1≤v∧v≤m) (hm:0≤m) (ks:List Int):0≤mD d ks∧mD d ks≤m:=by
 have:=Jfb (m:=m) h hm ks 1 (by omega) (by omega)
 have e:=ownD_mD d ks
 unfold ownD at e
 omega
theorem Jd7 (t:Tr) (ht:t.Fit) {o:List Int}(ho:Js (JC t.nodes) []=some o):Fn Gc 39 [t.cv] (.bool (Jaf t)):=by
 have hmany:=ht.many
 refine Jb c39_ok rfl rfl fun N=>?_
 simp -implicitDefEqProofs only[c39,go_sem,Tr.cv,Tr.row]
 refine Je (id:=0) (z:=2) (els:=[t.row]) rfl rfl ?_
 simp only[go_sem,JS,Kb,frz,KI]
 refine Jv (I:=fun i:Nat=>i≤t.nodes.length∧∀ v∈Qf ((JC t.nodes).take i) [],v≤30) (inv:=fun i=>gp [(1,.rptr t.row),(1,.slc 1 0 (iz (Qf ((JC t.nodes).take i) [])).length (JeB (iz (Qf ((JC t.nodes).take i) [])))),(0,.int .i64 (i:Int))] 43)
  (hp:=fun i=>[.dead,.arr 1 (iz (Qf ((JC t.nodes).take i) []))]) (μ:=fun i=>t.nodes.length-i) 0 [0,1] ⟨by omega,by simp[Qf]⟩ rfl ?_ rfl ?_
 ·simp[forget,Jy,ren,Jk,gp,Qf,iz,JeB]
 ·rintro i ⟨hi,hall⟩
  have hdl:(Qf ((JC t.nodes).take i) []).length=i:=by
   rw[Jbz,GA]
   simp[JC]
   omega
  have hdk:=JfD ((JC t.nodes).take i) [] (by intro v hv; simp at hv)
  by_cases hlt:i < t.nodes.length
  ·have hstep:=Jey (J3 hlt)
   have hbel:=Q3 ho (J3 hlt)
   have hx:=ht.nodes _ (Gd hlt)
   rw[← rowg hlt]at hx
   have hln:=hdl
   clear hdl
   have hbig:∀ v∈Qf ((JC t.nodes).take (i+1)) [],v∈Qf (JC t.nodes) []:=by
    intro v hv
    rw[deepF_take (by rw[Qy]; omega)]at hv
    exact List.mem_of_mem_take hv
   generalize hD:Qf ((JC t.nodes).take i) []=d at hstep hln hdk hall ⊢
   have d1:((i:Int) < (t.nodes.length:Int))=True:=Jo
   simp -implicitDefEqProofs only[go_sem,Tr.row,Jd,d1]
   have hg:=Qb hlt
   generalize t.nodes.getD i default=x at hstep hbel hx hg ⊢
   have hkn:=hx.kidn
   have hdr:∀ v∈d,1≤v∧v≤i:=fun v hv=>by have:=hdk v hv; omega
   refine JA (I:=fun j:Nat=>j≤x.kids.length) (inv:=fun j=>gp [(1,.rptr t.row),(1,.slc 1 0 (iz d).length (JeB (iz d))),(0,.int .i64 (i:Int)),(0,.int .i64 (mD d (x.kids.take j))),(0,.int .i64 (j:Int))] 41)
    (hp:=fun _=>[.dead,.arr 1 (iz d)]) (μ:=fun j=>x.kids.length-j) 0 (by omega) ?_ rfl ?_
   ·simp[forget,gp,mD,Tr.row]
   ·intro j hj
    have hxl:(iz x.kids).length=x.kids.length:=Jf
    by_cases hjl:j < x.kids.length
    ·have d2:((j:Int) < (x.kids.length:Int))=True:=Jo
     have hmem:x.kids.getD j 0∈x.kids:=by
      rw[Ga,Gb hjl]; exact Gd hjl
     have hb:=hbel _ hmem
     have hst:mD d (x.kids.take (j+1))=mx (mD d (x.kids.take j)) (d.getD (x.kids.getD j 0).toNat 0):=by
      have hgk:x.kids.getD j 0=x.kids[j]:=by rw[Ga,Gb hjl]; rfl
      unfold mD
      rw[Gs hjl,List.foldl_append,hgk]; rfl
     have hgi:=JQ hjl
     generalize x.kids.getD j 0=k at hb hst hgi
     have hgk:=JQ (l:=d) (i:=k.toNat) (by omega)
     have hgr:=Jfl (m:=i) (fun v hv=>by have:=hdr v hv; omega) (by omega) k.toNat
     have hdz:(iz d).length=d.length:=Jf
     simp -implicitDefEqProofs only[go_sem,Tr.row,Jd,hg,Nd.cv,hxl,d2,hgi,hgk]
     refine ⟨by omega,by omega,by omega,by omega,by omega,Jj,j+1,by omega,by omega,?_⟩
     rw[hst]
     simp[forget,mx]
    ·have hje:j=x.kids.length:=by omega
     subst hje
     have d2:((x.kids.length:Int) < (x.kids.length:Int))=False:=Jn
     rw[Gi]
     have hmr:=mD_rng hdr (by omega) x.kids
     have hdz:(iz d).length=d.length:=Jf
     rw[ownD_mD]at hstep
     have hz:iz (d++[mD d x.kids+1])=iz d++[[.int .i64 (mD d x.kids+1)]]:=Ka
     have hcl:=Jc (d++[mD d x.kids+1])
     generalize mD d x.kids=v at hstep hmr hz hcl ⊢
     by_cases hv:30 < v+1
     ·have d3:((30:Int) < v+1)=True:=eq_true hv
      have hB:Jaf t=true:=by
       rw[Jaf,List.any_eq_true]
       exact ⟨v+1,hbig _ (by rw[hstep]; simp),by simpa using hv⟩
      simp -implicitDefEqProofs only[go_sem,Tr.row,Jd,hg,Nd.cv,hxl,d2,d3,Jt,hB]
      repeat' apply And.intro
      all_goals first | omega | exact Jj
     ·have d3:((30:Int) < v+1)=False:=eq_false hv
      simp -implicitDefEqProofs only[go_sem,Tr.row,Jd,hg,Nd.cv,hxl,d2,d3,Jt]
      refine ⟨by omega,Jj,by omega,Jj,Jj,i+1,[0,3],⟨by omega,?_⟩,by omega,rfl,?_,?_⟩
      ·rw[hstep]
       intro u hu
       rcases GG.1 hu with hu | hu
       ·exact hall u hu
       ·rw[Gu.1 hu]; omega
      ·rw[hstep]
       have hc:=Ja (ρ:=[0,3]) hcl
       simp only[J5,Gh,Gj,go_sem,Ji]
       rw[hz]at hc ⊢
       rw[hc]
       rfl
      ·rw[hstep,hz,JaB]
       simp[forget,Jy,ren,Jk,Jf,Tr.row]
  ·have hie:i=t.nodes.length:=by omega
   subst hie
   have d1:((t.nodes.length:Int) < (t.nodes.length:Int))=False:=Jn
   have hB:Jaf t=false:=by
    rw[Jaf,← Gp (l:=JC t.nodes) (i:=t.nodes.length) (by simp[JC]),List.any_eq_false]
    intro v hv
    have:=hall v hv
    simp; omega
   rw[hB]
   simp -implicitDefEqProofs only[go_sem,Tr.row,Jd,d1]
theorem Jam {t:Tr}(h1:¬ (700 < t.nodes.length∨20 < t.items.length)) (h2:frm t=false):chk t=4:=by
 unfold chk; rw[if_neg h1,if_neg (by rw[h2]; simp)]
theorem frm_none {t:Tr}(h:Js (JC t.nodes) []=none):frm t=false:=by unfold frm; rw[h]
theorem frm_kid {t:Tr}{i:Nat}(hi:i < t.nodes.length) {k:Int}(hk:k∈(t.nodes.getD i default).kids) (hb:¬ (0≤k∧k < i)):frm t=false:=by
 cases h:Js (JC t.nodes) []with
 |none=>exact frm_none h
 |some o=>exact absurd (Q3 h (J3 hi) k hk) hb
theorem frm_nd {t:Tr}{i:Nat}(hi:i < t.nodes.length) (hb:ndI t.nodes (t.nodes.getD i default)=false):frm t=false:=by
 unfold frm
 cases h:Js (JC t.nodes) []with
 |none=>rfl
 |some o=>
  simp only[G6]
  right
  rw[GV]
  refine ⟨t.nodes.getD i default,?_,by rw[hb]; simp⟩
  rw[Ga,Gb hi]; exact Gd hi
theorem step_ord {K:List (List Int)}{i:Nat}{o ks:List Int}(ho:Js (K.take i) []=some o) (hk:K[i]? = some ks) :
  (Js (K.take (i+1)) []=none∧(JdI (fs o) ks.reverse i).2=false)∨(∃ f,Js (K.take (i+1)) []=some (o++[f])∧(JdI (fs o) ks.reverse i).2=true):=by
 obtain ⟨h1,h2⟩:=Jcf ho hk
 have hok:=Qh _ _ _ Qz.nil ho
 have h3:=Jed (fst:=fs o) hok (fun k _ _=>rfl) ks.reverse ((o.length:Int)-1) (by omega)
 rw[h1]
 unfold JcG
 have e:((o.length:Int)-1+1)=(i:Int):=by omega
 rw[e]at h3
 cases h4:QP o ks.reverse ((o.length:Int)-1) with
 |none=>rw[h4]at h3; exact .inl ⟨rfl,h3⟩
 |some b=>rw[h4]at h3; simp only at h3; exact .inr ⟨b+1,rfl,by rw[h3]⟩
theorem ndI_R (l:List Nd) (x:Nd):ndI l x=(KP x.k x.n (lets l x) && Qk (Jck x.text) x.k x.text x.n x.pl && KU x.k x.n (lets l x)):=by
 unfold ndI; rw[node_eq]; rfl
theorem refCheck (t:Tr) (ht:t.Fit):Fn Gc 11 [t.cv] (.int .i64 (chk t)):=by
 have hmany:=ht.many
 have hitems:=ht.items
 refine Jb c11_ok rfl rfl fun N=>?_
 simp -implicitDefEqProofs only[c11,go_sem,Tr.cv,Tr.row]
 refine Je (id:=0) (z:=2) (els:=[t.row]) rfl rfl ?_
 simp only[go_sem,JS,Kb,frz,KI,Tr.row]
 refine JM (refLimits t) ?_
 by_cases h1:700 < t.nodes.length∨20 < t.items.length
 ·have hc:chk t=5:=by unfold chk; rw[if_pos h1]
  rw[decide_eq_false (not_not_intro h1),hc]
  simp -implicitDefEqProofs only[go_sem]
 ·rw[decide_eq_true h1]
  simp -implicitDefEqProofs only[go_sem]
  refine JA (I:=fun i:Nat=>i≤t.nodes.length∧∀ j,j < i→∀ k∈(t.nodes.getD j default).kids,0≤k∧k < j) (inv:=fun i=>gp [(1,.rptr t.row),(1,.int .i64 (i:Int))] 123) (hp:=fun _=>[.dead]) (μ:=fun i=>t.nodes.length-i) 0 ⟨by omega,by omega⟩ ?_ rfl ?_
  ·simp[forget,gp,Tr.row]
  ·rintro i ⟨hi,hkids⟩
   by_cases hlt:i < t.nodes.length
   ·have d1:((i:Int) < (t.nodes.length:Int))=True:=Jo
    have hx:=ht.nodes _ (Gd hlt)
    rw[← rowg hlt]at hx
    have hg:=Qb hlt
    have hfk:=fun {k:Int} (hk:k∈(t.nodes.getD i default).kids) (hb:¬ (0≤k∧k < i))=>frm_kid hlt hk hb
    have hsucc:(∀ k∈(t.nodes.getD i default).kids,0≤k∧k < i)→∀ j,j < i+1→∀ k∈(t.nodes.getD j default).kids,0≤k∧k < j:=by
     intro h j hj
     by_cases e:j=i
     ·subst e; exact h
     ·exact hkids j (by omega)
    generalize t.nodes.getD i default=x at hx hg hfk hsucc
    have hkn:=hx.kidn
    have hxl:(iz x.kids).length=x.kids.length:=Jf
    simp -implicitDefEqProofs only[go_sem,Tr.row,Jd,d1]
    refine JA (I:=fun j:Nat=>j≤x.kids.length∧∀ k∈x.kids.take j,0≤k∧k < i) (inv:=fun j=>gp [(1,.rptr t.row),(1,.int .i64 (i:Int)),(0,.int .i64 (j:Int))] 122) (hp:=fun _=>[.dead]) (μ:=fun j=>x.kids.length-j) 0 ⟨by omega,by simp⟩ ?_ rfl ?_
    ·simp[forget,gp,Tr.row]
    ·rintro j ⟨hj,hkj⟩
     by_cases hjl:j < x.kids.length
     ·have d2:((j:Int) < (x.kids.length:Int))=True:=Jo
      have hgi:=JQ hjl
      have hmem:x.kids.getD j 0∈x.kids:=by
       rw[Ga,Gb hjl]; exact Gd hjl
      have hts:x.kids.take (j+1)=x.kids.take j++[x.kids.getD j 0]:=by
       rw[Gs hjl,Ga,Gb hjl]; rfl
      generalize x.kids.getD j 0=k at hgi hmem hts
      simp -implicitDefEqProofs only[go_sem,Tr.row,Jd,hg,Nd.cv,hxl,d2,hgi]
      refine ⟨by omega,by omega,by omega,Jj,?_⟩
      refine JM (JaI k 0 ((i:Int)-1)) ?_
      cases hin:inI 0 ((i:Int)-1) k with
      |true=>
       simp only[inI,Gn,decide_eq_true_eq]at hin
       simp -implicitDefEqProofs only[go_sem]
       refine ⟨Jj,j+1,⟨by omega,?_⟩,by omega,?_⟩
       ·rw[hts]
        intro u hu
        rcases GG.1 hu with hu | hu
        ·exact hkj u hu
        ·rw[Gu.1 hu]; omega
       ·simp[forget]
      |false=>
       have hb:¬ (0≤k∧k < i):=by
        simp only[inI,G6,decide_eq_false_iff_not]at hin
        omega
       rw[Jam h1 (hfk hmem hb)]
       simp -implicitDefEqProofs only[go_sem]
     ·have hje:j=x.kids.length:=by omega
      subst hje
      rw[Gi]at hkj
      have d2:((x.kids.length:Int) < (x.kids.length:Int))=False:=Jn
      simp -implicitDefEqProofs only[go_sem,Tr.row,Jd,hg,Nd.cv,hxl,d2]
      refine ⟨by omega,Jj,i+1,⟨by omega,hsucc hkj⟩,by omega,?_⟩
      simp[forget]
   ·have hie:i=t.nodes.length:=by omega
    subst hie
    have d1:((t.nodes.length:Int) < (t.nodes.length:Int))=False:=Jn
    simp -implicitDefEqProofs only[go_sem,Tr.row,Jd,d1]
    refine JA (I:=fun i:Nat=>i≤t.nodes.length∧(∃ o,Js ((JC t.nodes).take i) []=some o)∧∀ j,j < i→ndI t.nodes (t.nodes.getD j default)=true) (inv:=fun i=>gp [(1,.rptr t.row),(3,.int .i64 (i:Int))] 121) (hp:=fun _=>[.dead]) (μ:=fun i=>t.nodes.length-i) 0 ⟨by omega,⟨[],by simp[Js]⟩,by omega⟩ ?_ rfl ?_
    ·simp[forget,gp,Tr.row]
    ·rintro i ⟨hi,⟨o,ho⟩,hnd⟩
     by_cases hlt:i < t.nodes.length
     ·have d1:((i:Int) < (t.nodes.length:Int))=True:=Jo
      have hx:=ht.nodes _ (Gd hlt)
      rw[← rowg hlt]at hx
      have hg:=Qb hlt
      have hki:=J3 hlt
      have hkk:=hkids i hlt
      have hnf:=fun hb=>frm_nd hlt hb
      have hnR:=ndI_R t.nodes (t.nodes.getD i default)
      have hS:=refSized t i hlt hmany hx (fun y hy=>(ht.nodes y hy).k) (fun k hk=>by have:=hkk k hk; omega)
      have hstep:=step_ord ho hki
      have hsn:ndI t.nodes (t.nodes.getD i default)=true→∀ j,j < i+1→ndI t.nodes (t.nodes.getD j default)=true:=by
       intro h j hj
       by_cases e:j=i
       ·subst e; exact h
       ·exact hnd j (by omega)
      generalize t.nodes.getD i default=x at hx hg hki hkk hnf hnR hS hstep hsn
      have hO:=Jd8 t ho hi hmany x.kids (by have:=hx.kidn; omega) i (Gf _)
      have hKi:=refKin t x hx hmany (fun y hy=>(ht.nodes y hy).k) (fun k hk=>by have:=hkk k hk; omega)
      have hF:=refFields x (kindR x.text) (Jck x.text) (kindR_name x.text) (refKind x.text (by have:=hx.text; omega))
      simp -implicitDefEqProofs only[go_sem,Tr.row,Jd,d1]
      refine JK Jz (by decide) ?_
      simp -implicitDefEqProofs only[go_sem,Tr.row,Jd,hg]
      refine ⟨by omega,?_⟩
      simp -implicitDefEqProofs only[go_sem,Nd.cv]
      refine JO (.inl rfl) hO ?_
      simp -implicitDefEqProofs only[go_sem]
      refine JK Jz (by decide) ?_
      rcases hstep with ⟨s1,s2⟩ | ⟨f,s1,s2⟩
      ·simp -implicitDefEqProofs only[go_sem,s2]
       rw[Jam h1 (frm_none (Jcg s1))]
      ·simp -implicitDefEqProofs only[go_sem,Tr.row,Jd,s2,hg]
       refine ⟨by omega,?_⟩
       refine ⟨by simp[Nd.cv],?_⟩
       refine JO (gok rfl) hKi ?_
       cases b1:KP x.k x.n (lets t.nodes x) with
       |false=>
        rw[b1,GI,GI]at hnR
        simp -implicitDefEqProofs only[go_sem]
        rw[Jam h1 (hnf hnR)]
       |true=>
        simp -implicitDefEqProofs only[go_sem,Tr.row,Jd,hg]
        refine ⟨by omega,by simp[Nd.cv],?_⟩
        refine JO (gok rfl) hF ?_
        cases b2:Qk (Jck x.text) x.k x.text x.n x.pl with
        |false=>
         rw[b1,b2,Gm,GI]at hnR
         simp -implicitDefEqProofs only[go_sem]
         rw[Jam h1 (hnf hnR)]
        |true=>
         simp -implicitDefEqProofs only[go_sem,Tr.row,Jd,hg]
         refine JO (gok rfl) hS ?_
         cases b3:KU x.k x.n (lets t.nodes x) with
         |false=>
          rw[b1,b2,b3,Gm,Gm]at hnR
          simp -implicitDefEqProofs only[go_sem]
          rw[Jam h1 (hnf hnR)]
         |true=>
          rw[b1,b2,b3,Gm,Gm]at hnR
          simp -implicitDefEqProofs only[go_sem]
          refine ⟨Jj,i+1,⟨by omega,⟨_,s1⟩,hsn hnR⟩,by omega,?_⟩
          simp[forget,Tr.row]
     ·have hie:i=t.nodes.length:=by omega
      subst hie
      have d1:((t.nodes.length:Int) < (t.nodes.length:Int))=False:=Jn
      have ho2:Js (JC t.nodes) []=some o:=by
       rw[← Gp (l:=JC t.nodes) (i:=t.nodes.length) (by simp[JC])]; exact ho
      have hok:=Qh _ _ _ Qz.nil ho2
      have hol:=Qd _ _ _ ho2
      simp only[Gl,Gr,Qy]at hol
      have hO:=Jd8 t ho (Gf _) hmany t.items (by omega) t.nodes.length (Gf _)
      have hie2:=items_eq (fst:=fs o) (isD:=fun i=>Ju t.nodes i == 65) hok hol (fun k _ _=>rfl) t.items
      have hall:t.nodes.all (ndI t.nodes)=true:=by
       rw[Gv]
       intro y hy
       obtain ⟨j,hj⟩:=List.getElem?_of_mem hy
       have hjl:=(Gz.1 hj).1
       have:=hnd j hjl
       rw[Ga,hj]at this
       exact this
      have hfrm:frm t=X9 o (fun i=>Ju t.nodes i == 65) t.nodes.length t.items 0:=by
       unfold frm; rw[ho2]; simp only[hall,Bool.and_true]
      simp -implicitDefEqProofs only[go_sem,Tr.row,Jd,d1]
      refine JM hO ?_
      simp -implicitDefEqProofs only[go_sem]
      cases b1:(JdI (fs o) t.items.reverse t.nodes.length).2 with
      |false=>
       rw[Jam h1 (by rw[hfrm,hie2,decide_eq_false (fun h=>by rw[h]at b1; cases b1)]; rfl)]
       simp -implicitDefEqProofs only[go_sem]
      |true=>
       by_cases b2:(JdI (fs o) t.items.reverse t.nodes.length).1=0
       ·have e2:((JdI (fs o) t.items.reverse t.nodes.length).1 != 0)=false:=by simp[b2]
        have hor:JdI (fs o) t.items.reverse t.nodes.length=(0,true):=Prod.ext b2 b1
        rw[hor,decide_eq_true rfl,Gm]at hie2
        simp -implicitDefEqProofs only[go_sem,e2]
        have hch:=(JbQ hok hol (fst:=fs o) (fun k _ _=>rfl) t.items.reverse t.nodes.length (by omega) (by omega)).1 hor
        rw[List.reverse_reverse]at hch
        have hmem:=fun i hi=>Qg hok rfl t.items 0 t.nodes.length (by rw[hol]; exact hch) i hi
        refine JA (I:=fun i:Nat=>i≤t.items.length∧∀ k∈t.items.take i,(Ju t.nodes k == 65)=true) (inv:=fun i=>gp [(1,.rptr t.row),(8,.int .i64 (i:Int))] 116) (hp:=fun _=>[.dead]) (μ:=fun i=>t.items.length-i) 0 ⟨by omega,by simp⟩ ?_ rfl ?_
        ·simp[forget,gp,Tr.row]
        ·rintro i ⟨hi,hdk⟩
         have hil:(iz t.items).length=t.items.length:=Jf
         by_cases hlt:i < t.items.length
         ·have d2:((i:Int) < (t.items.length:Int))=True:=Jo
          have hgi:=JQ hlt
          have hm2:t.items.getD i 0∈t.items:=by
           rw[Ga,Gb hlt]; exact Gd hlt
          have hts:t.items.take (i+1)=t.items.take i++[t.items.getD i 0]:=by
           rw[Gs hlt,Ga,Gb hlt]; rfl
          generalize t.items.getD i 0=k at hgi hm2 hts
          have hkr:=hmem k hm2
          have hgk:=Qb (l:=t.nodes) (i:=k.toNat) (by omega)
          have hkk:Ju t.nodes k=(t.nodes.getD k.toNat default).k:=rfl
          generalize t.nodes.getD k.toNat default=x at hgk hkk
          simp -implicitDefEqProofs only[go_sem,Tr.row,Jd,hil,d2]
          refine JK Jz (by decide) ?_
          simp -implicitDefEqProofs only[go_sem,Tr.row,Jd,hil,hgi]
          refine ⟨by omega,?_⟩
          simp -implicitDefEqProofs only[go_sem,Tr.row,Jd,hil,hgk,Nd.cv]
          refine ⟨by omega,?_⟩
          have q65:=JbT 65 x.k
          simp only[Gx]at q65
          cases b3:(x.k == 65) with
          |true=>
           have e3:((x.k:Int) != 65)=false:=by rw[bne,q65,b3]; rfl
           simp -implicitDefEqProofs only[go_sem,e3]
           refine ⟨Jj,i+1,⟨by omega,?_⟩,by omega,?_⟩
           ·rw[hts]
            intro u hu
            rcases GG.1 hu with hu | hu
            ·exact hdk u hu
            ·rw[Gu.1 hu,hkk]; exact b3
           ·simp[forget]
          |false=>
           have e3:((x.k:Int) != 65)=true:=by rw[bne,q65,b3]; rfl
           have hf:frm t=false:=by
            rw[hfrm,hie2,GV]
            exact ⟨k,hm2,by rw[hkk,b3]; simp⟩
           rw[Jam h1 hf]
           simp -implicitDefEqProofs only[go_sem,e3]
         ·have hie:i=t.items.length:=by omega
          subst hie
          rw[Gi]at hdk
          have d2:((t.items.length:Int) < (t.items.length:Int))=False:=Jn
          have hf:frm t=true:=by
           rw[hfrm,hie2,Gv]; exact hdk
          have hc:chk t=if Jaf t=true then 5 else 0:=by unfold chk; rw[if_neg h1,if_pos hf]
          rw[hc]
          simp -implicitDefEqProofs only[go_sem,Tr.row,Jd,hil,d2]
          refine JM (Jd7 t ht ho2) ?_
          cases b4:Jaf t with
          |true=>simp -implicitDefEqProofs only[go_sem]
          |false=>simp -implicitDefEqProofs only[go_sem]
       ·have e2:((JdI (fs o) t.items.reverse t.nodes.length).1 != 0)=true:=by simp[b2]
        rw[Jam h1 (by rw[hfrm,hie2,decide_eq_false (fun h=>by rw[h]at b2; exact b2 rfl)]; rfl)]
        simp -implicitDefEqProofs only[go_sem,e2]
theorem Jat {α:Type}{l:List α}{i:Nat}{d:α}(h:i < l.length):l.take (i+1)=l.take i++[l.getD i d]:=by
 rw[Gs h,Ga,Gb h]; rfl
theorem YA (a b:List Int) (ha:a.length≤100000):Fn Gc 51 [.rslc 1 (iz a) none,.rslc 1 (iz b) none] (.bool (a == b)):=by
 have hal:(iz a).length=a.length:=Jf
 have hbl:(iz b).length=b.length:=Jf
 refine Jb c51_ok rfl rfl fun N=>?_
 by_cases hl:a.length=b.length
 ·have e1:((a.length:Int) != (b.length:Int))=false:=by simp[hl]
  simp -implicitDefEqProofs only[c51,go_sem,hal,hbl,e1]
  refine JA (I:=fun i:Nat=>i≤a.length∧a.take i=b.take i) (inv:=fun i=>gp [(0,.rslc 1 (iz a) none),(0,.rslc 1 (iz b) none),(3,.int .i64 (i:Int))] 20) (hp:=fun _=>[]) (μ:=fun i=>a.length-i) 0 ⟨by omega,by simp⟩ ?_ rfl ?_
  ·simp[forget,gp]
  ·rintro i ⟨hi,hinv⟩
   by_cases hlt:i < a.length
   ·have d1:((i:Int) < (a.length:Int))=True:=Jo
    have hga:=JQ hlt
    have hgb:=JQ (l:=b) (i:=i) (by omega)
    have hta:=Jat (d:=0) hlt
    have htb:=Jat (l:=b) (i:=i) (d:=0) (by omega)
    simp -implicitDefEqProofs only[go_sem,hal,hbl,d1]
    refine JK Jz (by decide) ?_
    simp -implicitDefEqProofs only[go_sem,hal,hbl,hga,hgb]
    refine ⟨by omega,by omega,?_⟩
    by_cases he:a.getD i 0=b.getD i 0
    ·have e2:(a.getD i 0 != b.getD i 0)=false:=by rw[he]; simp
     simp -implicitDefEqProofs only[go_sem,e2]
     refine ⟨Jj,i+1,⟨by omega,by rw[hta,htb,hinv,he]⟩,by omega,?_⟩
     simp[forget]
    ·have e2:(a.getD i 0 != b.getD i 0)=true:=by simpa using he
     have hne:(a == b)=false:=by
      rw[beq_eq_false_iff_ne]; rintro rfl; exact he rfl
     simp -implicitDefEqProofs only[go_sem,e2,hne]
   ·have d1:((i:Int) < (a.length:Int))=False:=Jn
    have he:(a == b)=true:=by
     rw[beq_iff_eq]
     have h1:i=a.length:=by omega
     rw[h1,Gi,Gp (by omega)]at hinv
     exact hinv
    simp -implicitDefEqProofs only[go_sem,hal,hbl,d1,he]
 ·have e1:((a.length:Int) != (b.length:Int))=true:=by simp; omega
  have hne:(a == b)=false:=by
   rw[beq_eq_false_iff_ne]; rintro rfl; exact hl rfl
  simp -implicitDefEqProofs only[c51,go_sem,hal,hbl,e1,hne]
def Je0 (x y:Nd):Bool:=x.k == y.k && x.text == y.text && x.n == y.n && x.kids == y.kids
theorem sameN_self (x:Nd):Je0 x x=true:=by simp[Je0]
def XY:List Nd→List Nd→Bool
 |[],[]=>true
 |x::l,y::m=>Je0 x y && XY l m
 |_,_=>false
theorem Jd4:∀ l:List Nd,XY l l=true
 |[]=>rfl
 |x::l=>by simp[XY,sameN_self,Jd4 l]
theorem sameL_len:∀ {l m:List Nd},XY l m=true→l.length=m.length
 |[],[],_=>rfl
 |x::l,y::m,h=>by simp[XY]at h; simp[sameL_len h.2]
 |[],_::_,h=>by simp[XY]at h
 |_::_,[],h=>by simp[XY]at h
theorem sameL_drop {l m:List Nd}{i:Nat}(hi:i < l.length) (hm:i < m.length):XY (l.drop i) (m.drop i)=(Je0 (l.getD i default) (m.getD i default) && XY (l.drop (i+1)) (m.drop (i+1))):=by
 rw[Gt hi,Gt hm,XY]
 simp[Ga,hi,hm]
def JeZ (a b:Tr):Bool:=a.items == b.items && XY a.nodes b.nodes
theorem refSame (a b:Tr) (ha:a.Fit) (hb:b.Fit):Fn Gc 63 [a.cv,b.cv] (.bool (JeZ a b)):=by
 have hal:=ha.many
 have hail:=ha.items
 refine Jb c63_ok rfl rfl fun N=>?_
 by_cases hl:a.nodes.length=b.nodes.length
 ·have e1:((a.nodes.length:Int) != (b.nodes.length:Int))=false:=by simp[hl]
  simp -implicitDefEqProofs only[c63,go_sem,Tr.cv,Tr.row,Jd,e1]
  refine Je (id:=0) (z:=2) (els:=[a.row]) rfl rfl ?_
  simp only[go_sem,JS,Kb,frz,KI]
  refine Je (id:=1) (z:=2) (els:=[b.row]) rfl rfl ?_
  simp only[go_sem,JS,Kb,frz,KI,Tr.row,Jd]
  refine JP (gok rfl) (YA a.items b.items (by omega)) ?_
  cases h2:(a.items == b.items) with
  |false=>
   have hs:JeZ a b=false:=by unfold JeZ; rw[h2]; rfl
   simp -implicitDefEqProofs only[go_sem,hs]
  |true=>
   have hs:JeZ a b=XY a.nodes b.nodes:=by unfold JeZ; rw[h2]; rfl
   rw[hs]
   simp -implicitDefEqProofs only[go_sem]
   refine Jv (I:=fun i:Nat=>i≤a.nodes.length∧XY a.nodes b.nodes=XY (a.nodes.drop i) (b.nodes.drop i)) (inv:=fun i=>gp [(2,.rptr a.row),(0,.rptr b.row),(1,.int .i64 (i:Int))] 61) (hp:=fun _=>[.dead,.dead]) (μ:=fun i=>a.nodes.length-i) 0 [0,1] ⟨by omega,rfl⟩ rfl ?_ rfl ?_
   ·simp[forget,gp,Jy,ren,Jk,Tr.row]
   ·rintro i ⟨hi,hinv⟩
    by_cases hlt:i < a.nodes.length
    ·have d1:((i:Int) < (a.nodes.length:Int))=True:=Jo
     have hga:=Qb hlt
     have hgb:=Qb (l:=b.nodes) (i:=i) (by omega)
     have hx:=ha.nodes _ (Gd hlt)
     rw[← rowg hlt]at hx
     rw[sameL_drop hlt (by omega)]at hinv
     generalize a.nodes.getD i default=x at hga hx hinv
     generalize b.nodes.getD i default=y at hgb hinv
     simp -implicitDefEqProofs only[go_sem,Tr.row,Jd,d1]
     refine vr_dregP 10 11 [false,false,false,false,false,false,false,false,false,false,true,true,true,true] [false,false,false,false,false,false,false,false,false,false,true,true,true,true] (gp [(2,.rptr a.row),(0,.rptr b.row),(1,.int .i64 (i:Int)),(0,.ptr 2 0 0),(0,.ptr 3 0 0)] 59) [.dead,.dead,.arr 5 [x.cv],.arr 5 [y.cv]] Jz (by decide +kernel) ?_ ?_ ?_
     ·simp -implicitDefEqProofs only[go_sem,Tr.row,Jd,hga,hgb,Nd.cv,splice]
      exact ⟨by omega,by omega,Jff [0,1,2,3] rfl (by simp[forget,Jy,ren,Jk]) (by simp only[J5,Gh,Gj,go_sem,Ji,Jg]; rfl)⟩
     ·simp -implicitDefEqProofs only[swl,swi,QD,List.range,List.range.loop,Gg,Gl,Gh,Gj,List.getD_cons_zero,List.getD_cons_succ,go_sem,Tr.row,Jd,hga,hgb,Nd.cv,splice]
      exact ⟨by omega,by omega,Jff [0,1,3,2] rfl (by simp[forget,Jy,ren,Jk]) (by simp only[J5,Gh,Gj,go_sem,Ji,Jg]; rfl)⟩
     ·have hkx:=hx.kidn
      have hK:=YA x.kids y.kids (by omega)
      obtain ⟨k1,t1,n1,ks1,p1⟩:=x
      obtain ⟨k2,t2,n2,ks2,p2⟩:=y
      simp only[gp,List.replicate]
      dsimp only at hK hinv
      have c1:((k1:Int) != (k2:Int)) = !(k1 == k2):=by
       rw[bne]; congr 1; rw[G7,beq_iff_eq,beq_iff_eq]; omega
      cases b1:(k1 == k2) with
      |false=>
       rw[b1]at c1
       have hR:XY a.nodes b.nodes=false:=by rw[hinv]; simp[Je0,b1]
       simp -implicitDefEqProofs only[go_sem,Nd.cv,c1,hR,Gw]
      |true=>
       rw[b1]at c1
       cases b2:(t1 == t2) with
       |false=>
        have hR:XY a.nodes b.nodes=false:=by rw[hinv]; simp[Je0,b2]
        simp -implicitDefEqProofs only[go_sem,Nd.cv,c1,b2,hR,GJ,Gw]
       |true=>
        cases b3:(n1 == n2) with
        |false=>
         have e3:(n1 != n2)=true:=by rw[bne,b3]; rfl
         have hR:XY a.nodes b.nodes=false:=by rw[hinv]; simp[Je0,b3]
         simp -implicitDefEqProofs only[go_sem,Nd.cv,c1,b2,e3,hR,GJ,Gw]
        |true=>
         have e3:(n1 != n2)=false:=by rw[bne,b3]; rfl
         simp -implicitDefEqProofs only[go_sem,Nd.cv,c1,b2,e3,GJ,Gw]
         refine JP (gok rfl) hK ?_
         cases b4:(ks1 == ks2) with
         |false=>
          have hR:XY a.nodes b.nodes=false:=by rw[hinv]; simp[Je0,b4]
          simp -implicitDefEqProofs only[go_sem,hR]
         |true=>
          have hR:XY a.nodes b.nodes=XY (a.nodes.drop (i+1)) (b.nodes.drop (i+1)):=by rw[hinv]; simp only[Je0,b1,b2,b3,b4,Gm]
          simp -implicitDefEqProofs only[go_sem]
          refine ⟨Jj,i+1,[0,1],⟨by omega,hR⟩,by omega,rfl,?_,?_⟩
          ·simp only[J5,Gh,Gj,go_sem,Jg]
          ·simp[forget,Jy,ren,Jk,Tr.row]
    ·have hie:i=a.nodes.length:=by omega
     have d1:((i:Int) < (a.nodes.length:Int))=False:=Jn
     have hR:XY a.nodes b.nodes=true:=by
      rw[hinv,Gq (by omega),Gq (by omega)]; rfl
     simp -implicitDefEqProofs only[go_sem,Tr.row,Jd,d1,hR]
 ·have e1:((a.nodes.length:Int) != (b.nodes.length:Int))=true:=by simp; omega
  have hs:JeZ a b=false:=by
   unfold JeZ
   cases h:XY a.nodes b.nodes with
   |false=>simp
   |true=>exact absurd (sameL_len h) hl
  simp -implicitDefEqProofs only[c63,go_sem,Tr.cv,Tr.row,Jd,e1,hs]
theorem refAlike (a:Tr) (ha:a.Fit):Fn Gc 22 [a.cv,a.cv] (.bool true):=by
 have hal:=ha.many
 have hS:=refSame a a ha ha
 rw[show JeZ a a=true by simp[JeZ,Jd4]]at hS
 refine Jb c22_ok rfl rfl fun N=>?_
 simp -implicitDefEqProofs only[c22,go_sem,Tr.cv,Tr.row]
 refine Je (id:=0) (z:=2) (els:=[a.row]) rfl rfl ?_
 simp only[go_sem,JS,Kb,frz,KI]
 refine Je (id:=1) (z:=2) (els:=[a.row]) rfl rfl ?_
 simp only[go_sem,JS,Kb,frz,KI,Tr.row]
 refine JM hS ?_
 simp -implicitDefEqProofs only[go_sem]
 refine JA (I:=fun i:Nat=>i≤a.nodes.length) (inv:=fun i=>gp [(2,.rptr a.row),(0,.rptr a.row),(1,.int .i64 (i:Int))] 24) (hp:=fun _=>[.dead,.dead]) (μ:=fun i=>a.nodes.length-i) 0 (by omega) ?_ rfl ?_
 ·simp[forget,gp,Tr.row]
 ·intro i hi
  by_cases hlt:i < a.nodes.length
  ·have d1:((i:Int) < (a.nodes.length:Int))=True:=Jo
   have hga:=Qb hlt
   generalize a.nodes.getD i default=x at hga
   have e:(x.pl != x.pl)=false:=by simp
   simp -implicitDefEqProofs only[go_sem,Tr.row,Jd,d1]
   refine JK Jz (by decide) ?_
   simp -implicitDefEqProofs only[go_sem,Tr.row,Jd,hga,Nd.cv,e]
   refine ⟨by omega,by omega,Jj,i+1,by omega,by omega,?_⟩
   simp[forget,Tr.row]
  ·have d1:((i:Int) < (a.nodes.length:Int))=False:=Jn
   simp -implicitDefEqProofs only[go_sem,Tr.row,Jd,d1]
def JcC (x:Nd):Bool:=decide (30 < x.kids.length) || decide (60 < x.text.length)
theorem row_agg5 {x:Nd}{id n:Nat}{cap:Option Nat}(hn:n=x.kids.length):wk (frz id 1 (iz x.kids) (.agg [.int .u8 x.k,S x.text,.int .i64 x.n,.slc id 0 n cap,.int .i64 x.pl])) (.agg x.cv):=by
 subst hn
 have hl:(iz x.kids).length=x.kids.length:=Jf
 simp only[frz,JS,if_true,Gr,hl,Gf,GH]
 rw[← hl,Gi]
 exact Jcx ⟨wk.refl _,wk.refl _,wk.refl _,wk.rslc,wk.refl _,trivial⟩
theorem refMoved (x:Nd) (hx:x.kids.length≤1000) (d:Int) (hk:∀ k∈x.kids,InR .i64 (k+d)):Fn Gc 47 [.agg x.cv,.int .i64 d] (.agg (mvN d x).cv):=by
 have hxl:(iz x.kids).length=x.kids.length:=Jf
 refine Jbt ?_ rfl rfl
 refine J8 c47_ok fun N=>?_
 simp -implicitDefEqProofs only[c47,go_sem,Nd.cv]
 refine Jv (I:=fun i:Nat=>i≤x.kids.length) (inv:=fun i=>gp [(1,.int .i64 d),(0,.ptr 0 0 0),(1,.ptr 1 0 0),(0,.slc 2 0 (iz ((x.kids.take i).map (· + d))).length (JeB (iz ((x.kids.take i).map (· + d))))),(0,.int .i64 (i:Int))] 21)
  (hp:=fun i=>[.arr 5 [x.cv],.arr 5 [[.int .u8 0,S [],.int .i64 0,.nils,.int .i64 0]],.arr 1 (iz ((x.kids.take i).map (· + d)))]) (μ:=fun i=>x.kids.length-i) 0 [0,1,2] (by omega) rfl ?_ rfl ?_
 ·simp[forget,Jy,ren,Jk,gp,iz,JeB]
 ·intro i hi
  by_cases hlt:i < x.kids.length
  ·have d1:((i:Int) < (x.kids.length:Int))=True:=Jo
   have hgi:=JQ hlt
   have hts:(x.kids.take (i+1)).map (· + d)=(x.kids.take i).map (· + d)++[x.kids.getD i 0+d]:=by
    rw[Jat (d:=0) hlt,List.map_append]; rfl
   have hol:((x.kids.take i).map (· + d)).length=i:=by simp; omega
   have hmem:x.kids.getD i 0∈x.kids:=by
    rw[Ga,Gb hlt]; exact Gd hlt
   have hin:=hk _ hmem
   generalize x.kids.getD i 0=k at hgi hts hin
   generalize (x.kids.take i).map (· + d)=L at hts hol ⊢
   have hLl:(iz L).length=L.length:=Jf
   have hz:iz (L++[k+d])=iz L++[[.int .i64 (k+d)]]:=Ka
   simp -implicitDefEqProofs only[go_sem,Nd.cv,hxl,d1,hgi,Jt]
   refine ⟨by omega,hin,by omega,Jj,i+1,[0,1,4],by omega,by omega,rfl,?_,?_⟩
   ·have hc:=Ja (ρ:=[0,1,4]) (Jc (L++[k+d]))
    rw[hz]at hc
    rw[hts,hz]
    simp only[J5,Gh,Gj,go_sem,Ji,hc]
    rfl
   ·rw[hts,hz,JaB]
    simp[forget,Jy,ren,Jk]
  ·have hie:i=x.kids.length:=by omega
   subst hie
   have d1:((x.kids.length:Int) < (x.kids.length:Int))=False:=Jn
   rw[Gi]
   simp -implicitDefEqProofs only[go_sem,Nd.cv,hxl,d1,splice]
   exact .inr ⟨2,1,iz (x.kids.map (· + d)),rfl,Jc _,row_agg5 (x:=mvN d x) (by simp[Jf,mvN])⟩
theorem row_aggT {z:Nat}{els:List (List CV)}{id n:Nat}{cap:Option Nat}{y:CV}(hy:y.closed=true) (hn:n=els.length):wk (frz id z els (.agg [.slc id 0 n cap,y])) (.agg [.rslc z els none,y]):=by
 subst hn
 simp only[frz,JS,if_true,Gr,Gf,GH,Gi,Xb y hy]
 exact Jcx ⟨wk.rslc,wk.refl _,trivial⟩
theorem refCopy (t:Tr) (ht:t.Fit):Fn Gc 13 [t.cv] t.cv:=by
 have hmany:=ht.many
 have hitems:=ht.items
 have hil:(iz t.items).length=t.items.length:=Jf
 have hrc:=Jc t.items
 refine Jbt ?_ rfl rfl
 refine J8 c13_ok fun N=>?_
 obtain ⟨R,hR⟩:∃ R,R=iz t.items:=⟨_,rfl⟩
 simp only[Tr.cv,Tr.row]
 rw[← hR]at hrc hil ⊢
 cases R with
 |nil=>
  simp -implicitDefEqProofs only[c13,go_sem]
  refine Je (id:=0) (z:=2) (els:=[[.rslc 5 (ndz t.nodes) none,.rslc 1 [] none]]) rfl rfl ?_
  simp only[go_sem,JS,Kb,frz,KI]
  refine Je (id:=2) (z:=1) (els:=[]) rfl rfl ?_
  simp only[go_sem,JS,Kb,frz,KI]
  refine Xh ?_
  simp only[go_sem,GD,GX]
  refine Jv (I:=fun i:Nat=>i≤t.nodes.length) (inv:=fun i=>gp [(1,.rptr [.rslc 5 (ndz t.nodes) none,.rslc 1 [] none]),(0,.ptr 1 0 0),(0,.ptr 2 0 0),(0,.int .i64 (i:Int))] 24) (hp:=fun i=>[.dead,.arr 2 [[.nils,.nils]],.arr 2 [[K5 3 (ndz (t.nodes.take i)),.rslc 1 [] none]],Qm 5 (ndz (t.nodes.take i))]) (μ:=fun i=>t.nodes.length-i) 0 [0,1,3,4] (by omega) rfl ?_ ?_ ?_
  ·simp[forget,Jy,ren,Jk,gp]
  ·rfl
  ·intro i hi
   by_cases hlt:i < t.nodes.length
   ·have d1:((i:Int) < (t.nodes.length:Int))=True:=Jo
    have hg:=Qb hlt
    have hx:=ht.nodes _ (Gd hlt)
    rw[← rowg hlt]at hx
    have hts:ndz (t.nodes.take (i+1))=ndz (t.nodes.take i)++[(t.nodes.getD i default).cv]:=by
     rw[Jat (d:=default) hlt]; simp[ndz]
    have hcl:=Qv (t.nodes.take (i+1))
    have hpl:(ndz (t.nodes.take i)).length=i:=by rw[Jd,GA]; omega
    generalize t.nodes.getD i default=x at hg hx hts
    generalize ndz (t.nodes.take i)=Z at hts hpl ⊢
    have hM:=refMoved x (by have:=hx.kidn; omega) 0 (fun k hk=>by rw[GL]; exact hx.kids k hk)
    have hmv:mvN 0 x=x:=by
     obtain ⟨k,te,n,ks,p⟩:=x
     simp[mvN]
    rw[hmv]at hM
    simp -implicitDefEqProofs only[go_sem,Jd,d1]
    refine XA [false,true,false,false,false,false,false,false,false,true,false,true] Jz (by decide +kernel) ?_
    simp -implicitDefEqProofs only[go_sem,Jd,hg]
    refine ⟨by omega,by simp[Nd.cv],?_⟩
    refine vh_f hM ?_
    simp -implicitDefEqProofs only[go_sem]
    refine vh_row [x.cv] rfl rfl rfl rfl ?_
    simp -implicitDefEqProofs only[go_sem,Jt,splice,Gg,Gl]
    refine ⟨by omega,Jj,i+1,[0,1,2,4],by omega,by omega,rfl,?_,?_⟩
    ·rw[hts]at hcl
     have hc:=Ja (ρ:=[0,1,2,4]) hcl
     rw[hts,J6,J7]
     simp only[J5,Gh,Gj,go_sem,Ji,hc]
     rfl
    ·simp[forget,Jy,ren,Jk]
   ·have hie:i=t.nodes.length:=by omega
    subst hie
    have d1:((t.nodes.length:Int) < (t.nodes.length:Int))=False:=Jn
    rw[Gi]
    have hnc:=Qv t.nodes
    cases hN:ndz t.nodes with
    |nil=>
     have hnl:(([]:List (List CV)).length:Int)=t.nodes.length:=by rw[← hN,Jd]
     simp only[Gl]at hnl
     simp -implicitDefEqProofs only[go_sem,QI,X7,Gl,hnl,d1,splice]
     exact .inl (Jcx ⟨wk.nils,wk.refl _,trivial⟩)
    |cons f fs=>
     have hnl:((fs.length+1:Nat):Int)=t.nodes.length:=by rw[← Gg,← hN,Jd]
     rw[QU (by simp),QC (by simp)]
     simp -implicitDefEqProofs only[go_sem,Gg,hnl,d1,splice]
     rw[hN]at hnc
     exact .inr ⟨3,5,f::fs,rfl,hnc,row_aggT rfl rfl⟩
 |cons e es=>
  have hel:es.length+1≤40:=by have:=hil; simp only[Gg]at this; omega
  simp -implicitDefEqProofs only[c13,go_sem,Jt,Gg]
  refine ⟨by omega,?_⟩
  refine Je (id:=3) (z:=1) (els:=e::es) rfl hrc ?_
  simp only[go_sem,JS,Kb,frz,KI,Gg,GH,Gp (l:=e::es) (i:=es.length+1) (Gf _)]
  refine Je (id:=0) (z:=2) (els:=[[.rslc 5 (ndz t.nodes) none,.rslc 1 (e::es) none]]) rfl rfl ?_
  simp only[go_sem,JS,Kb,frz,KI]
  refine Xh ?_
  simp only[go_sem,GD,GX]
  refine Jv (I:=fun i:Nat=>i≤t.nodes.length) (inv:=fun i=>gp [(1,.rptr [.rslc 5 (ndz t.nodes) none,.rslc 1 (e::es) none]),(0,.ptr 1 0 0),(0,.ptr 2 0 0),(0,.int .i64 (i:Int))] 24) (hp:=fun i=>[.dead,.arr 2 [[.nils,.nils]],.arr 2 [[K5 3 (ndz (t.nodes.take i)),.rslc 1 (e::es) none]],Qm 5 (ndz (t.nodes.take i))]) (μ:=fun i=>t.nodes.length-i) 0 [0,1,4,5] (by omega) rfl ?_ ?_ ?_
  ·simp[forget,Jy,ren,Jk,gp]
  ·rfl
  ·intro i hi
   by_cases hlt:i < t.nodes.length
   ·have d1:((i:Int) < (t.nodes.length:Int))=True:=Jo
    have hg:=Qb hlt
    have hx:=ht.nodes _ (Gd hlt)
    rw[← rowg hlt]at hx
    have hts:ndz (t.nodes.take (i+1))=ndz (t.nodes.take i)++[(t.nodes.getD i default).cv]:=by
     rw[Jat (d:=default) hlt]; simp[ndz]
    have hcl:=Qv (t.nodes.take (i+1))
    have hpl:(ndz (t.nodes.take i)).length=i:=by rw[Jd,GA]; omega
    generalize t.nodes.getD i default=x at hg hx hts
    generalize ndz (t.nodes.take i)=Z at hts hpl ⊢
    have hM:=refMoved x (by have:=hx.kidn; omega) 0 (fun k hk=>by rw[GL]; exact hx.kids k hk)
    have hmv:mvN 0 x=x:=by
     obtain ⟨k,te,n,ks,p⟩:=x
     simp[mvN]
    rw[hmv]at hM
    simp -implicitDefEqProofs only[go_sem,Jd,d1]
    refine XA [false,true,false,false,false,false,false,false,false,true,false,true] Jz (by decide +kernel) ?_
    simp -implicitDefEqProofs only[go_sem,Jd,hg]
    refine ⟨by omega,by simp[Nd.cv],?_⟩
    refine vh_f hM ?_
    simp -implicitDefEqProofs only[go_sem]
    refine vh_row [x.cv] rfl rfl rfl rfl ?_
    simp -implicitDefEqProofs only[go_sem,Jt,splice,Gg,Gl]
    refine ⟨by omega,Jj,i+1,[0,1,2,4],by omega,by omega,rfl,?_,?_⟩
    ·rw[hts]at hcl
     have hc:=Ja (ρ:=[0,1,2,4]) hcl
     rw[hts,J6,J7]
     simp only[J5,Gh,Gj,go_sem,Ji,hc]
     rfl
    ·simp[forget,Jy,ren,Jk]
   ·have hie:i=t.nodes.length:=by omega
    subst hie
    have d1:((t.nodes.length:Int) < (t.nodes.length:Int))=False:=Jn
    rw[Gi]
    have hnc:=Qv t.nodes
    cases hN:ndz t.nodes with
    |nil=>
     have hnl:(([]:List (List CV)).length:Int)=t.nodes.length:=by rw[← hN,Jd]
     simp only[Gl]at hnl
     simp -implicitDefEqProofs only[go_sem,QI,X7,Gl,hnl,d1,splice]
     exact .inl (Jcx ⟨wk.nils,wk.refl _,trivial⟩)
    |cons f fs=>
     have hnl:((fs.length+1:Nat):Int)=t.nodes.length:=by rw[← Gg,← hN,Jd]
     rw[QU (by simp),QC (by simp)]
     simp -implicitDefEqProofs only[go_sem,Gg,hnl,d1,splice]
     rw[hN]at hnc
     exact .inr ⟨3,5,f::fs,rfl,hnc,row_aggT rfl rfl⟩
end Go.Cm
end
section
namespace Go.Cm
structure Nd.Ty (x:Nd):Prop where
 k:x.k < 256
 n:InR .i64 x.n
 kids:∀ i∈x.kids,InR .i64 i
 pl:InR .i64 x.pl
structure Tr.Ty (t:Tr):Prop where
 nodes:∀ x∈t.nodes,x.Ty
 items:∀ i∈t.items,InR .i64 i
end Go.Cm
end
section
set_option maxRecDepth 100000
set_option maxHeartbeats 4000000
open Go.Proofs
namespace Go.Cm
theorem indexI (l:List Int) (x:Int) (hl:l.length≤100000):Fn Gc 104 [.rslc 1 (iz l) none,.int .i64 x] (.int .i64 (QE (fun y=>x == y) l 0)):=by
 have hil:(iz l).length=l.length:=Jf
 refine Jb c104_ok rfl rfl fun N=>?_
 simp -implicitDefEqProofs only[c104,go_sem,hil]
 refine JA (I:=fun i:Nat=>i≤l.length∧QE (fun y=>x == y) l 0=QE (fun y=>x == y) (l.drop i) i) (inv:=fun i=>gp [(0,.rslc 1 (iz l) none),(0,.int .i64 x),(5,.int .i64 (l.length:Int)),(0,.int .i64 (i:Int))] 10) (hp:=fun _=>[]) (μ:=fun i=>l.length-i) 0 ⟨by omega,rfl⟩ ?_ rfl ?_
 ·simp[forget,gp]
 ·rintro i ⟨hi,hinv⟩
  by_cases hlt:i < l.length
  ·have d1:((i:Int) < (l.length:Int))=True:=Jo
   have hgi:=JQ hlt
   have hge:l[i]? = some (l.getD i 0):=by rw[Ga,Gb hlt]; rfl
   rw[Qr hge]at hinv
   simp -implicitDefEqProofs only[go_sem,hil,d1,hgi]
   generalize l.getD i 0=y at hinv ⊢
   refine ⟨by omega,?_⟩
   cases he:(x == y) with
   |true=>
    rw[he,if_pos rfl]at hinv
    simp -implicitDefEqProofs only[go_sem,hinv]
   |false=>
    rw[he]at hinv
    simp -implicitDefEqProofs only[go_sem]
    refine ⟨Jj,i+1,⟨by omega,by simpa using hinv⟩,by omega,?_⟩
    simp[forget]
  ·have d1:((i:Int) < (l.length:Int))=False:=Jn
   rw[Gq (by omega)]at hinv
   simp -implicitDefEqProofs only[go_sem,d1,hinv,QE]
theorem containsI (l:List Int) (x:Int) (hl:l.length≤100000):Fn Gc 78 [.rslc 1 (iz l) none,.int .i64 x] (.bool (l.contains x)):=by
 refine Jb c78_ok rfl rfl fun N=>?_
 simp -implicitDefEqProofs only[c78,go_sem]
 refine JM (indexI l x hl) ?_
 have e:decide (0≤QE (fun y=>x == y) l 0)=l.contains x:=by rw[Jaz,List.contains_eq_any_beq]
 simp -implicitDefEqProofs only[go_sem,e]
def inT (t:Tr) (n:Int):Bool:=inI 0 ((t.nodes.length:Int)-1) n
theorem XP {t:Tr}{n:Int}:inT t n=true↔0≤n∧n < t.nodes.length:=by
 simp only[inT,inI,Gn,decide_eq_true_eq]; omega
theorem fixA_skip {α:Type}{q:α→Bool}{l:List α}:∀ (n:Nat),n≤l.length→(∀ j (h:j < l.length),j < n→q l[j]=false)→QE q l 0=QE q (l.drop n) n
 |0,_,_=>rfl
 |n+1,h,hq=>by
  rw[fixA_skip n (by omega) fun j hj hn=>hq j hj (by omega),Qr (Gb (by omega:n < l.length)),hq n (by omega) (by omega)]
  simp
theorem refParent (t:Tr) (ht:t.Fit) {o:List Int}(g:GoodT t o) (n:Nat) (hn:n < t.nodes.length):Fn Gc 106 [t.cv,.int .i64 n] (.int .i64 (QE (fun x:Nd=>x.kids.contains (n:Int)) t.nodes 0)):=by
 have hmany:=ht.many
 refine Jb c106_ok rfl rfl fun N=>?_
 simp -implicitDefEqProofs only[c106,go_sem,Tr.cv,Tr.row]
 refine ⟨Jj,?_⟩
 refine Je (id:=0) (z:=2) (els:=[t.row]) rfl rfl ?_
 simp only[go_sem,JS,Kb,frz,KI,Tr.row]
 have hskip:QE (fun x:Nd=>x.kids.contains (n:Int)) t.nodes 0=QE (fun x:Nd=>x.kids.contains (n:Int)) (t.nodes.drop (n+1)) (n+1):=by
  refine fixA_skip (n+1) (by omega) fun j hj hjn=>?_
  rw[← Bool.not_eq_true,List.contains_iff_mem]
  intro hm
  have:=g.kid hj (k:=n) (by rw[rowg hj]; exact hm)
  omega
 refine JA (I:=fun i:Nat=>i≤t.nodes.length∧QE (fun x:Nd=>x.kids.contains (n:Int)) t.nodes 0=QE (fun x:Nd=>x.kids.contains (n:Int)) (t.nodes.drop i) i) (inv:=fun i=>gp [(1,.int .i64 (n:Int)),(0,.rptr t.row),(2,.int .i64 (i:Int))] 33) (hp:=fun _=>[.dead]) (μ:=fun i=>t.nodes.length-i) (n+1) ⟨by omega,hskip⟩ ?_ rfl ?_
 ·simp[forget,gp,Tr.row]
 ·rintro i ⟨hi,hinv⟩
  by_cases hlt:i < t.nodes.length
  ·have d1:((i:Int) < (t.nodes.length:Int))=True:=Jo
   have hg:=Qb hlt
   have hx:=ht.nodes _ (Gd hlt)
   rw[← rowg hlt]at hx
   have hge:t.nodes[i]? = some (t.nodes.getD i default):=by rw[Ga,Gb hlt]; rfl
   rw[Qr hge]at hinv
   generalize t.nodes.getD i default=x at hg hinv hx
   have hkn:=hx.kidn
   have hxl:(iz x.kids).length=x.kids.length:=Jf
   simp -implicitDefEqProofs only[go_sem,Tr.row,Jd,d1]
   refine JA (I:=fun j:Nat=>j≤x.kids.length∧x.kids.contains (n:Int)=(x.kids.drop j).contains (n:Int)) (inv:=fun j=>gp [(1,.int .i64 (n:Int)),(0,.rptr t.row),(2,.int .i64 (i:Int)),(0,.int .i64 (j:Int))] 32) (hp:=fun _=>[.dead]) (μ:=fun j=>x.kids.length-j) 0 ⟨by omega,rfl⟩ ?_ rfl ?_
   ·simp[forget,gp,Tr.row]
   ·rintro j ⟨hj,hjv⟩
    by_cases hjl:j < x.kids.length
    ·have d2:((j:Int) < (x.kids.length:Int))=True:=Jo
     have hgi:=JQ hjl
     rw[Gt hjl,List.contains_cons,show x.kids[j]=x.kids.getD j 0 by rw[Ga,Gb hjl]; rfl]at hjv
     generalize x.kids.getD j 0=k at hgi hjv
     have hsym:(k == (n:Int))=((n:Int) == k):=by rw[G7,beq_iff_eq,beq_iff_eq]; exact eq_comm
     cases he:(k == (n:Int)) with
     |true=>
      rw[← hsym,he,Bool.true_or]at hjv
      rw[hjv,if_pos rfl]at hinv
      simp -implicitDefEqProofs only[go_sem,Tr.row,Jd,hg,Nd.cv,hxl,d2,hgi,he,hinv]
      omega
     |false=>
      rw[← hsym,he,Bool.false_or]at hjv
      simp -implicitDefEqProofs only[go_sem,Tr.row,Jd,hg,Nd.cv,hxl,d2,hgi,he]
      refine ⟨by omega,by omega,by omega,Jj,j+1,⟨by omega,hjv⟩,by omega,?_⟩
      simp[forget,Tr.row]
    ·have d2:((j:Int) < (x.kids.length:Int))=False:=Jn
     rw[Gq (by omega)]at hjv
     rw[hjv]at hinv
     simp -implicitDefEqProofs only[go_sem,Tr.row,Jd,hg,Nd.cv,hxl,d2]
     refine ⟨by omega,Jj,i+1,⟨by omega,by simpa using hinv⟩,by omega,?_⟩
     simp[forget,Tr.row]
  ·have d1:((i:Int) < (t.nodes.length:Int))=False:=Jn
   rw[Gq (by omega)]at hinv
   simp -implicitDefEqProofs only[go_sem,Tr.row,Jd,d1,hinv,QE]
theorem ord_take {t:Tr}{o:List Int}(g:GoodT t o):Js ((JC t.nodes).take t.nodes.length) []=some o:=by
 rw[Gp (by rw[Qy]; exact Gf _)]; exact g.ord.h
theorem refIsBelow (t:Tr) (ht:t.Fit) {o:List Int}(g:GoodT t o) (a:Int) (i:Nat) (hi:i < t.nodes.length):Fn Gc 66 [t.cv,.int .i64 a,.int .i64 i] (.bool (decide (a≤i) && decide (fs o i≤a))):=by
 refine Jb c66_ok rfl rfl fun N=>?_
 by_cases h:a≤(i:Int)
 ·have d1:(a≤(i:Int))=True:=eq_true h
  simp -implicitDefEqProofs only[c66,go_sem,Tr.cv,Tr.row,d1]
  refine JP (gok rfl) (refFirst t (ord_take g) (Gf _) i hi) ?_
  simp -implicitDefEqProofs only[go_sem]
 ·have d1:(a≤(i:Int))=False:=eq_false h
  simp -implicitDefEqProofs only[c66,go_sem,Tr.cv,Tr.row,d1]
def kid (x:Nd) (i:Nat):Int:=x.kids.getD i 0
end Go.Cm
end
section
namespace Go.Cm
section
def flat (o:CObj):Prop:=o=.dead∨∃ z els,o=.arr z els∧Jw els=true
section
variable {P:Program}{E:Env}{H:List CObj}
theorem Jb1 {α:Type}{a b:List α}{k:Nat}{x:α}(h:(a++b)[k]? = some x):(k < a.length∧a[k]? = some x)∨∃ j,k=a.length+j∧b[j]? = some x:=by
 rcases Gy k a.length with hlt | hge
 ·rw[GN hlt]at h; exact .inl ⟨hlt,h⟩
 ·rw[GM hge]at h; exact .inr ⟨k-a.length,by omega,h⟩
theorem app_get2 {α:Type}{a b:List α}{j:Nat}:(a++b)[a.length+j]? = b[j]?:=by
 rw[GM (by omega)]; congr 1; omega
theorem CallsC.frameG {f:Nat}{args:List CV}{G:List CObj}{mk:Nat→CV}(h:CallsC P Env.none f args [] fun v H'=>v=mk 0∧H'=G) (ha:Jr args=true) (hG:∀ o∈G,flat o)
  (hmk:∀ (n:Nat) (own own':List Own) imm r,(∀ (k:Nat) x,own[k]? = some x→own'[n+k]? = some x)→rel own imm (mk 0) r→rel own' imm (mk n) r):CallsC P E f args H fun v H'=>v=mk H.length∧H'=H++G:=by
 intro m w vs hs hv
 refine (h _ w vs hs.nothing (Kv _ _ ha hv)).mono ?_
 rintro e w' ⟨r,m',v,H',rfl,hext,hs',hrel,rfl,rfl⟩
 obtain ⟨h1,h2⟩:=hs.back hext hs'
 have hno:∀ B,¬ owned { own:=[],imm:=m.imm,ext:=fun _=>False } [] B:=by
  rintro B (h | ⟨k,o,x,hk,_⟩)
  ·exact h
  ·simp at hk
 have hlen:m.own.length=H.length:=hs.len
 have hold:∀ (k:Nat) o x,H[k]? = some o→o.alive=true→m.own[k]? = some x→x.B < w.heap.size:=fun k o x hk hal hx=>Yw hs hk hal hx
 have hnewB:∀ (k:Nat) o x,H'[k]? = some o→o.alive=true→m'.own[k]? = some x→w.heap.size≤x.B:=fun k o x hk hal hx=>
  (hext.newOwn x.B (.inr ⟨k,o,x,hk,hal,hx,rfl⟩)).resolve_left (hno _)
 have two:∀ (k:Nat) o x,(H++H')[k]? = some o→(m.own++m'.own)[k]? = some x→(k < H.length∧H[k]? = some o∧m.own[k]? = some x)∨∃ j,k=H.length+j∧H'[j]? = some o∧m'.own[j]? = some x:=by
  intro k o x hk hx
  rcases Jb1 hk with ⟨hlt,hk2⟩ | ⟨j,rfl,hk2⟩
  ·rw[GN (by omega)]at hx; exact .inl ⟨hlt,hk2,hx⟩
  ·rw[← hlen,app_get2]at hx; exact .inr ⟨j,rfl,hk2,hx⟩
 have hle:=Ky.append m.own m'.own
 refine ⟨r,{ m with own:=m.own++m'.own,imm:=m'.imm },mk H.length,H++H',rfl,?_,?_,?_,rfl,rfl⟩
 ·have hE:=h2 H.length
  refine ⟨hE.size,hE.frame,hE.imm,?_,hE.newImm,fun k x _ hx=>hle _ _ hx,fun h=>by simp; omega,hE.same⟩
  rintro B (hB | ⟨k,o,x,hk,hal,hx,rfl⟩)
  ·exact .inl (.inl hB)
  ·rcases two k o x hk hx with ⟨_,hk,hx⟩ | ⟨j,_,hk,hx⟩
   ·exact .inl (.inr ⟨k,o,x,hk,hal,hx,rfl⟩)
   ·exact .inr (hnewB j o x hk hal hx)
 ·refine ⟨by simp[hs.len,hs'.len],fun k o x hk hx=>?_,h1.imm,h1.one,fun k k' o o' x x' hk hk' ha ha' hx hx' hB=>?_,fun k o x hk hal hx=>?_,fun k s b hk=>?_,fun k o x hk hal hx=>?_,h1.extlt,h1.gl⟩
  ·rcases two k o x hk hx with ⟨_,hk,hx⟩ | ⟨j,_,hk,hx⟩
   ·exact Km hle (Ki.refl _) (fun _=>rfl) (h1.obj k o x hk hx)
   ·have ho:=hs'.obj j o x hk hx
    rcases hG o (GQ hk) with rfl | ⟨z,els,rfl,hc⟩
    ·trivial
    ·obtain ⟨hz,c,elem,g1,g2,g3,g4,g5⟩:=ho
     exact ⟨hz,c,elem,g1,g2,g3,fun j e he=>⟨(g4 j e he).1,fun t c hc2=>let ⟨r,q1,q2⟩:=(g4 j e he).2 t c hc2; ⟨r,q1,KR c r (XU (XC hc _ _ he) _ _ hc2) q2⟩⟩,g5⟩
  ·rcases two k o x hk hx with ⟨_,hk,hx⟩ | ⟨j,rfl,hk,hx⟩ <;> rcases two k' o' x' hk' hx' with ⟨_,hk',hx'⟩ | ⟨j',rfl,hk',hx'⟩
   ·exact h1.sep k k' o o' x x' hk hk' ha ha' hx hx' hB
   ·have a1:=hold k o x hk ha hx
    have a2:=hnewB j' o' x' hk' ha' hx'
    omega
   ·have a1:=hold k' o' x' hk' ha' hx'
    have a2:=hnewB j o x hk ha hx
    omega
   ·rw[hs'.sep j j' o o' x x' hk hk' ha ha' hx hx' hB]
  ·rcases two k o x hk hx with ⟨_,hk,hx⟩ | ⟨j,rfl,hk,hx⟩
   ·exact h1.ro k o x hk hal hx
   ·exact hs'.ro j o x hk hal hx
  ·rcases Jb1 hk with ⟨_,hk2⟩ | ⟨j,rfl,hk2⟩
   ·exact h1.ext k s b hk2
   ·rcases hG _ (GQ hk2) with h | ⟨z,els,h,_⟩ <;> cases h
  ·rcases two k o x hk hx with ⟨_,hk,hx⟩ | ⟨j,rfl,hk,hx⟩
   ·exact h1.extsep k o x hk hal hx
   ·intro hB
    have a1:=hnewB j o x hk hal hx
    have a2:=hs.extlt x.B hB
    omega
 ·exact hmk H.length m'.own (m.own++m'.own) m'.imm r (fun k x hk=>by rw[← hlen,app_get2]; exact hk) hrel
theorem KG {id z:Nat}{e:List (List CV)}:∀ {els:List (List CV)},Jw els=true→els.map (JS id z e)=els
 |[],_=>rfl
 |x::xs,h=>by
  simp only[Jw,Gn]at h
  rw[Gh,KY _ h.1,KG h.2]
theorem Fn.args {f:Nat}{args args':List CV}{v:CV}(h:Fn P f args v) (hw:wks args' args):Fn P f args' v:=fun E H m w vs hs hv=>h E H m w vs hs (Jaq hw hv)
theorem rowV_shift {els:List (List CV)}(i n:Nat) {own own':List Own}{imm:Nat→Nat→Option Value}{r:Value}(ho:∀ (k:Nat) x,own[k]? = some x→own'[n+k]? = some x) (h:rel own imm (K5 i els) r):rel own' imm (K5 (n+i) els) r:=by
 cases els with
 |nil=>exact h
 |cons e l=>
  simp only[K5,rel]at h ⊢
  obtain ⟨x,a,c,hx,g⟩:=h
  exact ⟨x,a,c,ho _ _ hx,g⟩
theorem rowO_flat {z:Nat}{els:List (List CV)}(h:Jw els=true):flat (Qm z els):=by
 cases els with
 |nil=>exact .inl rfl
 |cons e l=>exact .inr ⟨_,_,rfl,h⟩
theorem rowV_one {id:Nat}{els:List (List CV)}:(K5 id els).oneCell=true:=by cases els <;> rfl
attribute [go_sem ↓] rowV_one
theorem Jbr {id z j:Nat}{e els:List (List CV)}(h:j≠id):frz id z e (K5 j els)=K5 j els:=by
 cases els with
 |nil=>rfl
 |cons x l=>simp only[K5,frz]; rw[if_neg h]
theorem Jaa {id z y:Nat}{e els:List (List CV)}(h:Jw els=true):KI id z e (Qm y els)=Qm y els:=by
 cases els with
 |nil=>rfl
 |cons x l=>simp only[Qm,KI]; rw[KG h]
inductive Frzs (v0:CV):CV→List CObj→Prop
 |done {v:CV} {H:List CObj}:wk v v0→Frzs v0 v H
 |step {v:CV} {H:List CObj} (id z:Nat) (els:List (List CV)):H[id]? = some (.arr z els)→Jw els=true→Frzs v0 (frz id z els v) (Kb id z els H)→Frzs v0 v H
theorem QR {f:Nat}{args:List CV}{v0:CV}(h:CallsC P Env.none f args [] fun v H'=>Frzs v0 v H') (ha:Jr args=true) (hv:v0.closed=true):Fn P f args v0:=by
 refine fn_of ?_ ha hv
 intro m w vs hs hvs
 refine (h m w vs hs hvs).mono ?_
 rintro e w' ⟨r,m',v,H',h1,h2,h3,h4,g⟩
 subst h1
 induction g generalizing m' with
 |done hw=>exact ⟨r,m',v0,_,rfl,h2,h3,hw _ _ _ h4,rfl⟩
 |step id z els g1 g2 _ ih=>
  obtain ⟨imm',hs',he,hf⟩:=Sim.freeze (n0:=([]:List CObj).length) h3 g1 g2
  exact ih _ (h2.trans he) hs' (hf _ _ h4)
def Jb2 (P:Program) (f:Nat) (args:List CV) (z:Nat) (els:List (List CV)):Prop:=∀ (E:Env) (H:List CObj),CallsC P E f args H fun v H'=>v=K5 H.length els∧H'=H++[Qm z els]
theorem Jfr {f:Nat}{args:List CV}{z:Nat}{els:List (List CV)}(h:CallsC P Env.none f args [] fun v H'=>∃ id,v=K5 id els∧H'[id]? = some (Qm z els)) (ha:Jr args=true) (hc:Jw els=true):Jb2 P f args z els:=fun E H=>by
 refine CallsC.frameG (mk:=fun n=>K5 n els) (G:=[Qm z els]) (h.ren fun v H' ⟨id,hv,hH⟩=>⟨[id],?_,?_,?_⟩) ha (fun o ho=>by simp only[Gu]at ho; rw[ho]; exact rowO_flat hc) fun n own own' imm r ho h=>rowV_shift 0 n ho h
 ·have:=(Gz.1 hH).1
  simp[Je4,this]
 ·rw[hv]; exact Kr (by simp[ren,Jk])
 ·simp only[J5,Gh,Gj,Ga,hH,Option.getD_some]
  cases els with
  |nil=>rfl
  |cons e l=>
   have:=Ja (ρ:=[id]) hc
   simp only[Qm,Ji,this]
theorem Jb2.fn {f:Nat}{args:List CV}{z:Nat}{els:List (List CV)}(h:Jb2 P f args z els) (ha:Jr args=true) (hc:Jw els=true):Fn P f args (.rslc z els none):=
 Jet ((h Env.none []).mono fun v H' ⟨h1,h2⟩=>⟨0,h1,by rw[h2]; rfl⟩) ha hc
end
section
variable {P:Program}{E:Env}{n0:Nat}{N:Fr}{Q:Exit→List CV→List CObj→Prop}{H:List CObj}{T:List CV}{k:List KItem}{l:List IOper}{es:List (List Nat)}
theorem JdR {d:Option Nat}{g:Option (Nat×Bool)}{f:Nat}{xa:List IArg}{l:List IOper}{z:Nat}{els:List (List CV)}(hg:GOk T g) (hcall:Jb2 P f (xa.map (J9 T)) z els) (h:Kk P E n0 N Q (.ops l::k) (put T d (K5 H.length els)) (H++[Qm z els])):Ok P E n0 N Q (.ops (⟨d,.call f xa,g⟩::l)::k) T H:=
 JY hg (hcall E H) fun v H' ⟨h1,h2⟩=>by rw[h1,h2]; exact h
def JdC (P:Program) (E:Env) (n0:Nat) (N:Fr) (Q:Exit→List CV→List CObj→Prop) (k:List KItem) (l:List IOper) (es:List (List Nat)) (T:List CV) (H:List CObj):Prop:=∀ is,Sched l.length es (fun _=>false) is→Ok P E n0 N Q (.ops (is.map (QD l))::k) T H
theorem JeK (hm:P.follows .mixedOrders=true) (h:JdC P E n0 N Q k l es T H):Ok P E n0 N Q (.code (.dreg l es)::k) T H:=ok_draw hm h
theorem Jby (i j:Nat) (hb:(!(i == j) && decide (i < es.length) && decide (j < es.length))=true) (h1:JdC P E n0 N Q k l (Yy es j i) T H) (h2:JdC P E n0 N Q k l (Yy es i j) T H):JdC P E n0 N Q k l es T H:=by
 intro is hs
 simp only[Gn,Bool.not_eq_true',beq_eq_false_iff_ne,decide_eq_true_eq]at hb
 rcases Jd3 hb.1.1 hb.1.2 hb.2 hs rfl rfl with h | h
 ·exact h1 is h
 ·exact h2 is h
theorem Xn (bs:List Bool) (T':List CV) (H':List CObj) (hord:(l.length == bs.length && (Jal l.length es (clo es) && KT l (clo es) (bs.map Qj)))=true) (hfin:Ok P E n0 N Q k T' H') (h:vdk P E (leads P E n0 N Q T' H') l bs T H):JdC P E n0 N Q k l es T H:=
 fun _ hs=>JcJ hord h hfin hs
def pm (p:List Nat) (a:Nat):Nat:=p.getD a a
theorem pm_out {p:List Nat}{a:Nat}(h:p.length≤a):pm p a=a:=by
 unfold pm; rw[Ga,List.getElem?_eq_none h]; rfl
def Jcb (n:Nat) (p q:List Nat):Bool:=p.length == n && q.length == n && (List.range n).all fun a=>decide (pm p a < n) && decide (pm q a < n) && pm q (pm p a) == a && pm p (pm q a) == a
theorem sched_perm {n:Nat}{p q:List Nat}(hb:Jcb n p q=true) {es2:List (List Nat)}(he:∀ a,a < n→es2.getD a []=(es.getD (pm p a) []).map (pm q)) {S:Nat→Bool}{is:List Nat}(h:Sched n es S is):Sched n es2 (fun a=>S (pm p a)) (is.map (pm q)):=by
 simp only[Jcb,Gn,beq_iff_eq,Gv,GZ,decide_eq_true_eq]at hb
 obtain ⟨⟨hpl,hql⟩,hall⟩:=hb
 have hqp:∀ a,pm p (pm q a)=a:=fun a=>by
  rcases Gy a n with h | h
  ·exact (hall a h).2
  ·rw[pm_out (p:=q) (by omega),pm_out (by omega)]
 have hpq:∀ a,pm q (pm p a)=a:=fun a=>by
  rcases Gy a n with h | h
  ·exact (hall a h).1.2
  ·rw[pm_out (p:=p) (by omega),pm_out (by omega)]
 induction h with
 |nil hn=>
  refine .nil fun a ha hS=>?_
  obtain ⟨e,h1,h2⟩:=hn _ (hall a ha).1.1.1 hS
  exact ⟨pm q e,by rw[he a ha]; exact List.mem_map_of_mem h1,by rw[hqp]; exact h2⟩
 |cons ha hS hr _ ih=>
  rename_i S a is _
  refine .cons (hall a ha).1.1.2 (by rw[hqp]; exact hS) (fun e hm=>?_) ?_
  ·rw[he _ (hall a ha).1.1.2,hqp]at hm
   obtain ⟨e',h1,rfl⟩:=List.mem_map.1 hm
   rw[hqp]; exact hr e' h1
  ·have e:(fun b=>S (pm p b) || b == pm q a)=fun b=>S (pm p b) || pm p b == a:=by
    funext b
    congr 1
    by_cases h:b=pm q a
    ·subst h; rw[hqp]; simp
    ·have:pm p b≠a:=fun hh=>h (by rw[← hh,hpq])
     rw[beq_false_of_ne h,beq_false_of_ne this]
   rw[e]; exact ih
theorem sched_mem {n : Nat} {S : Nat → Bool} {is : List Nat} (h : Sched n es S is) : ∀ a ∈ is, a < n := by
  induction h with
  | nil _ => intro a ha; cases ha
  | cons h _ _ _ ih => intro a ha; rcases G5.1 ha with h' | h'
                       · subst h'; exact h
                       · exact ih a h'
def prl (p:List Nat) (l:List IOper):List IOper:=p.map fun a=>QD l a
def pre (p q:List Nat) (es:List (List Nat)):List (List Nat):=p.map fun a=>(es.getD a []).map (pm q)
theorem Jbx (p q:List Nat) (hb:Jcb l.length p q=true) (h:JdC P E n0 N Q k (prl p l) (pre p q es) T H):JdC P E n0 N Q k l es T H:=by
 intro is hs
 have hb2:=hb
 simp only[Jcb,Gn,beq_iff_eq,Gv,GZ,decide_eq_true_eq]at hb2
 obtain ⟨⟨hpl,hql⟩,hall⟩:=hb2
 have hlen:(prl p l).length=l.length:=by rw[prl,List.length_map]; exact hpl
 have hs2:=sched_perm hb (es2:=pre p q es) (fun a ha=>by
  unfold pre pm
  rw[Ga,GU,Gb (by omega)]
  simp[Ga,Gb (show a < p.length by omega)]) hs
 rw[← hlen]at hs2
 have:=h _ hs2
 have e:(is.map (pm q)).map (QD (prl p l))=is.map (QD l):=by
  rw[List.map_map]
  refine List.map_congr_left fun a ha=>?_
  have hal:=sched_mem hs a ha
  have h1:=(hall a hal).1.1.2
  have h2:=(hall a hal).2
  simp only[Function.comp]
  unfold prl QD
  rw[Ga,GU,Gb (by omega)]
  simp only[Option.map_some,Option.getD_some]
  have e2:p[pm q a]'(by omega)=a:=by
   unfold pm at h2 ⊢
   rw[Ga,Gb (by simpa [pm]using (by omega:pm q a < p.length))]at h2
   exact h2
  rw[e2]
 rw[e]at this
 exact this
end
end
end Go.Cm
end
section
set_option maxRecDepth 100000
set_option maxHeartbeats 4000000
open Go.Proofs
namespace Go.Cm
theorem rowN {l:List Nd}{i:Nat}(h:i < l.length):l.getD i default=l[i]:=by rw[Ga,Gb h]; rfl
theorem GoodT.item {t:Tr}{o:List Int}(g:GoodT t o) {i:Nat}(hi:i < t.items.length):∃ L F:Nat,t.items.getD i 0=(L:Int)∧fs o L=(F:Int)∧F≤L∧L < t.nodes.length∧o.length=t.nodes.length∧o.getD L 0=(F:Int):=by
 have hol:o.length=t.nodes.length:=by rw[g.ord.len,Qy]
 have hm:t.items.getD i 0∈t.items:=by
  rw[Ga,Gb hi]; exact Gd hi
 obtain ⟨_,h2,h3,h4⟩:=Qg g.ord.ok hol _ _ _ g.its _ hm
 obtain ⟨h5,h6⟩:=Jfo g.ord.ok h2 (by omega)
 generalize t.items.getD i 0=L at *
 obtain ⟨L,rfl⟩:∃ n:Nat,L=(n:Int):=⟨L.toNat,by omega⟩
 exact ⟨L,(fs o L).toNat,rfl,by omega,by omega,by omega,hol,by rw[show o.getD L 0=fs o (L:Int) by simp[fs]]; omega⟩
theorem GoodT.itr {t:Tr}{o:List Int}(g:GoodT t o) {i:Int}(hi:i∈t.items):0≤i∧i < t.nodes.length:=by
 have hol:o.length=t.nodes.length:=by rw[g.ord.len,Qy]
 obtain ⟨_,h2,h3,h4⟩:=Qg g.ord.ok hol _ _ _ g.its _ hi
 exact ⟨h2,h4⟩
end Go.Cm
end
section
namespace Go.Cm
section
theorem chain_app {o:List Int}{m:Nat}:∀ (x y:List Int) (a e:Int),chain o m a (x++y) e↔∃ c,chain o m a x c∧chain o m c y e
 |[],y,a,e=>by simp[chain]
 |i::x,y,a,e=>by
  simp only[GD,chain,chain_app x y]
  constructor
  ·rintro ⟨h1,c,h2,h3⟩; exact ⟨c,⟨h1,h2⟩,h3⟩
  ·rintro ⟨c,⟨h1,h2⟩,h3⟩; exact ⟨h1,c,h2,h3⟩
theorem fixA_at {α:Type}{q:α→Bool}:∀ (l:List α) (i:Nat),QE q l i = -1∧(∀ x∈l,q x=false)∨∃ j x,QE q l i=((i+j:Nat):Int)∧l[j]? = some x∧q x=true:=by
 intro l
 induction l with
 |nil=>intro i; exact .inl ⟨rfl,by simp⟩
 |cons y l ih=>
  intro i
  simp only[QE]
  cases hq:q y with
  |true=>exact .inr ⟨0,y,by simp,rfl,hq⟩
  |false=>
   rcases ih (i+1) with ⟨h1,h2⟩ | ⟨j,x,h1,h2,h3⟩
   ·exact .inl ⟨by simpa using h1,fun x hx=>by
     rcases G5.1 hx with rfl | hx
     ·exact hq
     ·exact h2 x hx⟩
   ·exact .inr ⟨j+1,x,by rw[show i+(j+1)=i+1+j by omega]; simpa using h1,by simpa using h2,h3⟩
section
variable {t:Tr}{o:List Int}(g:GoodT t o)
def endI (t:Tr):Nat→Nat
 |0=>0
 |i+1=>(t.items.getD i 0).toNat+1
include g
theorem Y4:∀ i,i≤t.items.length→chain o t.nodes.length 0 (t.items.take i) (endI t i)∧chain o t.nodes.length (endI t i) (t.items.drop i) t.nodes.length:=by
 intro i hi
 have h:=g.its
 rw[← List.take_append_drop i t.items,chain_app]at h
 obtain ⟨c,h1,h2⟩:=h
 have hc:c=(endI t i:Int):=by
  cases i with
  |zero=>simp[chain]at h1; simp[endI,h1]
  |succ i=>
   rw[Jat (d:=0) (by omega),JaA]at h1
   simp only[endI]
   omega
 rw[hc]at h1 h2
 exact ⟨h1,h2⟩
theorem item_at {i:Nat}(hi:i < t.items.length):∃ L:Nat,t.items.getD i 0=(L:Int)∧fs o L=(endI t i:Int)∧endI t i≤L∧L < t.nodes.length∧endI t (i+1)=L+1:=by
 obtain ⟨L,F,hL,hFs,hFL,hLn,hol,hoL⟩:=g.item hi
 have h:=(Y4 g i (by omega)).2
 have e0:t.items.drop i=t.items.getD i 0::t.items.drop (i+1):=by
  rw[Gt hi,Ga,Gb hi]; rfl
 rw[e0,hL]at h
 simp only[chain,GK]at h
 have:(F:Int)=endI t i:=by rw[← hoL]; exact h.1.2.2
 refine ⟨L,hL,by rw[hFs]; exact this,by omega,hLn,?_⟩
 simp only[endI,hL,GK]
theorem par_in:∀ (N n:Nat),N < t.nodes.length→fs o N≤n→n < N→∃ m:Nat,n < m∧m≤N∧(n:Int)∈(t.nodes.getD m default).kids:=by
 intro N
 induction N using Nat.strongRecOn with
 |_ N ih=>
  intro n hN h1 h2
  have hK:=J3 hN
  obtain ⟨c,hc,h3,h4⟩:=QS g.ord.ok rfl _ _ _ (n:Int) (g.ord.kids hK) h1 (by omega)
  have hr:=g.ord.kid_rng hK hc
  by_cases he:c=n
  ·subst he; exact ⟨N,h2,Gf _,hc⟩
  ·obtain ⟨c,rfl⟩:∃ k:Nat,c=(k:Int):=⟨c.toNat,by omega⟩
   obtain ⟨m,q1,q2,q3⟩:=ih c (by omega) n (by omega) h3 (by omega)
   exact ⟨m,q1,by omega,q3⟩
def Kg (t:Tr) (n:Nat):Int:=QE (fun x:Nd=>x.kids.contains (n:Int)) t.nodes 0
theorem QK {n:Nat}(hn:n < t.nodes.length):(Kg t n = -1∧∀ m:Nat,m < t.nodes.length→(n:Int)∉(t.nodes.getD m default).kids)∨∃ m:Nat,Kg t n=(m:Int)∧n < m∧m < t.nodes.length∧(n:Int)∈(t.nodes.getD m default).kids:=by
 rcases fixA_at (q:=fun x:Nd=>x.kids.contains (n:Int)) t.nodes 0 with ⟨h1,h2⟩ | ⟨j,x,h1,h2,h3⟩
 ·refine .inl ⟨h1,fun m hm hk=>?_⟩
  have:=h2 (t.nodes.getD m default) (by rw[rowN hm]; exact Gd hm)
  simp only[GR,decide_eq_false_iff_not]at this
  exact this hk
 ·have hj:=(Gz.1 h2).1
  have hx:t.nodes.getD j default=x:=by rw[Ga,h2]; rfl
  simp only[GR,decide_eq_true_eq]at h3
  rw[← hx]at h3
  have:=g.kid hj h3
  exact .inr ⟨j,by rw[Gr]at h1; exact h1,by omega,hj,h3⟩
end
end
end Go.Cm
end
end
