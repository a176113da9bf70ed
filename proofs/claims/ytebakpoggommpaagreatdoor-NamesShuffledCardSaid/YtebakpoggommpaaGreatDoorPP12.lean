/-
  A part of the proof. Conditions: none.
-/
import Derived.Test.YtebakpoggommpaaGreatDoorPPkRK
import Derived.Test.YtebakpoggommpaaGreatDoorPPkRF
import Derived.Lib.Join
import Derived.Lib.ItoaLen
set_option linter.unusedSimpArgs false
set_option linter.unusedVariables false
open Go.Proofs.Tryz renaming prog→Gd
open Int renaming cast_ofNat_Int→Gy,toNat_natCast→GM,add_zero→GN
open Nat renaming le_refl→Gh,zero_add→Gn,lt_or_ge→Gz
open List renaming getD_eq_getElem?_getD→Gb,getElem?_eq_getElem→Ga,getElem_mem→Gc,getElem?_eq_some_iff→Gj,length_cons→Gf,take_length→Gi,take_succ_eq_append_getElem→Gu,length_nil→Gl,getElem?_map→Gp,mem_of_getElem?→Gr,getElem?_append_left→Gv,map_cons→Gm,take_of_length_le→Gw,all_eq_true→Gs,getElem?_append_right→GA,mem_singleton→Gx,map_nil→Gt,length_take→GD,cons_append→GG,mem_append→GH,drop_zero→GI,mem_cons→GJ,contains_eq_mem→GQ,getElem?_drop→GR,any_eq_false→GU,all_eq_false→GV,nil_append→GX,foldl_cons→GY,mem_range→GZ
open Bool renaming and_eq_true→Gg,true_and→Gq,and_eq_false_iff→GK,false_and→GL,or_eq_false_iff→G5
noncomputable section
section
set_option maxRecDepth 100000
set_option maxHeartbeats 40000000
open Go.Proofs
namespace Go.Cm
theorem refKin28 (t:Tr) (x:Nd) (hx:x.Fit) (hm:t.nodes.length≤1400) (hn:∀ y∈t.nodes,y.k < 256) (hk:∀ k∈x.kids,0≤k∧k < t.nodes.length) (h28:x.k=28) :
  Fn Gd 44 [t.cv,.agg x.cv] (.bool (KX x.k x.n (lets t.nodes x))):=by
 have hkn:=hx.kidn
 have hll:=QF (l:=t.nodes) (x:=x)
 have hK:∀ (c:Nat) (b:UInt8),(c,b)∈([(200,101),(201,116),(202,99),(40,66),(41,83),(42,98),(43,73),(44,78),(45,71),(48,79),(64,80)]:List (Nat×UInt8))→∀ p q:Int,Fn Gd 98 [t.cv,.agg x.cv,.int .i64 p,.int .i64 q,.int .u8 c] (.bool (JQ (lets t.nodes x) p q b)):=by
  intro c b hcb p q
  have:=refKids t x hx hm hk p q c
  rw[kids_conv hn hk (fun k h=>cls_all ⟨k,h⟩ (c,b) hcb)]at this
  exact this
 have hM:=refMany t x hx hk 41
 rw[JdN (b:=83) hn hk (fun k h=>(let_all ⟨k,h⟩).1)]at hM
 have hc83:K9 83 (lets t.nodes x)≤30:=Nat.le_trans (cntB_le _ _) (by omega)
 have K200:=hK 200 101 (by decide)
 have K41:=hK 41 83 (by decide)
 have K43:=hK 43 73 (by decide)
 have K44:=hK 44 78 (by decide)
 have K45:=hK 45 71 (by decide)
 simp only[Gy]at K200 K41 K43 K44 K45 hM
 obtain ⟨k,text,n,kids,pl⟩:=x
 simp only at h28
 subst h28
 generalize lets t.nodes ⟨28,text,n,kids,pl⟩=hv at hll K200 K41 K43 K44 K45 hM hc83 ⊢
 obtain ⟨cs,hcs⟩:∃ cs:Int,cs=(K9 83 hv:Int):=⟨_,rfl⟩
 rw[← hcs]at hM
 simp only[Nd.cv,Tr.cv,Tr.row]at hkn hll K200 K41 K43 K44 K45 hM ⊢
 clear hK
 obtain ⟨m,hmm⟩:∃ m:Int,m=(kids.length:Int):=⟨_,rfl⟩
 refine Jc c44_ok rfl rfl fun N=>?_
 simp (maxSteps:=2000000) -implicitDefEqProofs only[c44,go_sem,Jd,Gy,← hmm]
 refine JX hM ?_
 by_cases h0:0≤n
 ·have f0:((0:Int)≤n)=True:=eq_true h0
  by_cases h1:n < m
  ·have f1:(n < m)=True:=eq_true h1
   simp (maxSteps:=2000000) -implicitDefEqProofs only[go_sem,Jd,← hmm,f0,f1]
   have hkk:KX 28 n hv=(JQ hv 0 n 73 && JQ hv n (n+1) 101 && JQ hv (n+1) (n+1+cs) 83 && JQ hv (n+1+cs) (m-1) 78 && JQ hv (m-1) m 71):=by
    simp[KX,hll,← hmm,← hcs,h0,h1]
   rw[hkk]
   refine JW (gok rfl) (K43 (0) n) ?_
   cases g0:JQ hv (0) n 73 with
   |false=>simp (maxSteps:=2000000) -implicitDefEqProofs only[go_sem,Jd,← hmm]; try simp
   |true=>
    simp (maxSteps:=2000000) -implicitDefEqProofs only[go_sem,Jd,← hmm]
    refine ⟨Jl,?_⟩
    refine JW (gok rfl) (K200 (n) (n+1)) ?_
    cases g1:JQ hv (n) (n+1) 101 with
    |false=>simp (maxSteps:=2000000) -implicitDefEqProofs only[go_sem,Jd,← hmm]; try simp
    |true=>
     simp (maxSteps:=2000000) -implicitDefEqProofs only[go_sem,Jd,← hmm]
     refine ⟨Jl,?_⟩
     refine ⟨Jl,?_⟩
     refine ⟨Jl,?_⟩
     refine JW (gok rfl) (K41 (n+1) (n+1+cs)) ?_
     cases g2:JQ hv (n+1) (n+1+cs) 83 with
     |false=>simp (maxSteps:=2000000) -implicitDefEqProofs only[go_sem,Jd,← hmm]; try simp
     |true=>
      simp (maxSteps:=2000000) -implicitDefEqProofs only[go_sem,Jd,← hmm]
      refine ⟨Jl,?_⟩
      refine ⟨Jl,?_⟩
      refine ⟨Jl,?_⟩
      refine JW (gok rfl) (K44 (n+1+cs) (m-1)) ?_
      cases g3:JQ hv (n+1+cs) (m-1) 78 with
      |false=>simp (maxSteps:=2000000) -implicitDefEqProofs only[go_sem,Jd,← hmm]; try simp
      |true=>
       simp (maxSteps:=2000000) -implicitDefEqProofs only[go_sem,Jd,← hmm]
       refine ⟨Jl,?_⟩
       refine JW (gok rfl) (K45 (m-1) m) ?_
       cases g4:JQ hv (m-1) m 71 with
       |false=>simp (maxSteps:=2000000) -implicitDefEqProofs only[go_sem,Jd,← hmm]; try simp
       |true=>
        simp (maxSteps:=2000000) -implicitDefEqProofs only[go_sem,Jd,← hmm]
        try simp
  ·have f1:(n < m)=False:=eq_false h1
   simp (maxSteps:=2000000) -implicitDefEqProofs only[go_sem,Jd,← hmm,f0,f1]
   simp[KX,hll,← hmm,h1]
 ·have f0:((0:Int)≤n)=False:=eq_false h0
  simp (maxSteps:=2000000) -implicitDefEqProofs only[go_sem,Jd,← hmm,f0]
  simp[KX,h0]
end Go.Cm
end
section
open Go.Shelf Go.RowKit Go.Proofs
namespace Go.Proofs
open Go.Cm in
set_option maxHeartbeats 4000000 in
set_option maxRecDepth 100000 in
theorem Tryz.kinMax_walk (ta tb:Value) (s:ByteArray) (b:Option Addr) (len cap:Nat) (pl:Int) (hl:len≤1000) (w:World) :
  Calls Gd 44 #[.agg #[ta,tb],.agg #[.int .u8 41,.string s,.int .i64 9223372036854775807,.slice b len cap,.int .i64 pl]] w fun e w'=>e=.returned (.bool false)∧Below w.heap.size w w':=by
 have hw:wrap64 9223372036854775808 = -9223372036854775808:=by decide +kernel
 have hne:¬ ((len:Int)=wrap64 9223372036854775808):=by omega
 go_enter Tryz.func44,Tryz.ntmps44
 go_wp2
 all_goals first
  |(exfalso; omega)
  |skip
 go_ret
 exact ⟨rfl,((Below.refl _ _).alloc (Gh _) _).alloc (show _≤(w.heap.push _).size by rw[Array.size_push]; omega) _⟩
end Go.Proofs
namespace Go.Cm
theorem refKinMax (t:Tr) (x:Nd) (hx:x.Fit) (h41:x.k=41) (hm:x.n=9223372036854775807):Fn Gd 44 [t.cv,.agg x.cv] (.bool (KX x.k x.n (lets t.nodes x))):=by
 have hkn:=hx.kidn
 have hll:=QF (l:=t.nodes) (x:=x)
 have hf:KX x.k x.n (lets t.nodes x)=false:=by
  rw[h41,hm]
  have:((lets t.nodes x).length:Int)≠9223372036854775808:=by omega
  simp[KX,this]
 rw[hf]
 intro E H
 refine KF fun m w vs hs hv=>?_
 obtain ⟨k,text,n,kids,pl⟩:=x
 simp only at h41 hm
 subst h41 hm
 simp only[JK,rel,Tr.cv,Tr.row,Nd.cv]at hv
 obtain ⟨r,rs,e,⟨v1,rfl,ra,ras,e1,-,rb,rbs,e2,-,e3⟩,x,xs,e4,⟨v2,rfl,y1,ys1,f1,g1,y2,ys2,f2,g2,y3,ys3,f3,g3,y4,ys4,f4,g4,y5,ys5,f5,g5,f6⟩,e5⟩:=hv
 have hvs:vs=#[.agg v1,.agg v2]:=by cases vs; simp_all
 have h1:v1=#[ra,rb]:=by cases v1; simp_all
 have h2:v2=#[y1,y2,y3,y4,y5]:=by cases v2; simp_all
 subst hvs h1 h2 g1 g2 g3 g5
 have h4:∃ b c,y4=.slice b kids.length c:=by
  rcases g4 with ⟨-,h,b,rfl⟩ | ⟨B,o,c,rfl,-⟩
  ·have:kids.length=0:=by rw[← Jd (l:=kids),h]; rfl
   exact ⟨b,0,by rw[this]⟩
  ·exact ⟨_,c,by rw[Jd]⟩
 obtain ⟨b,c,rfl⟩:=h4
 exact ⟨_,Tryz.kinMax_walk ra rb ⟨⟨text⟩⟩ b kids.length c pl (by simp only at hkn; omega) w,rfl⟩
theorem refKin (t:Tr) (x:Nd) (hx:x.Fit) (hm:t.nodes.length≤1400) (hn:∀ y∈t.nodes,y.k < 256) (hk:∀ k∈x.kids,0≤k∧k < t.nodes.length):Fn Gd 44 [t.cv,.agg x.cv] (.bool (KX x.k x.n (lets t.nodes x))):=by
 by_cases h28:x.k=28
 ·exact refKin28 t x hx hm hn hk h28
 ·by_cases h41:x.k=41∧x.n=9223372036854775807
  ·exact refKinMax t x hx h41.1 h41.2
  ·exact refKin1 t x hx hm hn hk (fun h=>by
   have h5:x.n≤9223372036854775807:=hx.n.2
   have h6:x.n≠9223372036854775807:=fun e=>h41 ⟨h,e⟩
   omega) h28
end Go.Cm
end
section
set_option maxRecDepth 100000
set_option maxHeartbeats 4000000
open Go.Proofs
namespace Go.Cm
def mD (d:List Int) (ks:List Int):Int:=ks.foldl (fun a k=>mx a (d.getD k.toNat 0)) 0
theorem mx_succ (a b:Int):mx (a+1) (b+1)=mx a b+1:=by unfold mx; split <;> split <;> omega
theorem ownD_mD (d ks:List Int):JdZ d ks=mD d ks+1:=by
 have key:∀ (l:List Int) (a:Int),l.foldl (fun a k=>mx a (d.getD k.toNat 0+1)) (a+1)=l.foldl (fun a k=>mx a (d.getD k.toNat 0)) a+1:=by
  intro l
  induction l with
  |nil=>intro a; rfl
  |cons k l ih=>intro a; rw[GY,GY,mx_succ]; exact ih _
 exact key ks 0
theorem mD_rng {d:List Int}{m:Int}(h:∀ v∈d,1≤v∧v≤m) (hm:0≤m) (ks:List Int):0≤mD d ks∧mD d ks≤m:=by
 have:=Jfq (m:=m) h hm ks 1 (by omega) (by omega)
 have e:=ownD_mD d ks
 unfold JdZ at e
 omega
theorem Jep (t:Tr) (ht:t.Fit) {o:List Int}(ho:Jt (Jw t.nodes) []=some o):Fn Gd 39 [t.cv] (.bool (Jaj t)):=by
 have hmany:=ht.many
 refine Jc c39_ok rfl rfl fun N=>?_
 simp -implicitDefEqProofs only[c39,go_sem,Tr.cv,Tr.row]
 refine Je (id:=0) (z:=2) (els:=[t.row]) rfl rfl ?_
 simp only[go_sem,J4,Ky,frz,Qy]
 refine JG (I:=fun i:Nat=>i≤t.nodes.length∧∀ v∈KQ ((Jw t.nodes).take i) [],v≤30) (inv:=fun i=>gp [(1,.rptr t.row),(1,.slc 1 0 (iz (KQ ((Jw t.nodes).take i) [])).length (Jb7 (iz (KQ ((Jw t.nodes).take i) [])))),(0,.int .i64 (i:Int))] 43)
  (hp:=fun i=>[.dead,.arr 1 (iz (KQ ((Jw t.nodes).take i) []))]) (μ:=fun i=>t.nodes.length-i) 0 [0,1] ⟨by omega,by simp[KQ]⟩ rfl ?_ rfl ?_
 ·simp[forget,JL,ren,Jm,gp,KQ,iz,Jb7]
 ·rintro i ⟨hi,hall⟩
  have hdl:(KQ ((Jw t.nodes).take i) []).length=i:=by
   rw[XV,GD]
   simp[Jw]
   omega
  have hdk:=JfV ((Jw t.nodes).take i) [] (by intro v hv; simp at hv)
  by_cases hlt:i < t.nodes.length
  ·have hstep:=Jb6 (JS hlt)
   have hbel:=Q9 ho (JS hlt)
   have hx:=ht.nodes _ (Gc hlt)
   rw[← rowg hlt]at hx
   have hln:=hdl
   clear hdl
   have hbig:∀ v∈KQ ((Jw t.nodes).take (i+1)) [],v∈KQ (Jw t.nodes) []:=by
    intro v hv
    rw[Jb5 (by rw[Qg]; omega)]at hv
    exact List.mem_of_mem_take hv
   generalize hD:KQ ((Jw t.nodes).take i) []=d at hstep hln hdk hall ⊢
   have d1:((i:Int) < (t.nodes.length:Int))=True:=Ju
   simp -implicitDefEqProofs only[go_sem,Tr.row,Jf,d1]
   have hg:=QL hlt
   generalize t.nodes.getD i default=x at hstep hbel hx hg ⊢
   have hkn:=hx.kidn
   have hdr:∀ v∈d,1≤v∧v≤i:=fun v hv=>by have:=hdk v hv; omega
   refine JE (I:=fun j:Nat=>j≤x.kids.length) (inv:=fun j=>gp [(1,.rptr t.row),(1,.slc 1 0 (iz d).length (Jb7 (iz d))),(0,.int .i64 (i:Int)),(0,.int .i64 (mD d (x.kids.take j))),(0,.int .i64 (j:Int))] 41)
    (hp:=fun _=>[.dead,.arr 1 (iz d)]) (μ:=fun j=>x.kids.length-j) 0 (by omega) ?_ rfl ?_
   ·simp[forget,gp,mD,Tr.row]
   ·intro j hj
    have hxl:(iz x.kids).length=x.kids.length:=Jd
    by_cases hjl:j < x.kids.length
    ·have d2:((j:Int) < (x.kids.length:Int))=True:=Ju
     have hmem:x.kids.getD j 0∈x.kids:=by
      rw[Gb,Ga hjl]; exact Gc hjl
     have hb:=hbel _ hmem
     have hst:mD d (x.kids.take (j+1))=mx (mD d (x.kids.take j)) (d.getD (x.kids.getD j 0).toNat 0):=by
      have hgk:x.kids.getD j 0=x.kids[j]:=by rw[Gb,Ga hjl]; rfl
      unfold mD
      rw[Gu hjl,List.foldl_append,hgk]; rfl
     have hgi:=JN hjl
     generalize x.kids.getD j 0=k at hb hst hgi
     have hgk:=JN (l:=d) (i:=k.toNat) (by omega)
     have hgr:=JfG (m:=i) (fun v hv=>by have:=hdr v hv; omega) (by omega) k.toNat
     have hdz:(iz d).length=d.length:=Jd
     simp -implicitDefEqProofs only[go_sem,Tr.row,Jf,hg,Nd.cv,hxl,d2,hgi,hgk]
     refine ⟨by omega,by omega,by omega,by omega,by omega,Jl,j+1,by omega,by omega,?_⟩
     rw[hst]
     simp[forget,mx]
    ·have hje:j=x.kids.length:=by omega
     subst hje
     have d2:((x.kids.length:Int) < (x.kids.length:Int))=False:=Jq
     rw[Gi]
     have hmr:=mD_rng hdr (by omega) x.kids
     have hdz:(iz d).length=d.length:=Jd
     rw[ownD_mD]at hstep
     have hz:iz (d++[mD d x.kids+1])=iz d++[[.int .i64 (mD d x.kids+1)]]:=Kt
     have hcl:=Jb (d++[mD d x.kids+1])
     generalize mD d x.kids=v at hstep hmr hz hcl ⊢
     by_cases hv:30 < v+1
     ·have d3:((30:Int) < v+1)=True:=eq_true hv
      have hB:Jaj t=true:=by
       rw[Jaj,List.any_eq_true]
       exact ⟨v+1,hbig _ (by rw[hstep]; simp),by simpa using hv⟩
      simp -implicitDefEqProofs only[go_sem,Tr.row,Jf,hg,Nd.cv,hxl,d2,d3,Jv,hB]
      repeat' apply And.intro
      all_goals first | omega | exact Jl
     ·have d3:((30:Int) < v+1)=False:=eq_false hv
      simp -implicitDefEqProofs only[go_sem,Tr.row,Jf,hg,Nd.cv,hxl,d2,d3,Jv]
      refine ⟨by omega,Jl,by omega,Jl,Jl,i+1,[0,3],⟨by omega,?_⟩,by omega,rfl,?_,?_⟩
      ·rw[hstep]
       intro u hu
       rcases GH.1 hu with hu | hu
       ·exact hall u hu
       ·rw[Gx.1 hu]; omega
      ·rw[hstep]
       have hc:=Ja (ρ:=[0,3]) hcl
       simp only[Km,Gm,Gt,go_sem,Jk]
       rw[hz]at hc ⊢
       rw[hc]
       rfl
      ·rw[hstep,hz,JaN]
       simp[forget,JL,ren,Jm,Jd,Tr.row]
  ·have hie:i=t.nodes.length:=by omega
   subst hie
   have d1:((t.nodes.length:Int) < (t.nodes.length:Int))=False:=Jq
   have hB:Jaj t=false:=by
    rw[Jaj,← Gw (l:=Jw t.nodes) (i:=t.nodes.length) (by simp[Jw]),GU]
    intro v hv
    have:=hall v hv
    simp; omega
   rw[hB]
   simp -implicitDefEqProofs only[go_sem,Tr.row,Jf,d1]
theorem Jap {t:Tr}(h1:¬ (700 < t.nodes.length∨20 < t.items.length)) (h2:frm t=false):chk t=4:=by
 unfold chk; rw[if_neg h1,if_neg (by rw[h2]; simp)]
theorem frm_none {t:Tr}(h:Jt (Jw t.nodes) []=none):frm t=false:=by unfold frm; rw[h]
theorem frm_kid {t:Tr}{i:Nat}(hi:i < t.nodes.length) {k:Int}(hk:k∈(t.nodes.getD i default).kids) (hb:¬ (0≤k∧k < i)):frm t=false:=by
 cases h:Jt (Jw t.nodes) []with
 |none=>exact frm_none h
 |some o=>exact absurd (Q9 h (JS hi) k hk) hb
theorem frm_nd {t:Tr}{i:Nat}(hi:i < t.nodes.length) (hb:ndI t.nodes (t.nodes.getD i default)=false):frm t=false:=by
 unfold frm
 cases h:Jt (Jw t.nodes) []with
 |none=>rfl
 |some o=>
  simp only[GK]
  right
  rw[GV]
  refine ⟨t.nodes.getD i default,?_,by rw[hb]; simp⟩
  rw[Gb,Ga hi]; exact Gc hi
theorem step_ord {K:List (List Int)}{i:Nat}{o ks:List Int}(ho:Jt (K.take i) []=some o) (hk:K[i]? = some ks) :
  (Jt (K.take (i+1)) []=none∧(Jd0 (fs o) ks.reverse i).2=false)∨(∃ f,Jt (K.take (i+1)) []=some (o++[f])∧(Jd0 (fs o) ks.reverse i).2=true):=by
 obtain ⟨h1,h2⟩:=Jaf ho hk
 have hok:=Qh _ _ _ Qr.nil ho
 have h3:=Jet (fst:=fs o) hok (fun k _ _=>rfl) ks.reverse ((o.length:Int)-1) (by omega)
 rw[h1]
 unfold JbS
 have e:((o.length:Int)-1+1)=(i:Int):=by omega
 rw[e]at h3
 cases h4:Qk o ks.reverse ((o.length:Int)-1) with
 |none=>rw[h4]at h3; exact .inl ⟨rfl,h3⟩
 |some b=>rw[h4]at h3; simp only at h3; exact .inr ⟨b+1,rfl,by rw[h3]⟩
theorem ndI_R (l:List Nd) (x:Nd):ndI l x=(KX x.k x.n (lets l x) && Qq (Jcv x.text) x.k x.text x.n x.pl && K8 x.k x.n (lets l x)):=by
 unfold ndI; rw[node_eq]; rfl
theorem Jfm (t:Tr) (ht:t.Fit):Fn Gd 11 [t.cv] (.int .i64 (chk t)):=by
 have hmany:=ht.many
 have hitems:=ht.items
 refine Jc c11_ok rfl rfl fun N=>?_
 simp -implicitDefEqProofs only[c11,go_sem,Tr.cv,Tr.row]
 refine Je (id:=0) (z:=2) (els:=[t.row]) rfl rfl ?_
 simp only[go_sem,J4,Ky,frz,Qy,Tr.row]
 refine JX (refLimits t) ?_
 by_cases h1:700 < t.nodes.length∨20 < t.items.length
 ·have hc:chk t=5:=by unfold chk; rw[if_pos h1]
  rw[decide_eq_false (not_not_intro h1),hc]
  simp -implicitDefEqProofs only[go_sem]
 ·rw[decide_eq_true h1]
  simp -implicitDefEqProofs only[go_sem]
  refine JE (I:=fun i:Nat=>i≤t.nodes.length∧∀ j,j < i→∀ k∈(t.nodes.getD j default).kids,0≤k∧k < j) (inv:=fun i=>gp [(1,.rptr t.row),(1,.int .i64 (i:Int))] 123) (hp:=fun _=>[.dead]) (μ:=fun i=>t.nodes.length-i) 0 ⟨by omega,by omega⟩ ?_ rfl ?_
  ·simp[forget,gp,Tr.row]
  ·rintro i ⟨hi,hkids⟩
   by_cases hlt:i < t.nodes.length
   ·have d1:((i:Int) < (t.nodes.length:Int))=True:=Ju
    have hx:=ht.nodes _ (Gc hlt)
    rw[← rowg hlt]at hx
    have hg:=QL hlt
    have hfk:=fun {k:Int} (hk:k∈(t.nodes.getD i default).kids) (hb:¬ (0≤k∧k < i))=>frm_kid hlt hk hb
    have hsucc:(∀ k∈(t.nodes.getD i default).kids,0≤k∧k < i)→∀ j,j < i+1→∀ k∈(t.nodes.getD j default).kids,0≤k∧k < j:=by
     intro h j hj
     by_cases e:j=i
     ·subst e; exact h
     ·exact hkids j (by omega)
    generalize t.nodes.getD i default=x at hx hg hfk hsucc
    have hkn:=hx.kidn
    have hxl:(iz x.kids).length=x.kids.length:=Jd
    simp -implicitDefEqProofs only[go_sem,Tr.row,Jf,d1]
    refine JE (I:=fun j:Nat=>j≤x.kids.length∧∀ k∈x.kids.take j,0≤k∧k < i) (inv:=fun j=>gp [(1,.rptr t.row),(1,.int .i64 (i:Int)),(0,.int .i64 (j:Int))] 122) (hp:=fun _=>[.dead]) (μ:=fun j=>x.kids.length-j) 0 ⟨by omega,by simp⟩ ?_ rfl ?_
    ·simp[forget,gp,Tr.row]
    ·rintro j ⟨hj,hkj⟩
     by_cases hjl:j < x.kids.length
     ·have d2:((j:Int) < (x.kids.length:Int))=True:=Ju
      have hgi:=JN hjl
      have hmem:x.kids.getD j 0∈x.kids:=by
       rw[Gb,Ga hjl]; exact Gc hjl
      have hts:x.kids.take (j+1)=x.kids.take j++[x.kids.getD j 0]:=by
       rw[Gu hjl,Gb,Ga hjl]; rfl
      generalize x.kids.getD j 0=k at hgi hmem hts
      simp -implicitDefEqProofs only[go_sem,Tr.row,Jf,hg,Nd.cv,hxl,d2,hgi]
      refine ⟨by omega,by omega,by omega,Jl,?_⟩
      refine JX (JaR k 0 ((i:Int)-1)) ?_
      cases hin:inI 0 ((i:Int)-1) k with
      |true=>
       simp only[inI,Gg,decide_eq_true_eq]at hin
       simp -implicitDefEqProofs only[go_sem]
       refine ⟨Jl,j+1,⟨by omega,?_⟩,by omega,?_⟩
       ·rw[hts]
        intro u hu
        rcases GH.1 hu with hu | hu
        ·exact hkj u hu
        ·rw[Gx.1 hu]; omega
       ·simp[forget]
      |false=>
       have hb:¬ (0≤k∧k < i):=by
        simp only[inI,GK,decide_eq_false_iff_not]at hin
        omega
       rw[Jap h1 (hfk hmem hb)]
       simp -implicitDefEqProofs only[go_sem]
     ·have hje:j=x.kids.length:=by omega
      subst hje
      rw[Gi]at hkj
      have d2:((x.kids.length:Int) < (x.kids.length:Int))=False:=Jq
      simp -implicitDefEqProofs only[go_sem,Tr.row,Jf,hg,Nd.cv,hxl,d2]
      refine ⟨by omega,Jl,i+1,⟨by omega,hsucc hkj⟩,by omega,?_⟩
      simp[forget]
   ·have hie:i=t.nodes.length:=by omega
    subst hie
    have d1:((t.nodes.length:Int) < (t.nodes.length:Int))=False:=Jq
    simp -implicitDefEqProofs only[go_sem,Tr.row,Jf,d1]
    refine JE (I:=fun i:Nat=>i≤t.nodes.length∧(∃ o,Jt ((Jw t.nodes).take i) []=some o)∧∀ j,j < i→ndI t.nodes (t.nodes.getD j default)=true) (inv:=fun i=>gp [(1,.rptr t.row),(3,.int .i64 (i:Int))] 121) (hp:=fun _=>[.dead]) (μ:=fun i=>t.nodes.length-i) 0 ⟨by omega,⟨[],by simp[Jt]⟩,by omega⟩ ?_ rfl ?_
    ·simp[forget,gp,Tr.row]
    ·rintro i ⟨hi,⟨o,ho⟩,hnd⟩
     by_cases hlt:i < t.nodes.length
     ·have d1:((i:Int) < (t.nodes.length:Int))=True:=Ju
      have hx:=ht.nodes _ (Gc hlt)
      rw[← rowg hlt]at hx
      have hg:=QL hlt
      have hki:=JS hlt
      have hkk:=hkids i hlt
      have hnf:=fun hb=>frm_nd hlt hb
      have hnR:=ndI_R t.nodes (t.nodes.getD i default)
      have hS:=refSized t i hlt hmany hx (fun y hy=>(ht.nodes y hy).k) (fun k hk=>by have:=hkk k hk; omega)
      have hstep:=step_ord ho hki
      have hsn:ndI t.nodes (t.nodes.getD i default)=true→∀ j,j < i+1→ndI t.nodes (t.nodes.getD j default)=true:=by
       intro h j hj
       by_cases e:j=i
       ·subst e; exact h
       ·exact hnd j (by omega)
      generalize t.nodes.getD i default=x at hx hg hki hkk hnf hnR hS hstep hsn
      have hO:=Jeq t ho hi hmany x.kids (by have:=hx.kidn; omega) i (Gh _)
      have hKi:=refKin t x hx hmany (fun y hy=>(ht.nodes y hy).k) (fun k hk=>by have:=hkk k hk; omega)
      have hF:=refFields x (kindR x.text) (Jcv x.text) (kindR_name x.text) (refKind x.text (by have:=hx.text; omega))
      simp -implicitDefEqProofs only[go_sem,Tr.row,Jf,d1]
      refine Kz JI (by decide) ?_
      simp -implicitDefEqProofs only[go_sem,Tr.row,Jf,hg]
      refine ⟨by omega,?_⟩
      simp -implicitDefEqProofs only[go_sem,Nd.cv]
      refine Qn (.inl rfl) hO ?_
      simp -implicitDefEqProofs only[go_sem]
      refine Kz JI (by decide) ?_
      rcases hstep with ⟨s1,s2⟩ | ⟨f,s1,s2⟩
      ·simp -implicitDefEqProofs only[go_sem,s2]
       rw[Jap h1 (frm_none (Jcp s1))]
      ·simp -implicitDefEqProofs only[go_sem,Tr.row,Jf,s2,hg]
       refine ⟨by omega,?_⟩
       refine ⟨by simp[Nd.cv],?_⟩
       refine Qn (gok rfl) hKi ?_
       cases b1:KX x.k x.n (lets t.nodes x) with
       |false=>
        rw[b1,GL,GL]at hnR
        simp -implicitDefEqProofs only[go_sem]
        rw[Jap h1 (hnf hnR)]
       |true=>
        simp -implicitDefEqProofs only[go_sem,Tr.row,Jf,hg]
        refine ⟨by omega,by simp[Nd.cv],?_⟩
        refine Qn (gok rfl) hF ?_
        cases b2:Qq (Jcv x.text) x.k x.text x.n x.pl with
        |false=>
         rw[b1,b2,Gq,GL]at hnR
         simp -implicitDefEqProofs only[go_sem]
         rw[Jap h1 (hnf hnR)]
        |true=>
         simp -implicitDefEqProofs only[go_sem,Tr.row,Jf,hg]
         refine Qn (gok rfl) hS ?_
         cases b3:K8 x.k x.n (lets t.nodes x) with
         |false=>
          rw[b1,b2,b3,Gq,Gq]at hnR
          simp -implicitDefEqProofs only[go_sem]
          rw[Jap h1 (hnf hnR)]
         |true=>
          rw[b1,b2,b3,Gq,Gq]at hnR
          simp -implicitDefEqProofs only[go_sem]
          refine ⟨Jl,i+1,⟨by omega,⟨_,s1⟩,hsn hnR⟩,by omega,?_⟩
          simp[forget,Tr.row]
     ·have hie:i=t.nodes.length:=by omega
      subst hie
      have d1:((t.nodes.length:Int) < (t.nodes.length:Int))=False:=Jq
      have ho2:Jt (Jw t.nodes) []=some o:=by
       rw[← Gw (l:=Jw t.nodes) (i:=t.nodes.length) (by simp[Jw])]; exact ho
      have hok:=Qh _ _ _ Qr.nil ho2
      have hol:=Qj _ _ _ ho2
      simp only[Gl,Gn,Qg]at hol
      have hO:=Jeq t ho (Gh _) hmany t.items (by omega) t.nodes.length (Gh _)
      have hie2:=items_eq (fst:=fs o) (isD:=fun i=>Jn t.nodes i == 65) hok hol (fun k _ _=>rfl) t.items
      have hall:t.nodes.all (ndI t.nodes)=true:=by
       rw[Gs]
       intro y hy
       obtain ⟨j,hj⟩:=List.getElem?_of_mem hy
       have hjl:=(Gj.1 hj).1
       have:=hnd j hjl
       rw[Gb,hj]at this
       exact this
      have hfrm:frm t=Yd o (fun i=>Jn t.nodes i == 65) t.nodes.length t.items 0:=by
       unfold frm; rw[ho2]; simp only[hall,Bool.and_true]
      simp -implicitDefEqProofs only[go_sem,Tr.row,Jf,d1]
      refine JX hO ?_
      simp -implicitDefEqProofs only[go_sem]
      cases b1:(Jd0 (fs o) t.items.reverse t.nodes.length).2 with
      |false=>
       rw[Jap h1 (by rw[hfrm,hie2,decide_eq_false (fun h=>by rw[h]at b1; cases b1)]; rfl)]
       simp -implicitDefEqProofs only[go_sem]
      |true=>
       by_cases b2:(Jd0 (fs o) t.items.reverse t.nodes.length).1=0
       ·have e2:((Jd0 (fs o) t.items.reverse t.nodes.length).1 != 0)=false:=by simp[b2]
        have hor:Jd0 (fs o) t.items.reverse t.nodes.length=(0,true):=Prod.ext b2 b1
        rw[hor,decide_eq_true rfl,Gq]at hie2
        simp -implicitDefEqProofs only[go_sem,e2]
        have hch:=(JbX hok hol (fst:=fs o) (fun k _ _=>rfl) t.items.reverse t.nodes.length (by omega) (by omega)).1 hor
        rw[List.reverse_reverse]at hch
        have hmem:=fun i hi=>Qm hok rfl t.items 0 t.nodes.length (by rw[hol]; exact hch) i hi
        refine JE (I:=fun i:Nat=>i≤t.items.length∧∀ k∈t.items.take i,(Jn t.nodes k == 65)=true) (inv:=fun i=>gp [(1,.rptr t.row),(8,.int .i64 (i:Int))] 116) (hp:=fun _=>[.dead]) (μ:=fun i=>t.items.length-i) 0 ⟨by omega,by simp⟩ ?_ rfl ?_
        ·simp[forget,gp,Tr.row]
        ·rintro i ⟨hi,hdk⟩
         have hil:(iz t.items).length=t.items.length:=Jd
         by_cases hlt:i < t.items.length
         ·have d2:((i:Int) < (t.items.length:Int))=True:=Ju
          have hgi:=JN hlt
          have hm2:t.items.getD i 0∈t.items:=by
           rw[Gb,Ga hlt]; exact Gc hlt
          have hts:t.items.take (i+1)=t.items.take i++[t.items.getD i 0]:=by
           rw[Gu hlt,Gb,Ga hlt]; rfl
          generalize t.items.getD i 0=k at hgi hm2 hts
          have hkr:=hmem k hm2
          have hgk:=QL (l:=t.nodes) (i:=k.toNat) (by omega)
          have hkk:Jn t.nodes k=(t.nodes.getD k.toNat default).k:=rfl
          generalize t.nodes.getD k.toNat default=x at hgk hkk
          simp -implicitDefEqProofs only[go_sem,Tr.row,Jf,hil,d2]
          refine Kz JI (by decide) ?_
          simp -implicitDefEqProofs only[go_sem,Tr.row,Jf,hil,hgi]
          refine ⟨by omega,?_⟩
          simp -implicitDefEqProofs only[go_sem,Tr.row,Jf,hil,hgk,Nd.cv]
          refine ⟨by omega,?_⟩
          have q65:=Jd1 65 x.k
          simp only[Gy]at q65
          cases b3:(x.k == 65) with
          |true=>
           have e3:((x.k:Int) != 65)=false:=by rw[bne,q65,b3]; rfl
           simp -implicitDefEqProofs only[go_sem,e3]
           refine ⟨Jl,i+1,⟨by omega,?_⟩,by omega,?_⟩
           ·rw[hts]
            intro u hu
            rcases GH.1 hu with hu | hu
            ·exact hdk u hu
            ·rw[Gx.1 hu,hkk]; exact b3
           ·simp[forget]
          |false=>
           have e3:((x.k:Int) != 65)=true:=by rw[bne,q65,b3]; rfl
           have hf:frm t=false:=by
            rw[hfrm,hie2,GV]
            exact ⟨k,hm2,by rw[hkk,b3]; simp⟩
           rw[Jap h1 hf]
           simp -implicitDefEqProofs only[go_sem,e3]
         ·have hie:i=t.items.length:=by omega
          subst hie
          rw[Gi]at hdk
          have d2:((t.items.length:Int) < (t.items.length:Int))=False:=Jq
          have hf:frm t=true:=by
           rw[hfrm,hie2,Gs]; exact hdk
          have hc:chk t=if Jaj t=true then 5 else 0:=by unfold chk; rw[if_neg h1,if_pos hf]
          rw[hc]
          simp -implicitDefEqProofs only[go_sem,Tr.row,Jf,hil,d2]
          refine JX (Jep t ht ho2) ?_
          cases b4:Jaj t with
          |true=>simp -implicitDefEqProofs only[go_sem]
          |false=>simp -implicitDefEqProofs only[go_sem]
       ·have e2:((Jd0 (fs o) t.items.reverse t.nodes.length).1 != 0)=true:=by simp[b2]
        rw[Jap h1 (by rw[hfrm,hie2,decide_eq_false (fun h=>by rw[h]at b2; exact b2 rfl)]; rfl)]
        simp -implicitDefEqProofs only[go_sem,e2]
theorem JaA {α:Type}{l:List α}{i:Nat}{d:α}(h:i < l.length):l.take (i+1)=l.take i++[l.getD i d]:=by
 rw[Gu h,Gb,Ga h]; rfl
theorem Jc4 (a b:List Int) (ha:a.length≤100000):Fn Gd 51 [.rslc 1 (iz a) none,.rslc 1 (iz b) none] (.bool (a == b)):=by
 have hal:(iz a).length=a.length:=Jd
 have hbl:(iz b).length=b.length:=Jd
 refine Jc c51_ok rfl rfl fun N=>?_
 by_cases hl:a.length=b.length
 ·have e1:((a.length:Int) != (b.length:Int))=false:=by simp[hl]
  simp -implicitDefEqProofs only[c51,go_sem,hal,hbl,e1]
  refine JE (I:=fun i:Nat=>i≤a.length∧a.take i=b.take i) (inv:=fun i=>gp [(0,.rslc 1 (iz a) none),(0,.rslc 1 (iz b) none),(3,.int .i64 (i:Int))] 20) (hp:=fun _=>[]) (μ:=fun i=>a.length-i) 0 ⟨by omega,by simp⟩ ?_ rfl ?_
  ·simp[forget,gp]
  ·rintro i ⟨hi,hinv⟩
   by_cases hlt:i < a.length
   ·have d1:((i:Int) < (a.length:Int))=True:=Ju
    have hga:=JN hlt
    have hgb:=JN (l:=b) (i:=i) (by omega)
    have hta:=JaA (d:=0) hlt
    have htb:=JaA (l:=b) (i:=i) (d:=0) (by omega)
    simp -implicitDefEqProofs only[go_sem,hal,hbl,d1]
    refine Kz JI (by decide) ?_
    simp -implicitDefEqProofs only[go_sem,hal,hbl,hga,hgb]
    refine ⟨by omega,by omega,?_⟩
    by_cases he:a.getD i 0=b.getD i 0
    ·have e2:(a.getD i 0 != b.getD i 0)=false:=by rw[he]; simp
     simp -implicitDefEqProofs only[go_sem,e2]
     refine ⟨Jl,i+1,⟨by omega,by rw[hta,htb,hinv,he]⟩,by omega,?_⟩
     simp[forget]
    ·have e2:(a.getD i 0 != b.getD i 0)=true:=by simpa using he
     have hne:(a == b)=false:=by
      rw[beq_eq_false_iff_ne]; rintro rfl; exact he rfl
     simp -implicitDefEqProofs only[go_sem,e2,hne]
   ·have d1:((i:Int) < (a.length:Int))=False:=Jq
    have he:(a == b)=true:=by
     rw[beq_iff_eq]
     have h1:i=a.length:=by omega
     rw[h1,Gi,Gw (by omega)]at hinv
     exact hinv
    simp -implicitDefEqProofs only[go_sem,hal,hbl,d1,he]
 ·have e1:((a.length:Int) != (b.length:Int))=true:=by simp; omega
  have hne:(a == b)=false:=by
   rw[beq_eq_false_iff_ne]; rintro rfl; exact hl rfl
  simp -implicitDefEqProofs only[c51,go_sem,hal,hbl,e1,hne]
def JbR (x:Nd):Bool:=decide (30 < x.kids.length) || decide (60 < x.text.length)
def vastH (t:Tr):Bool:=(decide (250 < t.nodes.length) && decide (t.nodes.length≤700)) || decide (1400 < t.nodes.length) || decide (40 < t.items.length)
def vastT (t:Tr):Bool:=vastH t || t.nodes.any JbR
theorem row_agg5 {x:Nd}{id n:Nat}{cap:Option Nat}(hn:n=x.kids.length):wk (frz id 1 (iz x.kids) (.agg [.int .u8 x.k,S x.text,.int .i64 x.n,.slc id 0 n cap,.int .i64 x.pl])) (.agg x.cv):=by
 subst hn
 have hl:(iz x.kids).length=x.kids.length:=Jd
 simp only[frz,J4,if_true,Gn,hl,Gh,GI]
 rw[← hl,Gi]
 exact Jbk ⟨wk.refl _,wk.refl _,wk.refl _,wk.rslc,wk.refl _,trivial⟩
theorem refMoved (x:Nd) (hx:x.kids.length≤1000) (d:Int) (hk:∀ k∈x.kids,InR .i64 (k+d)):Fn Gd 47 [.agg x.cv,.int .i64 d] (.agg (mvN d x).cv):=by
 have hxl:(iz x.kids).length=x.kids.length:=Jd
 refine JbD ?_ rfl rfl
 refine Kg c47_ok fun N=>?_
 simp -implicitDefEqProofs only[c47,go_sem,Nd.cv]
 refine JG (I:=fun i:Nat=>i≤x.kids.length) (inv:=fun i=>gp [(1,.int .i64 d),(0,.ptr 0 0 0),(1,.ptr 1 0 0),(0,.slc 2 0 (iz ((x.kids.take i).map (· + d))).length (Jb7 (iz ((x.kids.take i).map (· + d))))),(0,.int .i64 (i:Int))] 21)
  (hp:=fun i=>[.arr 5 [x.cv],.arr 5 [[.int .u8 0,S [],.int .i64 0,.nils,.int .i64 0]],.arr 1 (iz ((x.kids.take i).map (· + d)))]) (μ:=fun i=>x.kids.length-i) 0 [0,1,2] (by omega) rfl ?_ rfl ?_
 ·simp[forget,JL,ren,Jm,gp,iz,Jb7]
 ·intro i hi
  by_cases hlt:i < x.kids.length
  ·have d1:((i:Int) < (x.kids.length:Int))=True:=Ju
   have hgi:=JN hlt
   have hts:(x.kids.take (i+1)).map (· + d)=(x.kids.take i).map (· + d)++[x.kids.getD i 0+d]:=by
    rw[JaA (d:=0) hlt,List.map_append]; rfl
   have hol:((x.kids.take i).map (· + d)).length=i:=by simp; omega
   have hmem:x.kids.getD i 0∈x.kids:=by
    rw[Gb,Ga hlt]; exact Gc hlt
   have hin:=hk _ hmem
   generalize x.kids.getD i 0=k at hgi hts hin
   generalize (x.kids.take i).map (· + d)=L at hts hol ⊢
   have hLl:(iz L).length=L.length:=Jd
   have hz:iz (L++[k+d])=iz L++[[.int .i64 (k+d)]]:=Kt
   simp -implicitDefEqProofs only[go_sem,Nd.cv,hxl,d1,hgi,Jv]
   refine ⟨by omega,hin,by omega,Jl,i+1,[0,1,4],by omega,by omega,rfl,?_,?_⟩
   ·have hc:=Ja (ρ:=[0,1,4]) (Jb (L++[k+d]))
    rw[hz]at hc
    rw[hts,hz]
    simp only[Km,Gm,Gt,go_sem,Jk,hc]
    rfl
   ·rw[hts,hz,JaN]
    simp[forget,JL,ren,Jm]
  ·have hie:i=x.kids.length:=by omega
   subst hie
   have d1:((x.kids.length:Int) < (x.kids.length:Int))=False:=Jq
   rw[Gi]
   simp -implicitDefEqProofs only[go_sem,Nd.cv,hxl,d1,splice]
   exact .inr ⟨2,1,iz (x.kids.map (· + d)),rfl,Jb _,row_agg5 (x:=mvN d x) (by simp[Jd,mvN])⟩
theorem row_aggT {z:Nat}{els:List (List CV)}{id n:Nat}{cap:Option Nat}{y:CV}(hy:y.closed=true) (hn:n=els.length):wk (frz id z els (.agg [.slc id 0 n cap,y])) (.agg [.rslc z els none,y]):=by
 subst hn
 simp only[frz,J4,if_true,Gn,Gh,GI,Gi,QX y hy]
 exact Jbk ⟨wk.rslc,wk.refl _,trivial⟩
theorem Jfl (t:Tr) (ht:t.Fit):Fn Gd 13 [t.cv] t.cv:=by
 have hmany:=ht.many
 have hitems:=ht.items
 have hil:(iz t.items).length=t.items.length:=Jd
 have hrc:=Jb t.items
 refine JbD ?_ rfl rfl
 refine Kg c13_ok fun N=>?_
 obtain ⟨R,hR⟩:∃ R,R=iz t.items:=⟨_,rfl⟩
 simp only[Tr.cv,Tr.row]
 rw[← hR]at hrc hil ⊢
 cases R with
 |nil=>
  simp -implicitDefEqProofs only[c13,go_sem]
  refine Je (id:=0) (z:=2) (els:=[[.rslc 5 (ndz t.nodes) none,.rslc 1 [] none]]) rfl rfl ?_
  simp only[go_sem,J4,Ky,frz,Qy]
  refine Je (id:=2) (z:=1) (els:=[]) rfl rfl ?_
  simp only[go_sem,J4,Ky,frz,Qy]
  refine Xy ?_
  simp only[go_sem,GG,GX]
  refine JG (I:=fun i:Nat=>i≤t.nodes.length) (inv:=fun i=>gp [(1,.rptr [.rslc 5 (ndz t.nodes) none,.rslc 1 [] none]),(0,.ptr 1 0 0),(0,.ptr 2 0 0),(0,.int .i64 (i:Int))] 24) (hp:=fun i=>[.dead,.arr 2 [[.nils,.nils]],.arr 2 [[JV 3 (ndz (t.nodes.take i)),.rslc 1 [] none]],KP 5 (ndz (t.nodes.take i))]) (μ:=fun i=>t.nodes.length-i) 0 [0,1,3,4] (by omega) rfl ?_ ?_ ?_
  ·simp[forget,JL,ren,Jm,gp]
  ·rfl
  ·intro i hi
   by_cases hlt:i < t.nodes.length
   ·have d1:((i:Int) < (t.nodes.length:Int))=True:=Ju
    have hg:=QL hlt
    have hx:=ht.nodes _ (Gc hlt)
    rw[← rowg hlt]at hx
    have hts:ndz (t.nodes.take (i+1))=ndz (t.nodes.take i)++[(t.nodes.getD i default).cv]:=by
     rw[JaA (d:=default) hlt]; simp[ndz]
    have hcl:=J7 (t.nodes.take (i+1))
    have hpl:(ndz (t.nodes.take i)).length=i:=by rw[Jf,GD]; omega
    generalize t.nodes.getD i default=x at hg hx hts
    generalize ndz (t.nodes.take i)=Z at hts hpl ⊢
    have hM:=refMoved x (by have:=hx.kidn; omega) 0 (fun k hk=>by rw[GN]; exact hx.kids k hk)
    have hmv:mvN 0 x=x:=by
     obtain ⟨k,te,n,ks,p⟩:=x
     simp[mvN]
    rw[hmv]at hM
    simp -implicitDefEqProofs only[go_sem,Jf,d1]
    refine Jaw [false,true,false,false,false,false,false,false,false,true,false,true] JI (by decide +kernel) ?_
    simp -implicitDefEqProofs only[go_sem,Jf,hg]
    refine ⟨by omega,by simp[Nd.cv],?_⟩
    refine vh_f hM ?_
    simp -implicitDefEqProofs only[go_sem]
    refine vh_row [x.cv] rfl rfl rfl rfl ?_
    simp -implicitDefEqProofs only[go_sem,Jv,splice,Gf,Gl]
    refine ⟨by omega,Jl,i+1,[0,1,2,4],by omega,by omega,rfl,?_,?_⟩
    ·rw[hts]at hcl
     have hc:=Ja (ρ:=[0,1,2,4]) hcl
     rw[hts,Kb,Kc]
     simp only[Km,Gm,Gt,go_sem,Jk,hc]
     rfl
    ·simp[forget,JL,ren,Jm]
   ·have hie:i=t.nodes.length:=by omega
    subst hie
    have d1:((t.nodes.length:Int) < (t.nodes.length:Int))=False:=Jq
    rw[Gi]
    have hnc:=J7 t.nodes
    cases hN:ndz t.nodes with
    |nil=>
     have hnl:(([]:List (List CV)).length:Int)=t.nodes.length:=by rw[← hN,Jf]
     simp only[Gl]at hnl
     simp -implicitDefEqProofs only[go_sem,Q3,X8,Gl,hnl,d1,splice]
     exact .inl (Jbk ⟨wk.nils,wk.refl _,trivial⟩)
    |cons f fs=>
     have hnl:((fs.length+1:Nat):Int)=t.nodes.length:=by rw[← Gf,← hN,Jf]
     rw[Qt (by simp),Qo (by simp)]
     simp -implicitDefEqProofs only[go_sem,Gf,hnl,d1,splice]
     rw[hN]at hnc
     exact .inr ⟨3,5,f::fs,rfl,hnc,row_aggT rfl rfl⟩
 |cons e es=>
  have hel:es.length+1≤40:=by have:=hil; simp only[Gf]at this; omega
  simp -implicitDefEqProofs only[c13,go_sem,Jv,Gf]
  refine ⟨by omega,?_⟩
  refine Je (id:=3) (z:=1) (els:=e::es) rfl hrc ?_
  simp only[go_sem,J4,Ky,frz,Qy,Gf,GI,Gw (l:=e::es) (i:=es.length+1) (Gh _)]
  refine Je (id:=0) (z:=2) (els:=[[.rslc 5 (ndz t.nodes) none,.rslc 1 (e::es) none]]) rfl rfl ?_
  simp only[go_sem,J4,Ky,frz,Qy]
  refine Xy ?_
  simp only[go_sem,GG,GX]
  refine JG (I:=fun i:Nat=>i≤t.nodes.length) (inv:=fun i=>gp [(1,.rptr [.rslc 5 (ndz t.nodes) none,.rslc 1 (e::es) none]),(0,.ptr 1 0 0),(0,.ptr 2 0 0),(0,.int .i64 (i:Int))] 24) (hp:=fun i=>[.dead,.arr 2 [[.nils,.nils]],.arr 2 [[JV 3 (ndz (t.nodes.take i)),.rslc 1 (e::es) none]],KP 5 (ndz (t.nodes.take i))]) (μ:=fun i=>t.nodes.length-i) 0 [0,1,4,5] (by omega) rfl ?_ ?_ ?_
  ·simp[forget,JL,ren,Jm,gp]
  ·rfl
  ·intro i hi
   by_cases hlt:i < t.nodes.length
   ·have d1:((i:Int) < (t.nodes.length:Int))=True:=Ju
    have hg:=QL hlt
    have hx:=ht.nodes _ (Gc hlt)
    rw[← rowg hlt]at hx
    have hts:ndz (t.nodes.take (i+1))=ndz (t.nodes.take i)++[(t.nodes.getD i default).cv]:=by
     rw[JaA (d:=default) hlt]; simp[ndz]
    have hcl:=J7 (t.nodes.take (i+1))
    have hpl:(ndz (t.nodes.take i)).length=i:=by rw[Jf,GD]; omega
    generalize t.nodes.getD i default=x at hg hx hts
    generalize ndz (t.nodes.take i)=Z at hts hpl ⊢
    have hM:=refMoved x (by have:=hx.kidn; omega) 0 (fun k hk=>by rw[GN]; exact hx.kids k hk)
    have hmv:mvN 0 x=x:=by
     obtain ⟨k,te,n,ks,p⟩:=x
     simp[mvN]
    rw[hmv]at hM
    simp -implicitDefEqProofs only[go_sem,Jf,d1]
    refine Jaw [false,true,false,false,false,false,false,false,false,true,false,true] JI (by decide +kernel) ?_
    simp -implicitDefEqProofs only[go_sem,Jf,hg]
    refine ⟨by omega,by simp[Nd.cv],?_⟩
    refine vh_f hM ?_
    simp -implicitDefEqProofs only[go_sem]
    refine vh_row [x.cv] rfl rfl rfl rfl ?_
    simp -implicitDefEqProofs only[go_sem,Jv,splice,Gf,Gl]
    refine ⟨by omega,Jl,i+1,[0,1,2,4],by omega,by omega,rfl,?_,?_⟩
    ·rw[hts]at hcl
     have hc:=Ja (ρ:=[0,1,2,4]) hcl
     rw[hts,Kb,Kc]
     simp only[Km,Gm,Gt,go_sem,Jk,hc]
     rfl
    ·simp[forget,JL,ren,Jm]
   ·have hie:i=t.nodes.length:=by omega
    subst hie
    have d1:((t.nodes.length:Int) < (t.nodes.length:Int))=False:=Jq
    rw[Gi]
    have hnc:=J7 t.nodes
    cases hN:ndz t.nodes with
    |nil=>
     have hnl:(([]:List (List CV)).length:Int)=t.nodes.length:=by rw[← hN,Jf]
     simp only[Gl]at hnl
     simp -implicitDefEqProofs only[go_sem,Q3,X8,Gl,hnl,d1,splice]
     exact .inl (Jbk ⟨wk.nils,wk.refl _,trivial⟩)
    |cons f fs=>
     have hnl:((fs.length+1:Nat):Int)=t.nodes.length:=by rw[← Gf,← hN,Jf]
     rw[Qt (by simp),Qo (by simp)]
     simp -implicitDefEqProofs only[go_sem,Gf,hnl,d1,splice]
     rw[hN]at hnc
     exact .inr ⟨3,5,f::fs,rfl,hnc,row_aggT rfl rfl⟩
end Go.Cm
end
section
namespace Go.Cm
structure Nd.Ty (x:Nd):Prop where
 k:x.k < 256
 n:InR .i64 x.n
 kids:∀ i∈x.kids,InR .i64 i
 pl:InR .i64 x.pl
structure Tr.Ty (t:Tr):Prop where
 nodes:∀ x∈t.nodes,x.Ty
 items:∀ i∈t.items,InR .i64 i
theorem Tr.Ty.fit {t:Tr}(h:t.Ty) (hv:vastT t=false):t.Fit:=by
 unfold vastT vastH at hv
 simp only[G5,GK,decide_eq_false_iff_not,GU]at hv
 obtain ⟨⟨⟨_,h2⟩,h3⟩,h4⟩:=hv
 refine ⟨by omega,by omega,fun x hx=>?_,h.items⟩
 have hn:=h4 x hx
 unfold JbR at hn
 simp only[Bool.not_eq_true,G5,decide_eq_false_iff_not]at hn
 have ty:=h.nodes x hx
 exact ⟨ty.k,by omega,ty.n,by omega,ty.kids,ty.pl⟩
end Go.Cm
end
section
set_option maxRecDepth 100000
set_option maxHeartbeats 4000000
open Go.Proofs
namespace Go.Cm
theorem indexI (l:List Int) (x:Int) (hl:l.length≤100000):Fn Gd 104 [.rslc 1 (iz l) none,.int .i64 x] (.int .i64 (Xv (fun y=>x == y) l 0)):=by
 have hil:(iz l).length=l.length:=Jd
 refine Jc c104_ok rfl rfl fun N=>?_
 simp -implicitDefEqProofs only[c104,go_sem,hil]
 refine JE (I:=fun i:Nat=>i≤l.length∧Xv (fun y=>x == y) l 0=Xv (fun y=>x == y) (l.drop i) i) (inv:=fun i=>gp [(0,.rslc 1 (iz l) none),(0,.int .i64 x),(5,.int .i64 (l.length:Int)),(0,.int .i64 (i:Int))] 10) (hp:=fun _=>[]) (μ:=fun i=>l.length-i) 0 ⟨by omega,rfl⟩ ?_ rfl ?_
 ·simp[forget,gp]
 ·rintro i ⟨hi,hinv⟩
  by_cases hlt:i < l.length
  ·have d1:((i:Int) < (l.length:Int))=True:=Ju
   have hgi:=JN hlt
   have hge:l[i]? = some (l.getD i 0):=by rw[Gb,Ga hlt]; rfl
   rw[Xr hge]at hinv
   simp -implicitDefEqProofs only[go_sem,hil,d1,hgi]
   generalize l.getD i 0=y at hinv ⊢
   refine ⟨by omega,?_⟩
   cases he:(x == y) with
   |true=>
    rw[he,if_pos rfl]at hinv
    simp -implicitDefEqProofs only[go_sem,hinv]
   |false=>
    rw[he]at hinv
    simp -implicitDefEqProofs only[go_sem]
    refine ⟨Jl,i+1,⟨by omega,by simpa using hinv⟩,by omega,?_⟩
    simp[forget]
  ·have d1:((i:Int) < (l.length:Int))=False:=Jq
   rw[List.drop_eq_nil_of_le (by omega)]at hinv
   simp -implicitDefEqProofs only[go_sem,d1,hinv,Xv]
theorem containsI (l:List Int) (x:Int) (hl:l.length≤100000):Fn Gd 78 [.rslc 1 (iz l) none,.int .i64 x] (.bool (l.contains x)):=by
 refine Jc c78_ok rfl rfl fun N=>?_
 simp -implicitDefEqProofs only[c78,go_sem]
 refine JX (indexI l x hl) ?_
 have e:decide (0≤Xv (fun y=>x == y) l 0)=l.contains x:=by rw[JaJ,List.contains_eq_any_beq]
 simp -implicitDefEqProofs only[go_sem,e]
def inT (t:Tr) (n:Int):Bool:=inI 0 ((t.nodes.length:Int)-1) n
theorem Yj {t:Tr}{n:Int}:inT t n=true↔0≤n∧n < t.nodes.length:=by
 simp only[inT,inI,Gg,decide_eq_true_eq]; omega
def kid (x:Nd) (i:Nat):Int:=x.kids.getD i 0
end Go.Cm
end
section
namespace Go.Cm
section
def flat (o:CObj):Prop:=o=.dead∨∃ z els,o=.arr z els∧Jo els=true
section
variable {P:Program}{E:Env}{H:List CObj}
theorem Jca {α:Type}{a b:List α}{k:Nat}{x:α}(h:(a++b)[k]? = some x):(k < a.length∧a[k]? = some x)∨∃ j,k=a.length+j∧b[j]? = some x:=by
 rcases Gz k a.length with hlt | hge
 ·rw[Gv hlt]at h; exact .inl ⟨hlt,h⟩
 ·rw[GA hge]at h; exact .inr ⟨k-a.length,by omega,h⟩
theorem app_get2 {α:Type}{a b:List α}{j:Nat}:(a++b)[a.length+j]? = b[j]?:=by
 rw[GA (by omega)]; congr 1; omega
theorem CallsC.frameG {f:Nat}{args:List CV}{G:List CObj}{mk:Nat→CV}(h:CallsC P Env.none f args [] fun v H'=>v=mk 0∧H'=G) (ha:Jr args=true) (hG:∀ o∈G,flat o)
  (hmk:∀ (n:Nat) (own own':List Own) imm r,(∀ (k:Nat) x,own[k]? = some x→own'[n+k]? = some x)→rel own imm (mk 0) r→rel own' imm (mk n) r):CallsC P E f args H fun v H'=>v=mk H.length∧H'=H++G:=by
 intro m w vs hs hv
 refine (h _ w vs hs.nothing (KE _ _ ha hv)).mono ?_
 rintro e w' ⟨r,m',v,H',rfl,hext,hs',hrel,rfl,rfl⟩
 obtain ⟨h1,h2⟩:=hs.back hext hs'
 have hno:∀ B,¬ owned { own:=[],imm:=m.imm,ext:=fun _=>False } [] B:=by
  rintro B (h | ⟨k,o,x,hk,_⟩)
  ·exact h
  ·simp at hk
 have hlen:m.own.length=H.length:=hs.len
 have hold:∀ (k:Nat) o x,H[k]? = some o→o.alive=true→m.own[k]? = some x→x.B < w.heap.size:=fun k o x hk hal hx=>XD hs hk hal hx
 have hnewB:∀ (k:Nat) o x,H'[k]? = some o→o.alive=true→m'.own[k]? = some x→w.heap.size≤x.B:=fun k o x hk hal hx=>
  (hext.newOwn x.B (.inr ⟨k,o,x,hk,hal,hx,rfl⟩)).resolve_left (hno _)
 have two:∀ (k:Nat) o x,(H++H')[k]? = some o→(m.own++m'.own)[k]? = some x→(k < H.length∧H[k]? = some o∧m.own[k]? = some x)∨∃ j,k=H.length+j∧H'[j]? = some o∧m'.own[j]? = some x:=by
  intro k o x hk hx
  rcases Jca hk with ⟨hlt,hk2⟩ | ⟨j,rfl,hk2⟩
  ·rw[Gv (by omega)]at hx; exact .inl ⟨hlt,hk2,hx⟩
  ·rw[← hlen,app_get2]at hx; exact .inr ⟨j,rfl,hk2,hx⟩
 have hle:=KA.append m.own m'.own
 refine ⟨r,{ m with own:=m.own++m'.own,imm:=m'.imm },mk H.length,H++H',rfl,?_,?_,?_,rfl,rfl⟩
 ·have hE:=h2 H.length
  refine ⟨hE.size,hE.frame,hE.imm,?_,hE.newImm,fun k x _ hx=>hle _ _ hx,fun h=>by simp; omega,hE.same⟩
  rintro B (hB | ⟨k,o,x,hk,hal,hx,rfl⟩)
  ·exact .inl (.inl hB)
  ·rcases two k o x hk hx with ⟨_,hk,hx⟩ | ⟨j,_,hk,hx⟩
   ·exact .inl (.inr ⟨k,o,x,hk,hal,hx,rfl⟩)
   ·exact .inr (hnewB j o x hk hal hx)
 ·refine ⟨by simp[hs.len,hs'.len],fun k o x hk hx=>?_,h1.imm,h1.one,fun k k' o o' x x' hk hk' ha ha' hx hx' hB=>?_,fun k o x hk hal hx=>?_,fun k s b hk=>?_,fun k o x hk hal hx=>?_,h1.extlt,h1.gl⟩
  ·rcases two k o x hk hx with ⟨_,hk,hx⟩ | ⟨j,_,hk,hx⟩
   ·exact Ki hle (Kj.refl _) (fun _=>rfl) (h1.obj k o x hk hx)
   ·have ho:=hs'.obj j o x hk hx
    rcases hG o (Gr hk) with rfl | ⟨z,els,rfl,hc⟩
    ·trivial
    ·obtain ⟨hz,c,elem,g1,g2,g3,g4,g5⟩:=ho
     exact ⟨hz,c,elem,g1,g2,g3,fun j e he=>⟨(g4 j e he).1,fun t c hc2=>let ⟨r,q1,q2⟩:=(g4 j e he).2 t c hc2; ⟨r,q1,K5 c r (XX (XI hc _ _ he) _ _ hc2) q2⟩⟩,g5⟩
  ·rcases two k o x hk hx with ⟨_,hk,hx⟩ | ⟨j,rfl,hk,hx⟩ <;> rcases two k' o' x' hk' hx' with ⟨_,hk',hx'⟩ | ⟨j',rfl,hk',hx'⟩
   ·exact h1.sep k k' o o' x x' hk hk' ha ha' hx hx' hB
   ·have a1:=hold k o x hk ha hx
    have a2:=hnewB j' o' x' hk' ha' hx'
    omega
   ·have a1:=hold k' o' x' hk' ha' hx'
    have a2:=hnewB j o x hk ha hx
    omega
   ·rw[hs'.sep j j' o o' x x' hk hk' ha ha' hx hx' hB]
  ·rcases two k o x hk hx with ⟨_,hk,hx⟩ | ⟨j,rfl,hk,hx⟩
   ·exact h1.ro k o x hk hal hx
   ·exact hs'.ro j o x hk hal hx
  ·rcases Jca hk with ⟨_,hk2⟩ | ⟨j,rfl,hk2⟩
   ·exact h1.ext k s b hk2
   ·rcases hG _ (Gr hk2) with h | ⟨z,els,h,_⟩ <;> cases h
  ·rcases two k o x hk hx with ⟨_,hk,hx⟩ | ⟨j,rfl,hk,hx⟩
   ·exact h1.extsep k o x hk hal hx
   ·intro hB
    have a1:=hnewB j o x hk hal hx
    have a2:=hs.extlt x.B hB
    omega
 ·exact hmk H.length m'.own (m.own++m'.own) m'.imm r (fun k x hk=>by rw[← hlen,app_get2]; exact hk) hrel
theorem JO {id z:Nat}{e:List (List CV)}:∀ {els:List (List CV)},Jo els=true→els.map (J4 id z e)=els
 |[],_=>rfl
 |x::xs,h=>by
  simp only[Jo,Gg]at h
  rw[Gm,Qa _ h.1,JO h.2]
theorem Fn.args {f:Nat}{args args':List CV}{v:CV}(h:Fn P f args v) (hw:wks args' args):Fn P f args' v:=fun E H m w vs hs hv=>h E H m w vs hs (Jav hw hv)
theorem rowV_shift {els:List (List CV)}(i n:Nat) {own own':List Own}{imm:Nat→Nat→Option Value}{r:Value}(ho:∀ (k:Nat) x,own[k]? = some x→own'[n+k]? = some x) (h:rel own imm (JV i els) r):rel own' imm (JV (n+i) els) r:=by
 cases els with
 |nil=>exact h
 |cons e l=>
  simp only[JV,rel]at h ⊢
  obtain ⟨x,a,c,hx,g⟩:=h
  exact ⟨x,a,c,ho _ _ hx,g⟩
theorem rowO_flat {z:Nat}{els:List (List CV)}(h:Jo els=true):flat (KP z els):=by
 cases els with
 |nil=>exact .inl rfl
 |cons e l=>exact .inr ⟨_,_,rfl,h⟩
theorem rowV_one {id:Nat}{els:List (List CV)}:(JV id els).oneCell=true:=by cases els <;> rfl
attribute [go_sem ↓] rowV_one
theorem Qd {id z j:Nat}{e els:List (List CV)}(h:j≠id):frz id z e (JV j els)=JV j els:=by
 cases els with
 |nil=>rfl
 |cons x l=>simp only[JV,frz]; rw[if_neg h]
theorem KD {id z y:Nat}{e els:List (List CV)}(h:Jo els=true):Qy id z e (KP y els)=KP y els:=by
 cases els with
 |nil=>rfl
 |cons x l=>simp only[KP,Qy]; rw[JO h]
inductive Frzs (v0:CV):CV→List CObj→Prop
 |done {v:CV} {H:List CObj}:wk v v0→Frzs v0 v H
 |step {v:CV} {H:List CObj} (id z:Nat) (els:List (List CV)):H[id]? = some (.arr z els)→Jo els=true→Frzs v0 (frz id z els v) (Ky id z els H)→Frzs v0 v H
theorem Yu {f:Nat}{args:List CV}{v0:CV}(h:CallsC P Env.none f args [] fun v H'=>Frzs v0 v H') (ha:Jr args=true) (hv:v0.closed=true):Fn P f args v0:=by
 refine fn_of ?_ ha hv
 intro m w vs hs hvs
 refine (h m w vs hs hvs).mono ?_
 rintro e w' ⟨r,m',v,H',h1,h2,h3,h4,g⟩
 subst h1
 induction g generalizing m' with
 |done hw=>exact ⟨r,m',v0,_,rfl,h2,h3,hw _ _ _ h4,rfl⟩
 |step id z els g1 g2 _ ih=>
  obtain ⟨imm',hs',he,hf⟩:=Sim.freeze (n0:=([]:List CObj).length) h3 g1 g2
  exact ih _ (h2.trans he) hs' (hf _ _ h4)
def Jcy (P:Program) (f:Nat) (args:List CV) (z:Nat) (els:List (List CV)):Prop:=∀ (E:Env) (H:List CObj),CallsC P E f args H fun v H'=>v=JV H.length els∧H'=H++[KP z els]
theorem JfM {f:Nat}{args:List CV}{z:Nat}{els:List (List CV)}(h:CallsC P Env.none f args [] fun v H'=>∃ id,v=JV id els∧H'[id]? = some (KP z els)) (ha:Jr args=true) (hc:Jo els=true):Jcy P f args z els:=fun E H=>by
 refine CallsC.frameG (mk:=fun n=>JV n els) (G:=[KP z els]) (h.ren fun v H' ⟨id,hv,hH⟩=>⟨[id],?_,?_,?_⟩) ha (fun o ho=>by simp only[Gx]at ho; rw[ho]; exact rowO_flat hc) fun n own own' imm r ho h=>rowV_shift 0 n ho h
 ·have:=(Gj.1 hH).1
  simp[Jfj,this]
 ·rw[hv]; exact JH (by simp[ren,Jm])
 ·simp only[Km,Gm,Gt,Gb,hH,Option.getD_some]
  cases els with
  |nil=>rfl
  |cons e l=>
   have:=Ja (ρ:=[id]) hc
   simp only[KP,Jk,this]
theorem Jcy.fn {f:Nat}{args:List CV}{z:Nat}{els:List (List CV)}(h:Jcy P f args z els) (ha:Jr args=true) (hc:Jo els=true):Fn P f args (.rslc z els none):=
 JeM ((h Env.none []).mono fun v H' ⟨h1,h2⟩=>⟨0,h1,by rw[h2]; rfl⟩) ha hc
end
section
variable {P:Program}{E:Env}{n0:Nat}{N:Fr}{Q:Exit→List CV→List CObj→Prop}{H:List CObj}{T:List CV}{k:List KItem}{l:List IOper}{es:List (List Nat)}
theorem Jd8 {d:Option Nat}{g:Option (Nat×Bool)}{f:Nat}{xa:List IArg}{l:List IOper}{z:Nat}{els:List (List CV)}(hg:GOk T g) (hcall:Jcy P f (xa.map (J5 T)) z els) (h:Kk P E n0 N Q (.ops l::k) (put T d (JV H.length els)) (H++[KP z els])):Ok P E n0 N Q (.ops (⟨d,.call f xa,g⟩::l)::k) T H:=
 J2 hg (hcall E H) fun v H' ⟨h1,h2⟩=>by rw[h1,h2]; exact h
theorem vr_loopL {x:ICode}{σ:Type}(I:σ→Prop) (inv:σ→List CV) (hp:σ→List CObj) (μ:σ→Nat) (s0:σ) (h0:I s0) (hT:∀ Q,leads P E n0 N Q (inv s0) (hp s0) T H)
  (hb:∀ s,I s→Kk P E n0 N (Jcc P E n0 N Q k fun T' H'=>∃ s',I s'∧μ s' < μ s∧∀ Q,leads P E n0 N Q (inv s') (hp s') T' H') [.code x] (inv s) (hp s)):Ok P E n0 N Q (.code (.loop x)::k) T H:=by
 refine ok_loop (I:=fun s T H=>I s∧∀ Q,leads P E n0 N Q (inv s) (hp s) T H) μ s0 ⟨h0,hT⟩ ?_
 rintro s T H ⟨hs,hl⟩
 refine hl _ _ ?_
 exact (JB _ _ _ (hb s hs)).mono fun e T' H' hq=>Y0 (fun T2 H2 ⟨s',hs',hlt,hl'⟩=>⟨s',⟨hs',hl'⟩,hlt⟩) hq
def Jcq (P:Program) (E:Env) (n0:Nat) (N:Fr) (Q:Exit→List CV→List CObj→Prop) (k:List KItem) (l:List IOper) (es:List (List Nat)) (T:List CV) (H:List CObj):Prop:=∀ is,Sched l.length es (fun _=>false) is→Ok P E n0 N Q (.ops (is.map (QR l))::k) T H
theorem JcQ (hm:P.follows .mixedOrders=true) (h:Jcq P E n0 N Q k l es T H):Ok P E n0 N Q (.code (.dreg l es)::k) T H:=ok_draw hm h
theorem Yy (i j:Nat) (hb:(!(i == j) && decide (i < es.length) && decide (j < es.length))=true) (h1:Jcq P E n0 N Q k l (Jbh es j i) T H) (h2:Jcq P E n0 N Q k l (Jbh es i j) T H):Jcq P E n0 N Q k l es T H:=by
 intro is hs
 simp only[Gg,Bool.not_eq_true',beq_eq_false_iff_ne,decide_eq_true_eq]at hb
 rcases sched_pair hb.1.1 hb.1.2 hb.2 hs rfl rfl with h | h
 ·exact h1 is h
 ·exact h2 is h
theorem Qz (bs:List Bool) (T':List CV) (H':List CObj) (hord:(l.length == bs.length && (JaW l.length es (clo es) && Qc l (clo es) (bs.map QI)))=true) (hfin:Ok P E n0 N Q k T' H') (h:vdk P E (leads P E n0 N Q T' H') l bs T H):Jcq P E n0 N Q k l es T H:=
 fun _ hs=>sched_run hord h hfin hs
def pm (p:List Nat) (a:Nat):Nat:=p.getD a a
theorem pm_out {p:List Nat}{a:Nat}(h:p.length≤a):pm p a=a:=by
 unfold pm; rw[Gb,List.getElem?_eq_none h]; rfl
def Jcl (n:Nat) (p q:List Nat):Bool:=p.length == n && q.length == n && (List.range n).all fun a=>decide (pm p a < n) && decide (pm q a < n) && pm q (pm p a) == a && pm p (pm q a) == a
theorem sched_perm {n:Nat}{p q:List Nat}(hb:Jcl n p q=true) {es2:List (List Nat)}(he:∀ a,a < n→es2.getD a []=(es.getD (pm p a) []).map (pm q)) {S:Nat→Bool}{is:List Nat}(h:Sched n es S is):Sched n es2 (fun a=>S (pm p a)) (is.map (pm q)):=by
 simp only[Jcl,Gg,beq_iff_eq,Gs,GZ,decide_eq_true_eq]at hb
 obtain ⟨⟨hpl,hql⟩,hall⟩:=hb
 have hqp:∀ a,pm p (pm q a)=a:=fun a=>by
  rcases Gz a n with h | h
  ·exact (hall a h).2
  ·rw[pm_out (p:=q) (by omega),pm_out (by omega)]
 have hpq:∀ a,pm q (pm p a)=a:=fun a=>by
  rcases Gz a n with h | h
  ·exact (hall a h).1.2
  ·rw[pm_out (p:=p) (by omega),pm_out (by omega)]
 induction h with
 |nil hn=>
  refine .nil fun a ha hS=>?_
  obtain ⟨e,h1,h2⟩:=hn _ (hall a ha).1.1.1 hS
  exact ⟨pm q e,by rw[he a ha]; exact List.mem_map_of_mem h1,by rw[hqp]; exact h2⟩
 |cons ha hS hr _ ih=>
  rename_i S a is _
  refine .cons (hall a ha).1.1.2 (by rw[hqp]; exact hS) (fun e hm=>?_) ?_
  ·rw[he _ (hall a ha).1.1.2,hqp]at hm
   obtain ⟨e',h1,rfl⟩:=List.mem_map.1 hm
   rw[hqp]; exact hr e' h1
  ·have e:(fun b=>S (pm p b) || b == pm q a)=fun b=>S (pm p b) || pm p b == a:=by
    funext b
    congr 1
    by_cases h:b=pm q a
    ·subst h; rw[hqp]; simp
    ·have:pm p b≠a:=fun hh=>h (by rw[← hh,hpq])
     rw[beq_false_of_ne h,beq_false_of_ne this]
   rw[e]; exact ih
theorem sched_mem {n : Nat} {S : Nat → Bool} {is : List Nat} (h : Sched n es S is) : ∀ a ∈ is, a < n := by
  induction h with
  | nil _ => intro a ha; cases ha
  | cons h _ _ _ ih => intro a ha; rcases GJ.1 ha with h' | h'
                       · subst h'; exact h
                       · exact ih a h'
def prl (p:List Nat) (l:List IOper):List IOper:=p.map fun a=>QR l a
def pre (p q:List Nat) (es:List (List Nat)):List (List Nat):=p.map fun a=>(es.getD a []).map (pm q)
theorem Yx (p q:List Nat) (hb:Jcl l.length p q=true) (h:Jcq P E n0 N Q k (prl p l) (pre p q es) T H):Jcq P E n0 N Q k l es T H:=by
 intro is hs
 have hb2:=hb
 simp only[Jcl,Gg,beq_iff_eq,Gs,GZ,decide_eq_true_eq]at hb2
 obtain ⟨⟨hpl,hql⟩,hall⟩:=hb2
 have hlen:(prl p l).length=l.length:=by rw[prl,List.length_map]; exact hpl
 have hs2:=sched_perm hb (es2:=pre p q es) (fun a ha=>by
  unfold pre pm
  rw[Gb,Gp,Ga (by omega)]
  simp[Gb,Ga (show a < p.length by omega)]) hs
 rw[← hlen]at hs2
 have:=h _ hs2
 have e:(is.map (pm q)).map (QR (prl p l))=is.map (QR l):=by
  rw[List.map_map]
  refine List.map_congr_left fun a ha=>?_
  have hal:=sched_mem hs a ha
  have h1:=(hall a hal).1.1.2
  have h2:=(hall a hal).2
  simp only[Function.comp]
  unfold prl QR
  rw[Gb,Gp,Ga (by omega)]
  simp only[Option.map_some,Option.getD_some]
  have e2:p[pm q a]'(by omega)=a:=by
   unfold pm at h2 ⊢
   rw[Gb,Ga (by simpa [pm]using (by omega:pm q a < p.length))]at h2
   exact h2
  rw[e2]
 rw[e]at this
 exact this
end
end
end Go.Cm
end
section
set_option maxRecDepth 100000
set_option maxHeartbeats 4000000
open Go.Proofs
namespace Go.Cm
theorem rowN {l:List Nd}{i:Nat}(h:i < l.length):l.getD i default=l[i]:=by rw[Gb,Ga h]; rfl
theorem GoodT.item {t:Tr}{o:List Int}(g:GoodT t o) {i:Nat}(hi:i < t.items.length):∃ L F:Nat,t.items.getD i 0=(L:Int)∧fs o L=(F:Int)∧F≤L∧L < t.nodes.length∧o.length=t.nodes.length∧o.getD L 0=(F:Int):=by
 have hol:o.length=t.nodes.length:=by rw[g.ord.len,Qg]
 have hm:t.items.getD i 0∈t.items:=by
  rw[Gb,Ga hi]; exact Gc hi
 obtain ⟨_,h2,h3,h4⟩:=Qm g.ord.ok hol _ _ _ g.its _ hm
 obtain ⟨h5,h6⟩:=JfJ g.ord.ok h2 (by omega)
 generalize t.items.getD i 0=L at *
 obtain ⟨L,rfl⟩:∃ n:Nat,L=(n:Int):=⟨L.toNat,by omega⟩
 exact ⟨L,(fs o L).toNat,rfl,by omega,by omega,by omega,hol,by rw[show o.getD L 0=fs o (L:Int) by simp[fs]]; omega⟩
theorem GoodT.itr {t:Tr}{o:List Int}(g:GoodT t o) {i:Int}(hi:i∈t.items):0≤i∧i < t.nodes.length:=by
 have hol:o.length=t.nodes.length:=by rw[g.ord.len,Qg]
 obtain ⟨_,h2,h3,h4⟩:=Qm g.ord.ok hol _ _ _ g.its _ hi
 exact ⟨h2,h4⟩
end Go.Cm
end
section
namespace Go.Cm
section
theorem chain_app {o:List Int}{m:Nat}:∀ (x y:List Int) (a e:Int),chain o m a (x++y) e↔∃ c,chain o m a x c∧chain o m c y e
 |[],y,a,e=>by simp[chain]
 |i::x,y,a,e=>by
  simp only[GG,chain,chain_app x y]
  constructor
  ·rintro ⟨h1,c,h2,h3⟩; exact ⟨c,⟨h1,h2⟩,h3⟩
  ·rintro ⟨c,⟨h1,h2⟩,h3⟩; exact ⟨h1,c,h2,h3⟩
theorem fixA_at {α:Type}{q:α→Bool}:∀ (l:List α) (i:Nat),Xv q l i = -1∧(∀ x∈l,q x=false)∨∃ j x,Xv q l i=((i+j:Nat):Int)∧l[j]? = some x∧q x=true:=by
 intro l
 induction l with
 |nil=>intro i; exact .inl ⟨rfl,by simp⟩
 |cons y l ih=>
  intro i
  simp only[Xv]
  cases hq:q y with
  |true=>exact .inr ⟨0,y,by simp,rfl,hq⟩
  |false=>
   rcases ih (i+1) with ⟨h1,h2⟩ | ⟨j,x,h1,h2,h3⟩
   ·exact .inl ⟨by simpa using h1,fun x hx=>by
     rcases GJ.1 hx with rfl | hx
     ·exact hq
     ·exact h2 x hx⟩
   ·exact .inr ⟨j+1,x,by rw[show i+(j+1)=i+1+j by omega]; simpa using h1,by simpa using h2,h3⟩
section
variable {t:Tr}{o:List Int}(g:GoodT t o)
def endI (t:Tr):Nat→Nat
 |0=>0
 |i+1=>(t.items.getD i 0).toNat+1
include g
theorem Y9:∀ i,i≤t.items.length→chain o t.nodes.length 0 (t.items.take i) (endI t i)∧chain o t.nodes.length (endI t i) (t.items.drop i) t.nodes.length:=by
 intro i hi
 have h:=g.its
 rw[← List.take_append_drop i t.items,chain_app]at h
 obtain ⟨c,h1,h2⟩:=h
 have hc:c=(endI t i:Int):=by
  cases i with
  |zero=>simp[chain]at h1; simp[endI,h1]
  |succ i=>
   rw[JaA (d:=0) (by omega),JaM]at h1
   simp only[endI]
   omega
 rw[hc]at h1 h2
 exact ⟨h1,h2⟩
theorem item_at {i:Nat}(hi:i < t.items.length):∃ L:Nat,t.items.getD i 0=(L:Int)∧fs o L=(endI t i:Int)∧endI t i≤L∧L < t.nodes.length∧endI t (i+1)=L+1:=by
 obtain ⟨L,F,hL,hFs,hFL,hLn,hol,hoL⟩:=g.item hi
 have h:=(Y9 g i (by omega)).2
 have e0:t.items.drop i=t.items.getD i 0::t.items.drop (i+1):=by
  rw[List.drop_eq_getElem_cons hi,Gb,Ga hi]; rfl
 rw[e0,hL]at h
 simp only[chain,GM]at h
 have:(F:Int)=endI t i:=by rw[← hoL]; exact h.1.2.2
 refine ⟨L,hL,by rw[hFs]; exact this,by omega,hLn,?_⟩
 simp only[endI,hL,GM]
theorem par_in:∀ (N n:Nat),N < t.nodes.length→fs o N≤n→n < N→∃ m:Nat,n < m∧m≤N∧(n:Int)∈(t.nodes.getD m default).kids:=by
 intro N
 induction N using Nat.strongRecOn with
 |_ N ih=>
  intro n hN h1 h2
  have hK:=JS hN
  obtain ⟨c,hc,h3,h4⟩:=QY g.ord.ok rfl _ _ _ (n:Int) (g.ord.kids hK) h1 (by omega)
  have hr:=g.ord.kid_rng hK hc
  by_cases he:c=n
  ·subst he; exact ⟨N,h2,Gh _,hc⟩
  ·obtain ⟨c,rfl⟩:∃ k:Nat,c=(k:Int):=⟨c.toNat,by omega⟩
   obtain ⟨m,q1,q2,q3⟩:=ih c (by omega) n (by omega) h3 (by omega)
   exact ⟨m,q1,by omega,q3⟩
def KG (t:Tr) (n:Nat):Int:=Xv (fun x:Nd=>x.kids.contains (n:Int)) t.nodes 0
theorem Qp {n:Nat}(hn:n < t.nodes.length):(KG t n = -1∧∀ m:Nat,m < t.nodes.length→(n:Int)∉(t.nodes.getD m default).kids)∨∃ m:Nat,KG t n=(m:Int)∧n < m∧m < t.nodes.length∧(n:Int)∈(t.nodes.getD m default).kids:=by
 rcases fixA_at (q:=fun x:Nd=>x.kids.contains (n:Int)) t.nodes 0 with ⟨h1,h2⟩ | ⟨j,x,h1,h2,h3⟩
 ·refine .inl ⟨h1,fun m hm hk=>?_⟩
  have:=h2 (t.nodes.getD m default) (by rw[rowN hm]; exact Gc hm)
  simp only[GQ,decide_eq_false_iff_not]at this
  exact this hk
 ·have hj:=(Gj.1 h2).1
  have hx:t.nodes.getD j default=x:=by rw[Gb,h2]; rfl
  simp only[GQ,decide_eq_true_eq]at h3
  rw[← hx]at h3
  have:=g.kid hj h3
  exact .inr ⟨j,by rw[Gn]at h1; exact h1,by omega,hj,h3⟩
end
end
end Go.Cm
end
section
set_option maxRecDepth 100000
open Go.Proofs
namespace Go.Cm
section
mutual
def mo (τ:Nat→Nat):CV→CV
 |.slc j off len cap=>.slc (τ j) off len cap
 |.ptr j i off=>.ptr (τ j) i off
 |.map j=>.map (τ j)
 |.fn f l1 l2=>.fn f (moL τ l1) (moL τ l2)
 |.iface t c=>.iface t (mo τ c)
 |.agg l=>.agg (moL τ l)
 |.tup l=>.tup (moL τ l)
 |c=>c
def moL (τ:Nat→Nat):List CV→List CV
 |[]=>[]
 |c::cs=>mo τ c::moL τ cs
end
mutual
theorem Jez {own own':List Own}{imm:Nat→Nat→Option Value}{τ:Nat→Nat}(ho:∀ (j:Nat) x,own[j]? = some x→own'[τ j]? = some x):∀ (c:CV) (v:Value),rel own imm c v→rel own' imm (mo τ c) v
 |.un,_,_=>by simp only[mo,rel]
 |.bool _,_,h=>by simp only[mo,rel]at h ⊢; exact h
 |.int _ _,_,h=>by simp only[mo,rel]at h ⊢; exact h
 |.str _,_,h=>by simp only[mo,rel]at h ⊢; exact h
 |.nilp,_,h=>by simp only[mo,rel]at h ⊢; exact h
 |.ptr j i off,v,h=>by
  simp only[mo,rel]at h ⊢
  obtain ⟨x,hx,e⟩:=h
  exact ⟨x,ho j x hx,e⟩
 |.rptr cs,v,h=>by simp only[mo,rel]at h ⊢; exact h
 |.nils,_,h=>by simp only[mo,rel]at h ⊢; exact h
 |.slc j off len cap,v,h=>by
  simp only[mo,rel]at h ⊢
  obtain ⟨x,a,c,hx,e⟩:=h
  exact ⟨x,a,c,ho j x hx,e⟩
 |.rslc z' e cap,v,h=>by simp only[mo,rel]at h ⊢; exact h
 |.nilm,_,h=>by simp only[mo,rel]at h ⊢; exact h
 |.map j,v,h=>by
  simp only[mo,rel]at h ⊢
  obtain ⟨x,hx,e⟩:=h
  exact ⟨x,ho j x hx,e⟩
 |.fn f l1 l2,_,h=>by
  simp only[mo,rel]at h ⊢
  obtain ⟨vs1,vs2,e,h1,h2⟩:=h
  exact ⟨vs1,vs2,e,Jdf ho l1 _ h1,Jdf ho l2 _ h2⟩
 |.yld _,_,h=>by simp only[mo,rel]at h ⊢; exact h
 |.nilf,_,h=>by simp only[mo,rel]at h ⊢; exact h
 |.iface _ c,_,h=>by
  simp only[mo,rel]at h ⊢
  obtain ⟨r,e,h1⟩:=h
  exact ⟨r,e,Jez ho c _ h1⟩
 |.nili,_,h=>by simp only[mo,rel]at h ⊢; exact h
 |.agg l,_,h=>by
  simp only[mo,rel]at h ⊢
  obtain ⟨vs,e,h1⟩:=h
  exact ⟨vs,e,Jdf ho l _ h1⟩
 |.tup l,_,h=>by
  simp only[mo,rel]at h ⊢
  obtain ⟨vs,e,h1⟩:=h
  exact ⟨vs,e,Jdf ho l _ h1⟩
theorem Jdf {own own':List Own}{imm:Nat→Nat→Option Value}{τ:Nat→Nat}(ho:∀ (j:Nat) x,own[j]? = some x→own'[τ j]? = some x):∀ (l:List CV) (vs:List Value),JK own imm l vs→JK own' imm (moL τ l) vs
 |[],vs,h=>by simp only[moL,JK]at h ⊢; exact h
 |c::cs,vs,h=>by
  simp only[moL,JK]at h ⊢
  obtain ⟨r,rs,e,h1,h2⟩:=h
  exact ⟨r,rs,e,Jez ho c _ h1,Jdf ho cs _ h2⟩
end
theorem JeA {τ:Nat→Nat}:∀ (l:List CV),(moL τ l).length=l.length
 |[]=>rfl
 |_::cs=>by simp[moL,JeA cs]
theorem moL_get {τ:Nat→Nat}:∀ (l:List CV) (i:Nat),(moL τ l)[i]? = (l[i]?).map (mo τ)
 |[],_=>by simp[moL]
 |c::cs,0=>by simp[moL]
 |c::cs,i+1=>by simp[moL,moL_get cs i]
def moO (τ:Nat→Nat):CObj→CObj
 |.arr z e=>.arr z (e.map (moL τ))
 |.map kvs=>.map (kvs.map fun p=>(mo τ p.1,mo τ p.2))
 |o=>o
theorem Yr {τ:Nat→Nat}(o:CObj):(moO τ o).alive=o.alive:=by cases o <;> rfl
theorem moO_rel {own own':List Own}{imm:Nat→Nat→Option Value}{τ:Nat→Nat}(ho:∀ (j:Nat) x,own[j]? = some x→own'[τ j]? = some x) {x:Own}{o:CObj}{w:World}(h:X9 own imm x o w):X9 own' imm x (moO τ o) w:=by
 cases o with
 |arr z' es=>
  obtain ⟨a1,c,el,a2,a3,a4,a5,a6⟩:=h
  refine ⟨a1,c,el,a2,a3,by simpa using a4,fun j e he=>?_,a6⟩
  rw[Gp]at he
  cases hes:es[j]? with
  |none=>simp[hes]at he
  |some e0=>
   simp[hes]at he; subst he
   obtain ⟨h1,h2⟩:=a5 j e0 hes
   refine ⟨by rw[JeA]; exact h1,fun t c hc=>?_⟩
   rw[moL_get]at hc
   cases ht:e0[t]? with
   |none=>simp[ht]at hc
   |some c0=>
    simp[ht]at hc; subst hc
    obtain ⟨r,h3,h4⟩:=h2 t c0 ht
    exact ⟨r,h3,Jez ho _ _ h4⟩
 |map kvs=>
  obtain ⟨es,clock,a1,a2,a3⟩:=h
  refine ⟨es,clock,a1,by simpa using a2,fun i k v e hk he=>?_⟩
  rw[Gp]at hk
  cases hkv:kvs[i]? with
  |none=>simp[hkv]at hk
  |some p=>
   simp[hkv]at hk
   obtain ⟨rfl,rfl⟩:=hk
   have:=a3 i p.1 p.2 e hkv he
   exact ⟨Jez ho _ _ this.1,Jez ho _ _ this.2⟩
 |dead=>trivial
 |ext s b=>trivial
mutual
theorem mo_closed {τ:Nat→Nat}:∀ (c:CV),c.closed=true→mo τ c=c
 |.un,_=>rfl
 |.bool _,_=>rfl
 |.int _ _,_=>rfl
 |.str _,_=>rfl
 |.nilp,_=>rfl
 |.ptr _ _ _,h=>by simp[CV.closed]at h
 |.rptr _,_=>rfl
 |.nils,_=>rfl
 |.slc _ _ _ _,h=>by simp[CV.closed]at h
 |.rslc _ _ _,_=>rfl
 |.nilm,_=>rfl
 |.map _,h=>by simp[CV.closed]at h
 |.fn f l1 l2,h=>by
  simp only[CV.closed,Gg]at h
  simp only[mo,XJ l1 h.1,XJ l2 h.2]
 |.yld _,_=>rfl
 |.nilf,_=>rfl
 |.iface t c,h=>by
  simp only[CV.closed]at h
  simp only[mo,mo_closed c h]
 |.nili,_=>rfl
 |.agg l,h=>by
  simp only[CV.closed]at h
  simp only[mo,XJ l h]
 |.tup l,h=>by
  simp only[CV.closed]at h
  simp only[mo,XJ l h]
theorem XJ {τ:Nat→Nat}:∀ (l:List CV),Jr l=true→moL τ l=l
 |[],_=>rfl
 |c::cs,h=>by
  simp only[Jr,Gg]at h
  simp only[moL,mo_closed c h.1,XJ cs h.2]
end
theorem Jae {τ:Nat→Nat}:∀ {els:List (List CV)},Jo els=true→els.map (moL τ)=els
 |[],_=>rfl
 |e::l,h=>by
  simp only[Jo,Gg]at h
  simp only[Gm,XJ e h.1,Jae h.2]
theorem mo_rowV {τ:Nat→Nat}{id:Nat}{els:List (List CV)}:mo τ (JV id els)=JV (τ id) els:=by cases els <;> rfl
theorem Jfu {τ:Nat→Nat}{z:Nat}{els:List (List CV)}(hc:Jo els=true):moO τ (KP z els)=KP z els:=by
 cases els with
 |nil=>rfl
 |cons e l=>exact congrArg (CObj.arr z) (Jae hc)
theorem Jfw {τ:Nat→Nat}{z:Nat}{els:List (List CV)}(hc:Jo els=true):moO τ (.arr z els)=.arr z els:=congrArg (CObj.arr z) (Jae hc)
theorem Jfv {τ:Nat→Nat}:moO τ .dead=.dead:=rfl
def tau (σ:List Nat) (n i:Nat):Nat:=if i < σ.length then σ.getD i 0 else n+(i-σ.length)
def Jb9 (σ:List Nat) (n k:Nat) (H':List CObj):List CObj→List CObj
 |[]=>(H'.drop σ.length).map (moO (tau σ n))
 |o::H=>(match Jm k σ 0 with | some i=>moO (tau σ n) (H'.getD i .dead) | none=>o)::Jb9 σ n (k+1) H' H
theorem backL_get {σ:List Nat}{n:Nat}{H':List CObj}:∀ (H:List CObj) (k j:Nat) (o:CObj),(Jb9 σ n k H' H)[j]? = some o→(∃ i,j < H.length∧Jm (k+j) σ 0=some i∧o=moO (tau σ n) (H'.getD i .dead))∨(Jm (k+j) σ 0=none∧H[j]? = some o)∨∃ i,j=H.length+i∧(H'[σ.length+i]?).map (moO (tau σ n))=some o
 |[],k,j,o,h=>by
  refine .inr (.inr ⟨j,by simp,?_⟩)
  rw[Jb9,Gp,GR]at h
  exact h
 |p::H,k,0,o,h=>by
  rw[Jb9,List.getElem?_cons_zero,Option.some.injEq]at h
  cases hr:Jm k σ 0 with
  |some i=>rw[hr]at h; exact .inl ⟨i,by simp,rfl,h.symm⟩
  |none=>rw[hr]at h; exact .inr (.inl ⟨rfl,congrArg some h⟩)
 |p::H,k,j+1,o,h=>by
  rw[Jb9,List.getElem?_cons_succ]at h
  rcases backL_get H (k+1) j o h with ⟨i,h1,h2,h3⟩ | ⟨h1,h2⟩ | ⟨i,h1,h2⟩
  ·exact .inl ⟨i,by simp; omega,by rw[show k+(j+1)=k+1+j by omega]; exact h2,h3⟩
  ·exact .inr (.inl ⟨by rw[show k+(j+1)=k+1+j by omega]; exact h1,by simpa using h2⟩)
  ·exact .inr (.inr ⟨i,by simp; omega,h2⟩)
theorem JdS {σ:List Nat}{n:Nat}{H':List CObj}:∀ (H:List CObj) (k:Nat),(Jb9 σ n k H' H).length=H.length+(H'.length-σ.length)
 |[],k=>by simp[Jb9]
 |p::H,k=>by rw[Jb9,Gf,JdS H,Gf]; omega
theorem Jeo {id:Nat}:∀ (σ:List Nat) (i:Nat),Jm id σ i=none→id∉σ
 |[],_,_=>by simp
 |k::σ,i,h=>by
  simp only[Jm]at h
  split at h
  ·cases h
  ·rename_i hk
   have:=Jeo σ (i+1) h
   simp only[GJ,not_or]
   exact ⟨fun h=>hk h.symm,this⟩
def isExt:CObj→Bool
 |.ext _ _=>true
 |_=>false
theorem Jdr {z:Nat}{els:List (List CV)}:isExt (KP z els)=false:=by cases els <;> rfl
theorem Jds {z:Nat}{els:List (List CV)}:isExt (.arr z els)=false:=rfl
def locOk (σ:List Nat) (H:List CObj):Bool:=σ.Nodup && σ.all fun i=>decide (i < H.length) && !isExt (H.getD i .dead)
section
variable {P:Program}{E:Env}{H:List CObj}
theorem CallsC.loc {f:Nat}{args args0:List CV}{H0:List CObj}{R:CV→List CObj→Prop}(σ:List Nat) (h:CallsC P Env.none f args0 H0 R) (ha:JL σ args=args0) (hH:Km σ H=H0) (hok:locOk σ H=true) :
  CallsC P E f args H fun v H'=>∃ v0 H0',R v0 H0'∧v=mo (tau σ H.length) v0∧H'=Jb9 σ H.length 0 H0' H:=by
 intro m w vs hs hv
 subst ha hH
 obtain ⟨hnd,hall⟩:σ.Nodup∧∀ i∈σ,i < H.length∧∀ s b,H[i]?≠some (.ext s b):=by
  unfold locOk at hok
  rw[Gg,Gs]at hok
  refine ⟨by simpa using hok.1,fun i hi=>?_⟩
  have h2:=hok.2 i hi
  rw[Gg,decide_eq_true_eq]at h2
  refine ⟨h2.1,fun s b hb=>?_⟩
  rw[Gb,hb]at h2
  simp[isExt]at h2
 have hlen:=hs.len
 let own0:List Own:=σ.map fun id=>m.own.getD id ⟨0,0,0,0⟩
 have ho:∀ (j:Nat) id,σ[j]? = some id→own0[j]? = m.own[id]?:=by
  intro j id hj
  have hlt:id < m.own.length:=by rw[hlen]; exact (hall id (Gr hj)).1
  simp[own0,hj,Gb,Ga hlt]
 have key0:∀ (k:Nat) o x,(Km σ H)[k]? = some o→own0[k]? = some x→∃ id o0,σ[k]? = some id∧H[id]? = some o0∧o=Jfk σ o0∧m.own[id]? = some x:=by
  intro k o x hk hx
  obtain ⟨id,o0,h1,h2,h3⟩:=JcE (fun i hi=>(hall i hi).1) hk
  exact ⟨id,o0,h1,h2,h3,(ho k id h1).symm.trans hx⟩
 have hs0:Sim Env.none { own:=own0,imm:=m.imm,ext:=fun _=>False } (Km σ H) w:=by
  refine ⟨by simp[own0,Km],fun k o x hk hx=>?_,hs.imm,hs.one,fun k k' o o' x x' hk hk' ha ha' hx hx' hB=>?_,fun k o x hk ha hx=>?_,fun k s b hk=>?_,fun k o x hk ha hx=>?_,fun B hB=>hs.extlt B (.inr (hB.resolve_left id)),hs.gl.1,fun B hB=>hB.elim⟩
  ·obtain ⟨id,o0,h1,h2,rfl,h4⟩:=key0 k o x hk hx
   have:=hs.obj id o0 x h2 h4
   have hf:=Jfi (own:=m.own) (own':=own0) (imm:=m.imm) (ρ:=σ) ho
   cases o0 with
   |arr z' es=>
    obtain ⟨a1,c,el,a2,a3,a4,a5,a6⟩:=this
    exact ⟨a1,c,el,a2,a3,by simpa using a4,relO_ren hf a5,a6⟩
   |map kvs=>
    obtain ⟨es,clock,a1,a2,a3⟩:=this
    refine ⟨es,clock,a1,by simpa using a2,fun i k v e hk he=>?_⟩
    rw[Gp]at hk
    cases hkv:kvs[i]? with
    |none=>simp[hkv]at hk
    |some p=>
     simp[hkv]at hk
     obtain ⟨rfl,rfl⟩:=hk
     have:=a3 i p.1 p.2 e hkv he
     exact ⟨hf _ _ this.1,hf _ _ this.2⟩
   |dead=>trivial
   |ext s b=>trivial
  ·obtain ⟨id,o0,h1,h2,rfl,h4⟩:=key0 k o x hk hx
   obtain ⟨id',o0',h1',h2',rfl,h4'⟩:=key0 k' o' x' hk' hx'
   rw[QV]at ha ha'
   have:=hs.sep id id' o0 o0' x x' h2 h2' ha ha' h4 h4' hB
   subst this
   exact (List.getElem?_inj (Gj.1 h1).1 hnd).1 (h1.trans h1'.symm)
  ·obtain ⟨id,o0,h1,h2,rfl,h4⟩:=key0 k o x hk hx
   rw[QV]at ha
   exact hs.ro id o0 x h2 ha h4
  ·obtain ⟨id,o0,h1,h2,h3⟩:=JcE (fun i hi=>(hall i hi).1) hk
   have:o0=.ext s b:=by cases o0 <;> simp[Jfk]at h3; simp[h3]
   subst this
   exact absurd h2 ((hall id (Gr h1)).2 s b)
  ·obtain ⟨id,o0,h1,h2,rfl,h4⟩:=key0 k o x hk hx
   rw[QV]at ha
   exact fun hB=>hs.extsep id o0 x h2 ha h4 (.inr (hB.resolve_left fun h=>h))
 refine (h _ w vs hs0 (YF ho args _ hv)).mono ?_
 rintro ev w' ⟨rv,m',v,H',rfl,hext,hs',hrel,hR⟩
 have hl0:(Km σ H).length=σ.length:=by simp[Km]
 have hol:own0.length=σ.length:=by simp[own0]
 have hl1:σ.length≤m'.own.length:=by rw[← hl0]; exact hext.long (by rw[hl0,hol]; exact Gh _)
 have hl2:=hs'.len
 have hτ:∀ (j:Nat) x,m'.own[j]? = some x→(m.own++m'.own.drop σ.length)[tau σ H.length j]? = some x:=fun j x hj=>by
  unfold tau
  by_cases hjl:j < σ.length
  ·rw[if_pos hjl]
   have hid:=Ga hjl
   have hlt:=(hall _ (Gc hjl)).1
   have e1:own0[j]? = some (m.own[σ[j]]'(by omega)):=by rw[ho j _ hid,Ga]
   have e2:=hext.base j _ (by rw[hl0]; exact hjl) e1
   rw[hj]at e2
   rw[Gb,hid,Option.getD_some,Gv (by omega),Ga (by omega)]
   exact e2.symm
  ·rw[if_neg hjl,GA (by omega),GR]
   rw[show σ.length+(H.length+(j-σ.length)-m.own.length)=j by omega]
   exact hj
 have ownM:∀ B,owned { own:=own0,imm:=m.imm,ext:=fun _=>False } (Km σ H) B→∃ id o x,id∈σ∧H[id]? = some o∧o.alive=true∧m.own[id]? = some x∧x.B=B:=by
  rintro B (h | ⟨k,o,x,hk,hal,hx,rfl⟩)
  ·exact h.elim
  ·obtain ⟨id,o0,h1,h2,rfl,h4⟩:=key0 k o x hk hx
   rw[QV]at hal
   exact ⟨id,o0,x,Gr h1,h2,hal,h4,rfl⟩
 have ownM2:∀ B,owned { own:=own0,imm:=m.imm,ext:=fun _=>False } (Km σ H) B→owned m H B:=fun B hB=>by
  obtain ⟨id,o,x,_,h1,h2,h3,h4⟩:=ownM B hB
  exact .inr ⟨id,o,x,h1,h2,h3,h4⟩
 have hoth:∀ (k:Nat) o x,k∉σ→H[k]? = some o→o.alive=true→m.own[k]? = some x→¬ owned { own:=own0,imm:=m.imm,ext:=fun _=>False } (Km σ H) x.B:=fun k o x h1 hk hal hx hB=>by
  obtain ⟨id,o',x',q1,q2,q3,q4,q5⟩:=ownM _ hB
  have:=hs.sep k id _ _ _ _ hk q2 hal q3 hx q4 q5.symm
  subst this
  exact h1 q1
 have hsame:∀ (k:Nat) o x,k∉σ→H[k]? = some o→o.alive=true→m.own[k]? = some x→w'.heap[x.B]? = w.heap[x.B]?:=fun k o x h1 hk hal hx=>hext.frame _ (XD hs hk hal hx) (hoth k o x h1 hk hal hx)
 have key:∀ (k:Nat) o x,(Jb9 σ H.length 0 H' H)[k]? = some o→(m.own++m'.own.drop σ.length)[k]? = some x→(∃ i o0,H'[i]? = some o0∧o=moO (tau σ H.length) o0∧m'.own[i]? = some x∧tau σ H.length i=k)∨(H[k]? = some o∧m.own[k]? = some x∧k∉σ):=fun k o x hk hx=>by
  rcases backL_get H 0 k o hk with ⟨i,h1,h2,h3⟩ | ⟨h1,h2⟩ | ⟨i,h1,h2⟩
  ·rw[Gn]at h2
   have h4:=JaE h2
   have hi:=(Gj.1 h4).1
   have h5:tau σ H.length i=k:=by unfold tau; rw[if_pos hi,Gb,h4]; rfl
   have h6:=hτ i _ (Ga (show i < m'.own.length by omega))
   rw[h5,hx]at h6
   refine .inl ⟨i,H'[i]'(by omega),Ga (by omega),?_,?_,h5⟩
   ·rw[h3,Gb,Ga (show i < H'.length by omega)]; rfl
   ·rw[Ga (show i < m'.own.length by omega),← h6]
  ·rw[Gn]at h1
   have hkl:=(Gj.1 h2).1
   rw[Gv (by omega)]at hx
   exact .inr ⟨h2,hx,Jeo σ 0 h1⟩
  ·obtain ⟨o0,h3,h4⟩:=Option.map_eq_some_iff.1 h2
   have hil:=(Gj.1 h3).1
   have h5:tau σ H.length (σ.length+i)=k:=by unfold tau; rw[if_neg (by omega)]; omega
   have h6:=hτ (σ.length+i) _ (Ga (show σ.length+i < m'.own.length by omega))
   rw[h5,hx]at h6
   refine .inl ⟨σ.length+i,o0,h3,h4.symm,?_,h5⟩
   rw[Ga (show σ.length+i < m'.own.length by omega),← h6]
 have hnew:∀ (i:Nat) o0 x,H'[i]? = some o0→o0.alive=true→m'.own[i]? = some x→owned { own:=own0,imm:=m.imm,ext:=fun _=>False } (Km σ H) x.B∨w.heap.size≤x.B:=fun i o0 x h1 h2 h3=>hext.newOwn x.B (.inr ⟨i,o0,x,h1,h2,h3,rfl⟩)
 have hle:=KA.append m.own (m'.own.drop σ.length)
 refine ⟨rv,{ m with own:=m.own++m'.own.drop σ.length,imm:=m'.imm },mo (tau σ H.length) v,_,rfl,⟨hext.size,fun B hB hn=>hext.frame B hB fun h=>hn (ownM2 B h),hext.imm,?_,fun B i v hv=>?_,fun k x _ hx=>hle _ _ hx,fun h=>by simp; omega,hext.same⟩,⟨by rw[JdS]; simp; omega,fun k o x hk hx=>?_,hs'.imm,hs'.one,fun k k' o o' x x' hk hk' ha ha' hx hx' hB=>?_,fun k o x hk hal hx i hi=>?_,fun k a b hk=>?_,fun k o x hk hal hx=>?_,fun B hB=>Nat.lt_of_lt_of_le (hs.extlt B hB) hext.size,hs'.gl.1,hs.gl.2⟩,Jez hτ v rv hrel,v,H',hR,rfl,rfl⟩
 ·rintro B (hB | ⟨k,o,x,hk,hal,hx,rfl⟩)
  ·exact .inl (.inl hB)
  ·rcases key k o x hk hx with ⟨i,o0,h1,rfl,h3,_⟩ | ⟨h1,h2,_⟩
   ·rw[Yr]at hal
    rcases hnew i o0 x h1 hal h3 with h | h
    ·exact .inl (ownM2 _ h)
    ·exact .inr h
   ·exact .inl (.inr ⟨k,o,x,h1,hal,h2,rfl⟩)
 ·rcases hext.newImm B i v hv with h | h | h
  ·exact .inl h
  ·exact .inr (.inl (ownM2 B h))
  ·exact .inr (.inr h)
 ·rcases key k o x hk hx with ⟨i,o0,h1,rfl,h3,_⟩ | ⟨h1,h2,h3⟩
  ·exact moO_rel hτ (hs'.obj i o0 x h1 h3)
  ·by_cases hal:o.alive=true
   ·exact Ki hle hext.imm (fun _=>hsame k o x h3 h1 hal h2) (hs.obj k o x h1 h2)
   ·cases o <;> simp[CObj.alive]at hal <;> trivial
 ·have cross:∀ (i:Nat) o0 (k:Nat) o x y,H'[i]? = some o0→o0.alive=true→m'.own[i]? = some x→H[k]? = some o→o.alive=true→m.own[k]? = some y→k∉σ→x.B≠y.B:=fun i o0 k o x y h1 h2 h3 h4 h5 h6 h7 hB=>by
   rcases hnew i o0 x h1 h2 h3 with h | h
   ·exact hoth k o y h7 h4 h5 h6 (hB▸h)
   ·have:=XD hs h4 h5 h6; omega
  rcases key k o x hk hx with ⟨i,o0,h1,rfl,h3,h4⟩ | ⟨h1,h2,h3⟩ <;> rcases key k' o' x' hk' hx' with ⟨i',o0',h1',rfl,h3',h4'⟩ | ⟨h1',h2',h3'⟩
  ·rw[Yr]at ha ha'
   have:=hs'.sep i i' _ _ _ _ h1 h1' ha ha' h3 h3' hB
   subst this
   exact h4.symm.trans h4'
  ·rw[Yr]at ha
   exact absurd hB (cross i o0 k' o' x x' h1 ha h3 h1' ha' h2' h3')
  ·rw[Yr]at ha'
   exact absurd hB.symm (cross i' o0' k o x' x h1' ha' h3' h1 ha h2 h3)
  ·exact hs.sep k k' _ _ _ _ h1 h1' ha ha' h2 h2' hB
 ·rcases key k o x hk hx with ⟨j,o0,h1,rfl,h3,h4⟩ | ⟨h1,h2,h3⟩
  ·rw[Yr]at hal
   exact hs'.ro j _ _ h1 hal h3 i hi
  ·cases hv:m'.imm x.B i with
   |none=>rfl
   |some v=>
    rcases hext.newImm _ _ _ hv with h | h | h
    ·rw[hs.ro k o x h1 hal h2 i hi]at h; cases h
    ·exact absurd h (hoth k o x h3 h1 hal h2)
    ·have:=XD hs h1 hal h2; omega
 ·have hkl:=(Gj.1 hk).1
  rw[JdS]at hkl
  obtain ⟨x,hx⟩:∃ x,(m.own++m'.own.drop σ.length)[k]? = some x:=⟨_,Ga (by simp; omega)⟩
  rcases key k _ x hk hx with ⟨j,o0,h1,h2,h3,h4⟩ | ⟨h1,h2,h3⟩
  ·have:o0=.ext a b:=by cases o0 <;> simp[moO]at h2; simp[h2]
   subst this
   exact (hs'.ext j a b h1).elim
  ·refine E.stable _ _ _ _ _ _ _ (hs.ext k a b h1) (fun B hB=>hext.frame B (hs.extlt B hB) fun h=>?_) hext.size hext.imm (fun B i v hv=>?_) hs'.imm hs'.one
   ·obtain ⟨id,o,x,_,q1,q2,q3,q4⟩:=ownM B h
    subst q4
    exact hs.extsep id _ _ q1 q2 q3 hB
   ·rcases hext.newImm B i v hv with h | h | h
    ·exact .inl h
    ·refine .inr fun hB=>?_
     obtain ⟨id,o,x,_,q1,q2,q3,q4⟩:=ownM B h
     subst q4
     exact hs.extsep id _ _ q1 q2 q3 (.inl hB)
    ·refine .inr fun hB=>?_
     have:=hs.extlt B (.inl hB)
     omega
 ·rcases key k o x hk hx with ⟨i,o0,h1,rfl,h3,h4⟩ | ⟨h1,h2,h3⟩
  ·rw[Yr]at hal
   intro hB
   rcases hnew i o0 x h1 hal h3 with h | h
   ·obtain ⟨id,o,y,_,q1,q2,q3,q4⟩:=ownM _ h
    rw[← q4]at hB
    exact hs.extsep id _ _ q1 q2 q3 hB
   ·have:=hs.extlt _ hB; omega
  ·exact hs.extsep k o x h1 hal h2
end
section
variable {P:Program}{E:Env}{n0:Nat}{N:Fr}{Q:Exit→List CV→List CObj→Prop}{k:List KItem}{T:List CV}{H:List CObj}
end
end
end Go.Cm
end
section
set_option maxRecDepth 100000
namespace Go.Cm
section
def looks:IOp→Bool
 |.load _ _ _=>true
 |.iaddr _ _ _=>true
 |_=>false
theorem looks_heap {op:IOp}{T:List CV}{H H':List CObj}{c:Cond}{v:CV}(hl:looks op=true) (he:exec op T H=some (c,v,H')):H'=H:=by
 cases op <;> simp only[looks]at hl <;> first | (cases hl; done) | skip
 all_goals
  simp only[exec]at he
  repeat' split at he
  all_goals first | (cases he; done) | (simp only[Option.some.injEq,Prod.mk.injEq]at he; exact he.2.2.symm)
def footQ (b:Nat):Foot×Foot:=if b=0 then Foot.no else if b=1 then (.all,.on []) else Foot.any
def xexec (b:Nat) (op:IOp) (T:List CV) (H:List CObj):Option (Cond×CV×List CObj):=if b=0 then JfE false op T H else if b=1 then (if looks op=true then exec op T H else none) else exec op T H
section
variable (P:Program) (E:Env) (n0:Nat) (N:Fr) (Q:Exit→List CV→List CObj→Prop)
def vdx (k:List KItem):List IOper→List Nat→List CV→List CObj→Prop
 |[],_,T,H=>Kk P E n0 N Q k T H
 |_::_,[],_,_=>False
 |⟨d,op,none⟩::l,b::bs,T,H=>match xexec b op T H with
  |some (c,v,H')=>c.holds∧vdx k l bs (put T d v) H'
  |none=>∃ v H',HS P E ⟨d,op,none⟩ T H v H' (footQ b)∧vdx k l bs (put T d v) H'
 |⟨d,op,some g⟩::l,b::bs,T,H=>∃ v H',HS P E ⟨d,op,some g⟩ T H v H' (footQ b)∧vdx k l bs (put T d v) H'
def vdxR (r:Option (Cond×CV×List CObj)) (d:Option Nat) (op:IOp) (b:Nat) (k:List KItem) (l:List IOper) (bs:List Nat) (T:List CV) (H:List CObj):Prop:=
 match r with
 |some (c,v,H')=>c.holds∧vdx P E n0 N Q k l bs (put T d v) H'
 |none=>∃ v H',HS P E ⟨d,op,none⟩ T H v H' (footQ b)∧vdx P E n0 N Q k l bs (put T d v) H'
end
section
variable {P:Program}{E:Env}{n0:Nat}{N:Fr}{Q:Exit→List CV→List CObj→Prop}{H H':List CObj}{T:List CV}{k:List KItem}{l:List IOper}{es:List (List Nat)}{bs:List Nat}
theorem vx_nil:vdx P E n0 N Q k [] bs T H=Kk P E n0 N Q k T H:=propext (by cases bs <;> exact Iff.rfl)
theorem vx_op {d:Option Nat}{op:IOp}{b:Nat}:vdx P E n0 N Q k (⟨d,op,none⟩::l) (b::bs) T H=vdxR P E n0 N Q (xexec b op T H) d op b k l bs T H:=propext Iff.rfl
theorem vdxR_some {d:Option Nat}{op:IOp}{b:Nat}{c:Cond}{v:CV}:vdxR P E n0 N Q (some (c,v,H')) d op b k l bs T H=(c.holds∧vdx P E n0 N Q k l bs (put T d v) H'):=propext Iff.rfl
theorem vdx_look {T':List CV}{H':List CObj}(hT:T=T') (hH:H=H'):vdx P E n0 N Q k l bs T H=vdx P E n0 N Q k l bs T' H':=by rw[hT,hH]
theorem vdxR_look {r r':Option (Cond×CV×List CObj)}{d:Option Nat}{op:IOp}{b:Nat}(h:r=r'):vdxR P E n0 N Q r d op b k l bs T H=vdxR P E n0 N Q r' d op b k l bs T H:=by rw[h]
attribute [congr] vdx_look vdxR_look
theorem hs_ro {io:IOper}{x:CV}{c:Cond}(hg:GOk T io.guard) (he:exec io.op T H=some (c,x,H)) (hc:c.holds):HS P E io T H x H (.all,.on []):=by
 have h:=hs_op (P:=P) (E:=E) hg he hc
 refine ⟨fun _ _=>rfl,fun T2 H2 ag hx=>?_⟩
 have hH:H2=H:=Jdv fun y=>hx y trivial
 obtain ⟨H2',h1,_,h3⟩:=h.run T2 H2 ag fun y _=>hx y trivial
 have hH':H2'=H:=Jdv fun y=>h1 y trivial
 subst hH hH'
 exact ⟨_,fun y hy=>(by cases hy),fun _ _=>rfl,h3⟩
theorem xexec_sound {b:Nat}{d:Option Nat}{op:IOp}{c:Cond}{v:CV}(he:xexec b op T H=some (c,v,H')) (hc:c.holds):HS P E ⟨d,op,none⟩ T H v H' (footQ b):=by
 unfold xexec at he
 unfold footQ
 split at he
 ·rename_i h
  rw[if_pos h]
  exact Jba he hc
 ·rename_i h
  rw[if_neg h]
  split at he
  ·rename_i h1
   rw[if_pos h1]
   split at he
   ·rename_i h2
    obtain rfl:=looks_heap h2 he
    exact hs_ro (.inl rfl) he hc
   ·cases he
  ·rename_i h1
   rw[if_neg h1]
   exact hs_op (.inl rfl) he hc
theorem vdx_vals:∀ (l:List IOper) (bs:List Nat) (T:List CV) (H:List CObj),vdx P E n0 N Q k l bs T H→l.length=bs.length→∃ (v:Nat→CV) (hh:Nat→List CObj),hh 0=H∧(∀ j,j < l.length→HS P E (QR l j) (tst l v T j) (hh j) (v j) (hh (j+1)) (XF (bs.map footQ) j))∧Kk P E n0 N Q k (tst l v T l.length) (hh l.length)
 |[],bs,T,H,h,_=>⟨fun _=>.un,fun _=>H,rfl,by simp,by rw[vx_nil]at h; exact h⟩
 |io::l,[],T,H,h,hl=>by simp at hl
 |io::l,b::bs,T,H,h,hl=>by
  have hex:∃ v0 H',HS P E io T H v0 H' (footQ b)∧vdx P E n0 N Q k l bs (put T io.dst v0) H':=by
   obtain ⟨d,op,g⟩:=io
   cases g with
   |none=>
    rw[vx_op]at h
    unfold vdxR at h
    split at h
    ·rename_i c v H' he
     exact ⟨v,H',xexec_sound he h.1,h.2⟩
    ·exact h
   |some g=>exact h
  obtain ⟨v0,H',h1,h2⟩:=hex
  obtain ⟨v,hh,h0,h3,h4⟩:=vdx_vals l bs _ _ h2 (by simpa using hl)
  let v':Nat→CV:=fun j=>match j with | 0=>v0 | j+1=>v j
  let hh':Nat→List CObj:=fun j=>match j with | 0=>H | j+1=>hh j
  have key:∀ j,tst (io::l) v' T (j+1)=tst l v (put T io.dst v0) j:=by
   intro j
   induction j with
   |zero=>rfl
   |succ j ih=>rw[tst,ih]; rfl
  refine ⟨v',hh',rfl,fun j hj=>?_,?_⟩
  ·cases j with
   |zero=>
    have e:hh' (0+1)=H':=h0
    rw[e]; exact h1
   |succ j=>rw[key]; exact h3 j (by simpa using hj)
  ·rw[Gf,key]; exact h4
theorem Je1 (bs:List Nat) (hm:P.follows .mixedOrders=true) (hord:(l.length == bs.length && (JaW l.length es (clo es) && Qc l (clo es) (bs.map footQ)))=true) (h:vdx P E n0 N Q k l bs T H):Ok P E n0 N Q (.code (.dreg l es)::k) T H:=by
 simp only[Gg,beq_iff_eq]at hord
 obtain ⟨v,hh,h0,h1,h2⟩:=vdx_vals l bs T H h hord.1
 exact Jfr hord.2.1 hm hord.2.2 h1 h0 (JB _ _ _ h2)
theorem vx_call {d:Option Nat}{f:Nat}{xa:List IArg}{v:CV}{H':List CObj}(hcall:CallsC P E f (xa.map (J5 T)) H fun v2 H2=>v2=v∧H2=H') (h:vdx P E n0 N Q k l bs (put T d v) H'):vdxR P E n0 N Q none d (.call f xa) 2 k l bs T H:=
 ⟨v,H',Jdu (.inl rfl) hcall,h⟩
end
theorem xexec0 {op:IOp}{T:List CV}{H:List CObj}:xexec 0 op T H=JfE false op T H:=rfl
theorem xexec1 {op:IOp}{T:List CV}{H:List CObj}:xexec 1 op T H=if looks op=true then exec op T H else none:=rfl
theorem xexec2 {op:IOp}{T:List CV}{H:List CObj}:xexec 2 op T H=exec op T H:=rfl
attribute [go_sem] xexec0 xexec1 xexec2 looks vx_nil vx_op vdxR_some
end
end Go.Cm
end
end
