/-
  A part of the proof. Conditions: none.
-/
import Derived.Test.YtaiboeciecfgoaaGreatDoorRPkRK
set_option linter.unusedSimpArgs false
set_option linter.unusedVariables false
noncomputable section
section
set_option maxRecDepth 100000
set_option maxHeartbeats 40000000
open Go.Proofs
namespace Go.Cm
theorem refKin28 (t:Tr) (x:Nd) (hx:x.Fit) (hm:t.nodes.length≤1400) (hn:∀ y∈t.nodes,y.k < 256) (hk:∀ k∈x.kids,0≤k∧k < t.nodes.length) (h28:x.k=28) :
  Fn Tryz.prog 93 [t.cv,.agg x.cv] (.bool (KA x.k x.n (lets t.nodes x))):=by
 have hkn:=hx.kidn
 have hll:=Qq (l:=t.nodes) (x:=x)
 have hK:∀ (c:Nat) (b:UInt8),(c,b)∈([(200,101),(201,116),(202,99),(40,66),(41,83),(42,98),(43,73),(44,78),(45,71),(48,79),(64,80)]:List (Nat×UInt8))→∀ p q:Int,Fn Tryz.prog 115 [t.cv,.agg x.cv,.int .i64 p,.int .i64 q,.int .u8 c] (.bool (JL (lets t.nodes x) p q b)):=by
  intro c b hcb p q
  have:=refKids t x hx hm hk p q c
  rw[kids_conv hn hk (fun k h=>cls_all ⟨k,h⟩ (c,b) hcb)]at this
  exact this
 have hM:=refMany t x hx hk 41
 rw[Jeo (b:=83) hn hk (fun k h=>(let_all ⟨k,h⟩).1)]at hM
 have hc83:KE 83 (lets t.nodes x)≤30:=Nat.le_trans (cntB_le _ _) (by omega)
 have K200:=hK 200 101 (by decide)
 have K41:=hK 41 83 (by decide)
 have K43:=hK 43 73 (by decide)
 have K44:=hK 44 78 (by decide)
 have K45:=hK 45 71 (by decide)
 simp only[Int.cast_ofNat_Int]at K200 K41 K43 K44 K45 hM
 obtain ⟨k,text,n,kids,pl⟩:=x
 simp only at h28
 subst h28
 generalize lets t.nodes ⟨28,text,n,kids,pl⟩=hv at hll K200 K41 K43 K44 K45 hM hc83 ⊢
 obtain ⟨cs,hcs⟩:∃ cs:Int,cs=(KE 83 hv:Int):=⟨_,rfl⟩
 rw[← hcs]at hM
 simp only[Nd.cv,Tr.cv,Tr.row]at hkn hll K200 K41 K43 K44 K45 hM ⊢
 clear hK
 obtain ⟨m,hmm⟩:∃ m:Int,m=(kids.length:Int):=⟨_,rfl⟩
 refine Ja c93_ok rfl rfl fun N=>?_
 simp (maxSteps:=2000000) -implicitDefEqProofs only[c93,go_sem,Jf,Int.cast_ofNat_Int,← hmm]
 refine JV hM ?_
 by_cases h0:0≤n
 ·have f0:((0:Int)≤n)=True:=eq_true h0
  by_cases h1:n < m
  ·have f1:(n < m)=True:=eq_true h1
   simp (maxSteps:=2000000) -implicitDefEqProofs only[go_sem,Jf,← hmm,f0,f1]
   have hkk:KA 28 n hv=(JL hv 0 n 73 && JL hv n (n+1) 101 && JL hv (n+1) (n+1+cs) 83 && JL hv (n+1+cs) (m-1) 78 && JL hv (m-1) m 71):=by
    simp[KA,hll,← hmm,← hcs,h0,h1]
   rw[hkk]
   refine JN (gok rfl) (K43 (0) n) ?_
   cases g0:JL hv (0) n 73 with
   |false=>simp (maxSteps:=2000000) -implicitDefEqProofs only[go_sem,Jf,← hmm]; try simp
   |true=>
    simp (maxSteps:=2000000) -implicitDefEqProofs only[go_sem,Jf,← hmm]
    refine ⟨Ji,?_⟩
    refine JN (gok rfl) (K200 (n) (n+1)) ?_
    cases g1:JL hv (n) (n+1) 101 with
    |false=>simp (maxSteps:=2000000) -implicitDefEqProofs only[go_sem,Jf,← hmm]; try simp
    |true=>
     simp (maxSteps:=2000000) -implicitDefEqProofs only[go_sem,Jf,← hmm]
     refine ⟨Ji,?_⟩
     refine ⟨Ji,?_⟩
     refine ⟨Ji,?_⟩
     refine JN (gok rfl) (K41 (n+1) (n+1+cs)) ?_
     cases g2:JL hv (n+1) (n+1+cs) 83 with
     |false=>simp (maxSteps:=2000000) -implicitDefEqProofs only[go_sem,Jf,← hmm]; try simp
     |true=>
      simp (maxSteps:=2000000) -implicitDefEqProofs only[go_sem,Jf,← hmm]
      refine ⟨Ji,?_⟩
      refine ⟨Ji,?_⟩
      refine ⟨Ji,?_⟩
      refine JN (gok rfl) (K44 (n+1+cs) (m-1)) ?_
      cases g3:JL hv (n+1+cs) (m-1) 78 with
      |false=>simp (maxSteps:=2000000) -implicitDefEqProofs only[go_sem,Jf,← hmm]; try simp
      |true=>
       simp (maxSteps:=2000000) -implicitDefEqProofs only[go_sem,Jf,← hmm]
       refine ⟨Ji,?_⟩
       refine JN (gok rfl) (K45 (m-1) m) ?_
       cases g4:JL hv (m-1) m 71 with
       |false=>simp (maxSteps:=2000000) -implicitDefEqProofs only[go_sem,Jf,← hmm]; try simp
       |true=>
        simp (maxSteps:=2000000) -implicitDefEqProofs only[go_sem,Jf,← hmm]
        try simp
  ·have f1:(n < m)=False:=eq_false h1
   simp (maxSteps:=2000000) -implicitDefEqProofs only[go_sem,Jf,← hmm,f0,f1]
   simp[KA,hll,← hmm,h1]
 ·have f0:((0:Int)≤n)=False:=eq_false h0
  simp (maxSteps:=2000000) -implicitDefEqProofs only[go_sem,Jf,← hmm,f0]
  simp[KA,h0]
end Go.Cm
end
section
open Go.Shelf Go.RowKit Go.Proofs
namespace Go.Proofs
open Go.Cm in
set_option maxHeartbeats 4000000 in
set_option maxRecDepth 100000 in
theorem Tryz.kinMax_walk (ta tb:Value) (s:ByteArray) (b:Option Addr) (len cap:Nat) (pl:Int) (hl:len≤1000) (w:World) :
  Calls Tryz.prog 93 #[.agg #[ta,tb],.agg #[.int .u8 41,.string s,.int .i64 9223372036854775807,.slice b len cap,.int .i64 pl]] w fun e w'=>e=.returned (.bool false)∧Below w.heap.size w w':=by
 have hw:wrap64 9223372036854775808 = -9223372036854775808:=by decide +kernel
 have hne:¬ ((len:Int)=wrap64 9223372036854775808):=by omega
 go_enter Tryz.func93,Tryz.ntmps93
 go_wp2
 all_goals first
  |(exfalso; omega)
  |skip
 go_ret
 exact ⟨rfl,((Below.refl _ _).alloc (Nat.le_refl _) _).alloc (show _≤(w.heap.push _).size by rw[Array.size_push]; omega) _⟩
end Go.Proofs
namespace Go.Cm
theorem refKinMax (t:Tr) (x:Nd) (hx:x.Fit) (h41:x.k=41) (hm:x.n=9223372036854775807):Fn Tryz.prog 93 [t.cv,.agg x.cv] (.bool (KA x.k x.n (lets t.nodes x))):=by
 have hkn:=hx.kidn
 have hll:=Qq (l:=t.nodes) (x:=x)
 have hf:KA x.k x.n (lets t.nodes x)=false:=by
  rw[h41,hm]
  have:((lets t.nodes x).length:Int)≠9223372036854775808:=by omega
  simp[KA,this]
 rw[hf]
 intro E H
 refine Kc fun m w vs hs hv=>?_
 obtain ⟨k,text,n,kids,pl⟩:=x
 simp only at h41 hm
 subst h41 hm
 simp only[JE,rel,Tr.cv,Tr.row,Nd.cv]at hv
 obtain ⟨r,rs,e,⟨v1,rfl,ra,ras,e1,-,rb,rbs,e2,-,e3⟩,x,xs,e4,⟨v2,rfl,y1,ys1,f1,g1,y2,ys2,f2,g2,y3,ys3,f3,g3,y4,ys4,f4,g4,y5,ys5,f5,g5,f6⟩,e5⟩:=hv
 have hvs:vs=#[.agg v1,.agg v2]:=by cases vs; simp_all
 have h1:v1=#[ra,rb]:=by cases v1; simp_all
 have h2:v2=#[y1,y2,y3,y4,y5]:=by cases v2; simp_all
 subst hvs h1 h2 g1 g2 g3 g5
 have h4:∃ b c,y4=.slice b kids.length c:=by
  rcases g4 with ⟨-,h,b,rfl⟩ | ⟨B,o,c,rfl,-⟩
  ·have:kids.length=0:=by rw[← Jf (l:=kids),h]; rfl
   exact ⟨b,0,by rw[this]⟩
  ·exact ⟨_,c,by rw[Jf]⟩
 obtain ⟨b,c,rfl⟩:=h4
 exact ⟨_,Tryz.kinMax_walk ra rb ⟨⟨text⟩⟩ b kids.length c pl (by simp only at hkn; omega) w,rfl⟩
theorem refKin (t:Tr) (x:Nd) (hx:x.Fit) (hm:t.nodes.length≤1400) (hn:∀ y∈t.nodes,y.k < 256) (hk:∀ k∈x.kids,0≤k∧k < t.nodes.length):Fn Tryz.prog 93 [t.cv,.agg x.cv] (.bool (KA x.k x.n (lets t.nodes x))):=by
 by_cases h28:x.k=28
 ·exact refKin28 t x hx hm hn hk h28
 ·by_cases h41:x.k=41∧x.n=9223372036854775807
  ·exact refKinMax t x hx h41.1 h41.2
  ·exact refKin1 t x hx hm hn hk (fun h=>by
   have h5:x.n≤9223372036854775807:=hx.n.2
   have h6:x.n≠9223372036854775807:=fun e=>h41 ⟨h,e⟩
   omega) h28
end Go.Cm
end
end
