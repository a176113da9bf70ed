/-
  A part of the proof. Conditions: none.
-/
import Derived.Test.YtaiboeciecfgoaaGreatDoorRP41
import Derived.Test.YtaiboeciecfgoaaGreatDoorRS2
set_option linter.unusedSimpArgs false
set_option linter.unusedVariables false
open Go.Proofs.Tryz renaming prog→Gb
open List renaming replicate→Ga,drop_replicate→Gc,map_append→Gd,map_take→Gf
noncomputable section
section
set_option maxRecDepth 100000
open Go.RowKit Go.Proofs
namespace Go.Cm
section
theorem inrU64 {x:Int}(h1:0≤x) (h2:x≤18446744073709551615):InR .u64 x:=⟨h1,h2⟩
section
variable {P:Program}{E:Env}{H:List CObj}{T:List CV}
theorem CallsC.wk {f:Nat}{args:List CV}{R R':CV→List CObj→Prop}(h:CallsC P E f args H R) (hR:∀ v H',R v H'→∃ v',Cm.wk v v'∧R' v' H'):CallsC P E f args H R':=by
 intro m w vs hs hv
 refine (h m w vs hs hv).mono ?_
 rintro e w' ⟨r,m',v,H',h1,h2,h3,h4,h5⟩
 obtain ⟨v',w1,w2⟩:=hR _ _ h5
 exact ⟨r,m',v',H',h1,h2,h3,w1 _ _ _ h4,w2⟩
theorem wk_cap {i o l c:Nat}:wk (.slc i o l (some c)) (.slc i o l none):=by
 intro own imm v h
 simp only[rel]at h ⊢
 obtain ⟨x,a,c',h1,h2,h3,h4,h5⟩:=h
 exact ⟨x,a,c',h1,h2,h3,fun _ h=>(by cases h),h5⟩
theorem hs_sl {d:Option Nat}{z:Nat}{x:IArg}{lo hi mx:Option IArg}{id off len:Nat}{cap:Option Nat}{c:Cond}{v:CV}(ha:JQ T x=.slc id off len cap) (he:exec (.slice z x lo hi mx) T H=some (c,v,H)) (hc:c.holds) :
  HS P E ⟨d,.slice z x lo hi mx,none⟩ T H v H (.on [id+1],.on []):=by
 refine ⟨fun _ _=>rfl,fun T2 H2 hag hx=>⟨H2,fun y hy=>(by cases hy),fun _ _=>rfl,fun _ _ _ _ _ hok=>?_⟩⟩
 have hH:H2[id]? = H[id]?:=by
  have:=hx (id+1) (by simp[Foot.has])
  simpa [hat]using this
 have hE:∀ lo hi mx,K6 z H2 (.slc id off len cap) lo hi mx=K6 z H (.slc id off len cap) lo hi mx:=fun lo hi mx=>by simp only[K6,hH]
 have he2:exec (.slice z x lo hi mx) T2 H2=some (c,v,H2):=by
  rw[← Kt (Jh hag).2]
  simp only[exec,ha,hE]at he ⊢
  split at he
  ·split at he
   ·rename_i h1
    simp only[Option.some.injEq,Prod.mk.injEq]at he
    obtain ⟨rfl,rfl,_⟩:=he
    simp[h1]
   ·cases he
  ·cases he
 exact Jcr (.inl rfl) he2 hc hok
theorem sortRow {id:Nat}{l:List Int}{cap:Option Nat}(hl:l≠[]) (hbig:l.length≤1000000) (hH:H[id]? = some (.arr 1 (iz l))):CallsC Gb E 82 [.slc id 0 l.length cap] H fun v' H'=>v'=.tup []∧H'=H.set id (.arr 1 (iz (l.mergeSort fun x y=>decide (x≤y)))):=
 callsC_sort hl hbig hH fun blk off c w h1 h2 h3=>Tryz.slices_Sort_int blk off c l w h1 h2 h3
theorem compactRow {id:Nat}{l:List Int}{cap:Option Nat}(hl:l≠[]) (hbig:l.length≤1000000) (hH:H[id]? = some (.arr 1 (iz l))):CallsC Gb E 83 [.slc id 0 l.length cap] H fun v' H'=>v'=.slc id 0 (Lib.compact l).length cap∧H'=H.set id (.arr 1 (iz (Lib.compact l++Ga (l.length-(Lib.compact l).length) 0))):=
 JeP hl hbig hH fun blk off c w h1 h2 h3=>Tryz.slices_Compact_int blk off c l w h1 h2 h3
theorem deleteRow {id i:Nat}{l:List Int}{cap:Option Nat}(hi:i < l.length) (hH:H[id]? = some (.arr 1 (iz l))):CallsC Gb E 60 [.slc id 0 l.length cap,.int .i64 (i:Int),.int .i64 ((i+1:Nat):Int)] H fun v' H'=>v'=.slc id 0 (l.length-1) cap∧H'=H.set id (.arr 1 (iz (l.take i++l.drop (i+1)++[0]))):=
 YN (ys:=[(i:Int),((i+1:Nat):Int)]) (fun blk off c=>.slice (some ⟨blk,off,none⟩) (l.length-1) c) (by rintro rfl; simp at hi) (by simp; omega) hH (fun own imm x c hx hz hc hcap hroom=>by
  simp only[rel]
  exact ⟨x,_,c,hx,rfl,by omega,hcap,fun _=>by rw[Nat.zero_mul,Nat.add_zero],by rw[hz]; omega⟩) fun blk off c w hc h1 _=>(delOne Tryz.laysNm223 blk off c i (i+1) rfl l w h1 hc hi).mono fun e w' ⟨h3,n,h4⟩=>⟨h3,n,#[],by rw[Sort.grow_empty]; exact h4⟩
theorem sortNil:Fn Gb 82 [.nils] (.tup []):=by
 intro E H
 refine Kc fun m w vs hs hv=>?_
 simp only[JE,rel]at hv
 obtain ⟨r,rs,e,rfl,rfl⟩:=hv
 have hvs:vs=#[.slice none 0 0]:=by cases vs; simp_all
 subst hvs
 exact ⟨_,(Tryz.slices_Sort_int_none none 0 w).mono fun e w' ⟨h1,h2⟩=>⟨h1,by rw[h2]; exact Below.refl _ _⟩,by simp only[rel,JE]; exact ⟨_,rfl,rfl⟩⟩
theorem compactNil:Fn Gb 83 [.nils] .nils:=by
 intro E H
 refine Kc fun m w vs hs hv=>?_
 simp only[JE,rel]at hv
 obtain ⟨r,rs,e,rfl,rfl⟩:=hv
 have hvs:vs=#[.slice none 0 0]:=by cases vs; simp_all
 subst hvs
 exact ⟨_,(Tryz.slices_Compact_int_empty none 0 w).mono fun e w' ⟨h1,h2⟩=>⟨h1,by rw[h2]; exact Below.refl _ _⟩,by simp only[rel]⟩
theorem mulOne (m:Nat) (hm:m < 18446744073709551616):Fn Gb 163 [.int .u64 1,.int .u64 (m:Int)] (.tup [.int .u64 0,.int .u64 (m:Int)]):=by
 intro E H
 refine Kc fun m' w vs hs hv=>?_
 simp only[JE,rel]at hv
 obtain ⟨r,rs,e,rfl,r2,rs2,rfl,rfl,rfl⟩:=hv
 have hvs:vs=#[.int .u64 ((1:Nat):Int),.int .u64 (m:Int)]:=by cases vs; simp_all
 subst hvs
 have h:=Tryz.bits_Mul 1 m (by omega) hm w
 rw[Nat.one_mul,Nat.div_eq_of_lt hm,Nat.mod_eq_of_lt hm]at h
 exact ⟨_,h.mono fun e w' ⟨h1,h2⟩=>⟨h1,by rw[h2]; exact Below.refl _ _⟩,by simp only[rel,JE]; exact ⟨_,rfl,_,_,rfl,rfl,_,_,rfl,rfl,rfl⟩⟩
end
def repS (v:Int) (m k:Nat):List Int:=Ga k v++Ga (m-k) 0
theorem repS_len {v:Int}{m k:Nat}(h:k≤m):(repS v m k).length=m:=by simp[repS]; omega
theorem repS_step {v:Int}{m k q:Nat}(h:k+q≤m) (hq:q≤k):(iz (repS v m k)).take k++((((iz (repS v m k)).take k).take q)++(iz (repS v m k)).drop (k+q))=iz (repS v m (k+q)):=by
 have h1:(repS v m k).take k=Ga k v:=by unfold repS; rw[List.take_left' (by simp)]
 have h2:(repS v m k).drop (k+q)=Ga (m-(k+q)) 0:=by
  unfold repS
  rw[List.drop_append,List.drop_of_length_le (by simp),List.length_replicate,List.nil_append,Gc]
  congr 1; omega
 unfold iz
 rw[← Gf,← Gf,← List.map_drop,← Gd,← Gd,h1,h2,List.take_replicate,Nat.min_eq_left hq,← List.append_assoc,List.replicate_append_replicate]
 rfl
theorem repeatO (v:Int) (m:Nat) (hm:m≤100000) (E:Env) (H:List CObj):CallsC Gb E 128 [.rslc 1 (iz [v]) none,.int .i64 (m:Int)] H fun v' H'=>v'=.slc H.length 0 m none∧H'=H++[.arr 1 (iz (Ga m v))]:=by
 refine CallsC.frameG (mk:=fun n=>.slc n 0 m none) (G:=[.arr 1 (iz (Ga m v))]) (CallsC.wk (R:=fun v' H'=>v'=.slc 0 0 m (some m)∧H'=[.arr 1 (iz (Ga m v))]) (KI c128_ok fun N=>?_) fun v' H' ⟨e1,e2⟩=>⟨.slc 0 0 m none,by rw[e1]; exact wk_cap,rfl,e2⟩) rfl (fun o ho=>by simp only[List.mem_singleton]at ho; rw[ho]; exact .inr ⟨_,_,rfl,Jd _⟩) (fun n own own' imm r ho h=>by
  simp only[rel]at h ⊢
  obtain ⟨x,a,c,hx,g⟩:=h
  exact ⟨x,a,c,ho _ _ hx,g⟩)
 have d0:((m:Int) < 0)=False:=Jj
 have d1:((m:Int) > 9223372036854775807)=False:=Jj
 have d1':((9223372036854775807:Int) < (m:Int))=False:=Jj
 have dm:decide ((9223372036854775807:Int) < (m:Int))=false:=decide_eq_false (by omega)
 simp -implicitDefEqProofs only[c128,go_sem,d0,iz,List.map_cons,List.map_nil,List.length_cons,List.length_nil]
 refine ⟨inrU64 (by omega) (by omega),inrU64 (by omega) (by omega),?_⟩
 refine JV (mulOne m (by omega)) ?_
 simp -implicitDefEqProofs only[go_sem,d1,d1',dm]
 refine ⟨Ji,⟨by omega,Int.le_refl _,by omega,by omega⟩,by simp,?_⟩
 refine Jz (I:=fun k:Nat=>(m=0∨1≤k)∧k≤m) (inv:=fun k=>gp [(7,.slc 0 0 m (some m)),(0,.int .i64 (k:Int))] 39) (hp:=fun k=>[.arr 1 (iz (repS v m k))]) (μ:=fun k=>m-k) (min 1 m) ⟨by omega,by omega⟩ ?_ ?_ ?_
 ·simp[forget,gp]
 ·rcases Nat.eq_zero_or_pos m with rfl | h
  ·simp[repS,iz]
  ·rw[show min 1 m=1 by omega]; simp[repS,iz,Gc]
 ·rintro k ⟨hk1,hk2⟩
  by_cases hlt:k < m
  ·have e1:((k:Int) < (m:Int))=True:=Jn
   obtain ⟨q,hq⟩:∃ q,q=min k (m-k):=⟨_,rfl⟩
   have hqk:q≤k:=by omega
   have hst:=repS_step (v:=v) (m:=m) (k:=k) (q:=q) (by omega) hqk
   have hL:(iz (repS v m k)).length=m:=by rw[Jf,repS_len hk2]
   simp -implicitDefEqProofs only[go_sem,e1]
   refine Yu [Foot.no,Foot.no,Foot.no,(.on [1],.on []),Foot.no,Foot.no,(.on [1],.on []),Foot.any,Foot.no,Foot.no] JA (by decide +kernel) ?_
   refine ⟨_,_,X9 rfl rfl trivial,_,_,X9 rfl rfl trivial,_,_,X9 rfl rfl trivial,_,_,hs_sl (id:=0) (off:=0) (len:=m) (cap:=some m) rfl rfl ?_,_,_,X9 rfl rfl trivial,_,_,X9 rfl rfl trivial,_,_,hs_sl (id:=0) (off:=0) (len:=m) (cap:=some m) rfl rfl ?_,.int .i64 (q:Int),[.arr 1 (iz (repS v m (k+q)))],?_,_,_,X9 rfl rfl ?_,_,_,X9 rfl rfl trivial,?_⟩
   ·show 0≤(k:Int)∧(k:Int)≤(m:Int)∧(m:Int)≤(m:Int); omega
   ·show 0≤(0:Int)∧(0:Int)≤(k:Int)∧(k:Int)≤(m:Int); omega
   ·refine hs_any (.inl rfl) (c:=.le m m) ?_ (Nat.le_refl m)
    simp -implicitDefEqProofs only[go_sem]
    have hx:(List.take k (iz (repS v m k))).length=k:=by rw[List.length_take,hL]; omega
    rw[Nat.sub_zero,if_pos (by omega)]
    simp only[hx,hL,← hq,hst]
    rw[show k+(m-k)=m by omega]
   ·exact Ji
   ·simp -implicitDefEqProofs only[vdf,go_sem]
    refine ⟨k+q,⟨by omega,by omega⟩,by omega,?_⟩
    simp[forget]
  ·have e1:((k:Int) < (m:Int))=False:=Jj
   have hkm:k=m:=by omega
   subst hkm
   simp -implicitDefEqProofs only[go_sem,e1]
   simp[repS,iz]
end
end Go.Cm
end
end
