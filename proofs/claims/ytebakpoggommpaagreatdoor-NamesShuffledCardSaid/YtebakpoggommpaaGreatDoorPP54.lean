/-
  A part of the proof. Conditions: none.
-/
import Derived.Test.YtebakpoggommpaaGreatDoorPP51
set_option linter.unusedSimpArgs false
set_option linter.unusedVariables false
open List renaming map_cons→Ga,map_nil→Gb,length_nil→Gc,length_cons→Gd,getElem?_eq_getElem→Gg,getD_eq_getElem?_getD→Gh,drop_zero→Gf,take_of_length_le→Gj,set_cons_zero→Gm,set_cons_succ→Gn,getElem_mem→Gp,map_append→Gq,length_map→Gr,drop_succ_cons→Gs,eq_nil_of_length_eq_zero→Gu,filter_nil→Gt,length_take→Gv,range_zero→Gw,length_set→Gx,take_zero→Gy
open Nat renaming zero_add→Gi,le_refl→Gl
noncomputable section
section
set_option maxRecDepth 100000
set_option maxHeartbeats 4000000
open Go.Proofs
namespace Go.Cm
section
theorem lawAll {l tos:List Int}{m:Nat}{ψ:Nat→Nat}(hm:tos.length=m) (hmm:m≤100000) (hl:l.length≤100000) (hx:∀ x∈l,0≤x∧x < m) (hψ:∀ x,x < m→tos.getD x 0=(ψ x:Int)∧ψ x < m):Fn Tryz.prog 17 [.rslc 1 (iz l) none,.rslc 1 (iz tos) none] (.rslc 1 (iz (allT l ψ m)) none):=by
 have hil:(iz l).length=l.length:=Jd
 have hit:(iz tos).length=m:=by rw[Jd,hm]
 unfold allT
 rw[← imgB_all]
 have hQ:∀ i,(fun _:Nat=>true) i=true:=fun _=>rfl
 have hF:∀ i,i < l.length→∃ x:Nat,l.getD i 0=x∧x < m∧(fun i=>(ψ (l.getD i 0).toNat:Int)) i=(ψ x:Int):=fun i hi=>by
  have:=hx (l.getD i 0) (by rw[Gh,Gg hi]; exact Gp hi)
  exact ⟨(l.getD i 0).toNat,by omega,by omega,rfl⟩
 generalize (fun _:Nat=>true)=q at hQ ⊢
 generalize (fun i=>(ψ (l.getD i 0).toNat:Int))=f at hF ⊢
 refine JeW.fn (fnRowW_of (Kg c17_ok fun N=>?_) rfl (Jb _)) rfl (Jb _)
 simp -implicitDefEqProofs only[c17,go_sem,hit]
 refine ⟨⟨by omega,Int.le_refl _,by omega,by omega⟩,?_⟩
 rw[bb_rep,← imgB_zero (q:=q) (f:=f)]
 have hbl:∀ i,(bb (imgB q f m i)).length=m:=fun i=>by rw[bb_len]; exact Jb8
 refine JG (I:=fun i:Nat=>i≤l.length) (inv:=fun i=>gp [(0,.rslc 1 (iz l) none),(0,.rslc 1 (iz tos) none),(3,.slc 0 0 m (some m)),(0,.int .i64 (i:Int))] 20) (hp:=fun i=>[.arr 1 (bb (imgB q f m i))]) (μ:=fun i=>l.length-i) 0 [0] (by omega) rfl ?_ ?_ ?_
 ·simp[forget,JL,ren,Jm,gp]
 ·simp only[Km,Ga,Gb,go_sem,Jk,Ja (JbL _)]
 ·intro i hi
  by_cases hlt:i < l.length
  ·have d1:((i:Int) < (l.length:Int))=True:=Ju
   obtain ⟨x,h1,h2,h3⟩:=hF i hlt
   have hgi:=JN hlt
   rw[h1]at hgi
   have hgt:=JN (l:=tos) (i:=x) (by omega)
   obtain ⟨h4,h5⟩:=hψ x h2
   rw[h4]at hgt
   have hset:=imgB_yes (q:=q) (f:=f) (m:=m) (i:=i) (k:=ψ x) (hQ i) h3 h5
   have hbg:=bb_get (l:=imgB q f m i) (i:=ψ x) (by have:=hbl i; rw[bb_len]at this; omega)
   simp -implicitDefEqProofs only[go_sem,hil,d1,hgi,hit,hgt,hbl,hbg,Gd,Gc,Gs,Gf,bb_set,hset]
   refine ⟨by omega,by omega,by omega,by omega,Jl,i+1,[0],by omega,by omega,rfl,?_,?_⟩
   ·simp only[Km,Ga,Gb,go_sem,Jk,Ja (JbL _)]
   ·simp[forget,JL,ren,Jm]
  ·have d1:((i:Int) < (l.length:Int))=False:=Jq
   obtain rfl:i=l.length:=by omega
   simp -implicitDefEqProofs only[go_sem,d1,hil]
   refine Je (id:=0) (z:=1) (els:=bb (imgB q f m l.length)) rfl (JbL _) ?_
   have hft:=Gj (l:=bb (imgB q f m l.length)) (i:=m) (by rw[hbl]; omega)
   simp only[go_sem,J4,Ky,frz,Qy,Ga,Gb,Gf,Gi,if_true,hbl,Gl,hft,Gn,Gm]
   refine vr_rowW (.inl rfl) (refSet _ (by have:=hbl l.length; rw[bb_len]at this; omega)) ?_
   simp -implicitDefEqProofs only[go_sem]
   exact ⟨1,rfl,rfl⟩
theorem JeK {id z y:Nat}{els es:List (List CV)}:Qy id z els (.arr y es)=.arr y (es.map (J4 id z els)):=rfl
theorem JeJ {id z:Nat}{els:List (List CV)}:Qy id z els .dead=.dead:=rfl
def by8 (b:List Nat):List (List CV):=b.map fun x:Nat=>[CV.int .u8 (x:Int)]
theorem by8_len {b:List Nat}:(by8 b).length=b.length:=by simp[by8]
theorem by8_get {b:List Nat}{i:Nat}(h:i < b.length):(by8 b).getD i []=[.int .u8 ((b.getD i 0:Nat):Int)]:=by simp[by8,Gh,Gg h]
theorem ShI.le {t:Tr}{b:List Nat}{D:Nat→Prop}{s:Sh}(h:ShI t b D s):s.us.length≤t.nodes.length:=by
 have hon:∀ j,∃ x,j < s.us.length→D x∧s.tos.getD x 0=j:=fun j=>by
  by_cases hj:j < s.us.length
  ·obtain ⟨x,h1,h2⟩:=h.on j hj
   exact ⟨x,fun _=>⟨h1,h2⟩⟩
  ·exact ⟨0,fun h=>absurd h hj⟩
 obtain ⟨f,hf⟩:=Classical.axiomOfChoice hon
 refine pigeon t.nodes.length s.us.length f (fun i hi=>(h.im _ (hf i hi).1).1) fun i j hi hj he=>?_
 have h1:=(hf i hi).2
 have h2:=(hf j hj).2
 rw[he,h2]at h1
 omega
theorem Je9 {go:Nat→Sh→Sh}{k:Int}:∀ (ks:List Int) (s:Sh) (now:List Int),shF go (ks++[k]) s now=(go k.toNat (shF go ks s now).1,(shF go ks s now).2++[((go k.toNat (shF go ks s now).1).us.length:Int)-1])
 |[],s,now=>by simp[shF]
 |x::ks,s,now=>by simp only[List.cons_append,shF,Je9 ks]
def movH (us:List Nd) (tos its:List Int):List CObj:=[KP 5 (ndz us),.arr 1 (iz tos),KP 1 (iz its)]
def Xd (t:Tr) (v i:Nat):List Int:=((List.range i).filter fun k=>Jn t.nodes ((nd t v).kids.getD k 0) == 41).map fun k:Nat=>(k:Int)
theorem setsTo_succ {t:Tr}{v i:Nat}:Xd t v (i+1)=Xd t v i++if (Jn t.nodes ((nd t v).kids.getD i 0) == 41)=true then [(i:Int)] else []:=by
 unfold Xd
 rw[List.range_succ,List.filter_append,Gq,List.filter_cons,Gt]
 split <;> rfl
theorem Jeh {t:Tr}{v i:Nat}:(Xd t v i).length≤i:=by
 unfold Xd
 rw[Gr]
 exact Nat.le_trans (List.length_filter_le _ _) (by simp)
theorem capE_len {a c:List Int}(h:a.length=c.length):Jb7 (iz a)=Jb7 (iz c):=by
 cases a with
 |nil=>cases c with | nil=>rfl | cons y m=>simp at h
 |cons x l=>cases c with | nil=>simp at h | cons y m=>rfl
theorem Jfa {go:Nat→Sh→Sh}:∀ (ks:List Int) (s:Sh) (now:List Int),(shF go ks s now).2.length=now.length+ks.length
 |[],s,now=>by simp[shF]
 |x::ks,s,now=>by rw[shF,Jfa ks]; simp; omega
section
variable {t:Tr}{o:List Int}(g:GoodT t o) {b:List Nat}
include g
theorem shF_pre {f v:Nat}{D:Nat→Prop}{s:Sh}(hf:v < f+1) (hv:v < t.nodes.length) (hI:ShI t b D s) (hD:∀ x,blw o x v→¬ D x) (j:Nat) :
  ShI t b (fun x=>D x∨∃ k:Nat,(k:Int)∈(Ka t b v).take j∧blw o x k) (shF (shN t b f) ((Ka t b v).take j) s []).1∧∀ k:Nat,(Ka t b v)[j]? = some (k:Int)→k < v∧∀ x,blw o x k→¬ (D x∨∃ k':Nat,(k':Int)∈(Ka t b v).take j∧blw o x k'):=by
 have hkp:=Qe (t:=t) (b:=b) (v:=v)
 have hmem:∀ k,k∈Ka t b v→k∈(nd t v).kids:=fun k=>hkp.perm.mem_iff.1
 have hnd:(Ka t b v).Nodup:=hkp.perm.nodup_iff.2 ((JfB g hv).imp fun h=>by omega)
 have hmt:∀ k,k∈(Ka t b v).take j→k∈(nd t v).kids:=fun k hk=>hmem k (List.mem_of_mem_take hk)
 refine ⟨(shF_ok g (go:=shN t b f) ((Ka t b v).take j) D s [] (fun k hk=>by have:=g.kid hv (hmt k hk); omega) (fun k l hk hl x h1 h2=>JfC g hv (hmt k hk) (hmt l hl) h1 h2) (fun k D' s' hk hI' hD'=>by
   have:=(JJ g hv (hmt k hk)).2
   exact Jeg g f k D' s' (by omega) (by omega) hI' hD') (hnd.sublist (List.take_sublist _ _)) hI (fun k hk x hx=>hD x (Kr g hv hx (KC g hv (hmt k hk))))).1.inv,fun k hk=>?_⟩
 have hk2:=hmem k (List.mem_of_getElem? hk)
 refine ⟨(JJ g hv hk2).2,fun x hx h=>?_⟩
 rcases h with h | ⟨k',h1,h2⟩
 ·exact hD x (Kr g hv hx (KC g hv hk2)) h
 ·have he:=JfC g hv hk2 (hmt k' h1) hx h2
  subst he
  have hj:=(List.getElem?_eq_some_iff.1 hk).1
  obtain ⟨i,hi,hie⟩:=List.getElem_of_mem h1
  rw[Gv]at hi
  rw[List.getElem_take]at hie
  have:=(List.getElem?_inj (i:=i) (j:=j) (by omega) hnd).1 (by rw[Gg (by omega),hie,hk])
  omega
end
section
variable {t:Tr}{o:List Int}(g:GoodT t o) (ht:t.Fit) {b:List Nat}(hb8:∀ x∈b,x < 256) (hbl:b.length≤9223372036854775807)
include g ht hb8 hbl
theorem lawMoved:∀ (f v:Nat) (D:Nat→Prop) (s:Sh) (its:List Int),v < f→v < t.nodes.length→ShI t b D s→(∀ x,blw o x v→¬ D x)→
  CallsC Tryz.prog Env.none 46 [t.cv,.int .i64 (v:Int),.rslc 1 (by8 b) none,.agg [JV 0 (ndz s.us),JV 2 (iz its)],.slc 1 0 t.nodes.length (some t.nodes.length)] (movH s.us s.tos its) fun x H'=>x=.agg [JV 3 (ndz (shN t b f v s).us),JV 2 (iz its)]∧H'=[.dead,.arr 1 (iz (shN t b f v s).tos),KP 1 (iz its),KP 5 (ndz (shN t b f v s).us)]
 |0,v,D,s,its,hf,_,_,_=>by omega
 |f+1,v,D,s,its,hf,hv,hI,hD=>by
  have hmany:=g.many
  have hgn:=YT hv
  have hkl:(nd t v).kids.length≤30:=(fitN ht hv).kidn
  have hkg:∀ i,i < (nd t v).kids.length→∃ c:Nat,(iz (nd t v).kids).getD i []=[.int .i64 (c:Int)]∧c < t.nodes.length∧(nd t v).kids.getD i 0=(c:Int):=fun i hi=>by
   have hm:(nd t v).kids.getD i 0∈(nd t v).kids:=by rw[Gh,Gg hi]; exact Gp hi
   have:=g.kid hv hm
   refine ⟨((nd t v).kids.getD i 0).toNat,?_,by omega,by omega⟩
   rw[JN hi]; congr 2; omega
  have hkil:(iz (nd t v).kids).length=(nd t v).kids.length:=Jd
  have izn:iz []=[]:=rfl
  have izc:∀ (a:Int) l,iz (a::l)=[.int .i64 a]::iz l:=fun _ _=>rfl
  have hcu:=J7 s.us
  have hct:=Jb s.tos
  have hci:=Jb its
  have hck:=Jb (nd t v).kids
  refine CallsC.ren (CallsC.freeze (vr_fnS c46_ok (by simp only[Gd,Gc]; decide) fun N=>?_) (R:=fun x H'=>∃ A B C E',x=.agg [.slc 9 0 ((shF (shN t b f) (Ka t b v) s []).1.us.length+1) none,JV 2 (iz its)]∧H'=[.dead,.arr 1 (iz ((shF (shN t b f) (Ka t b v) s []).1.tos.set v ((shF (shN t b f) (Ka t b v) s []).1.us.length:Int))),KP 1 (iz its),A,B,C,.dead,.arr 1 (iz (shF (shN t b f) (Ka t b v) s []).2),E',.arr 5 (ndz (shF (shN t b f) (Ka t b v) s []).1.us++[[.int .u8 ((nd t v).k:Int),S (nd t v).text,.int .i64 (nd t v).n,.slc 7 0 (shF (shN t b f) (Ka t b v) s []).2.length (Jb7 (iz (shF (shN t b f) (Ka t b v) s []).2)),.int .i64 (nd t v).pl]])]) (R':=fun x H'=>∃ A B C E',x=.agg [JV 9 (ndz (shN t b (f+1) v s).us),JV 2 (iz its)]∧H'=[.dead,.arr 1 (iz (shN t b (f+1) v s).tos),KP 1 (iz its),A,B,C,.dead,.dead,E',KP 5 (ndz (shN t b (f+1) v s).us)]) ?_) ?_
  ·simp -implicitDefEqProofs only[go_sem,c46,Tr.cv,Tr.row,movH,Jf,hgn,Nd.cv,splice,Gd,Gc]
   refine ⟨by omega,?_⟩
   obtain ⟨z,hz⟩:∃ z,z=(nd t v).kids:=⟨_,rfl⟩
   cases hk:(nd t v).kids with
   |nil=>?_
   |cons a l=>?_
   case' nil=>
    simp -implicitDefEqProofs only[go_sem,izn,izc,splice,Gd,Gc]
    refine Je (id:=3) (z:=2) (els:=[t.row]) rfl rfl ?_
    simp only[go_sem,XH,Ga,Gb,Ky,frz,JeK,JeJ,J4,Tr.row,Qd (show (0:Nat)≠3 by decide),Qd (show (2:Nat)≠3 by decide),KD hcu,KD hci,JO hct]
    refine JG (I:=fun i:Nat=>i≤z.length) (inv:=fun i=>mkT 138 [(1,.int .i64 (v:Int)),(2,.rslc 1 (by8 b) none),(4,.slc 1 0 t.nodes.length (some t.nodes.length)),(5,.rptr t.row),(8,.ptr 3 0 0),(10,.ptr 4 0 0),(11,.ptr 5 0 0),(12,.slc 6 0 (iz z).length (Jb7 (iz z))),(13,.slc 7 0 (iz (Xd t v i)).length (Jb7 (iz (Xd t v i)))),(14,.int .i64 (i:Int))]) (hp:=fun i=>[KP 5 (ndz s.us),.arr 1 (iz s.tos),KP 1 (iz its),.arr 2 [[JV 0 (ndz s.us),JV 2 (iz its)]],.arr 2 [[.nils,.nils]],.arr 5 [[.int .u8 ((nd t v).k:Int),S (nd t v).text,.int .i64 (nd t v).n,.rslc 1 (iz z) none,.int .i64 (nd t v).pl]],.arr 1 (iz z),.arr 1 (iz (Xd t v i))]) (μ:=fun i=>z.length-i) 0 [0,1,2,4,5,6,7,8] (by omega) rfl ?a ?b ?c
    case a=>
     simp only[QO,Ga,Gb,ren,Jm]
     refine KZ ?_
     simp[XA,QB,Tr.row,ren,Jm,hz,hk,izn,izc,Jb7,Xd,Jd]
    case b=>
     have r0:ren [0,1,2,4,5,6,7,8] (JV 0 (ndz s.us))=JV 0 (ndz s.us):=JH rfl
     have r2:ren [0,1,2,4,5,6,7,8] (JV 2 (iz its))=JV 2 (iz its):=JH rfl
     simp only[Km,Ga,Gb,go_sem,Jk,Jh,Jy (Ja hcu),Jy (Ja hci),Ja hct,JL,ren,Jm,r0,r2,S,hz,hk,izn,izc,Xd,Gw,Gt,J4,frz]
   case' cons=>
    have hll:l.length+1≤30:=by rw[hk]at hkl; exact hkl
    simp -implicitDefEqProofs only[go_sem,izn,izc,Jv,Jd,splice,Gd,Gc]
    refine ⟨⟨by omega,by omega⟩,?_⟩
    refine Je (id:=3) (z:=2) (els:=[t.row]) rfl rfl ?_
    simp only[go_sem,XH,Ga,Gb,Ky,frz,JeK,JeJ,J4,Tr.row,Qd (show (0:Nat)≠3 by decide),Qd (show (2:Nat)≠3 by decide),KD hcu,KD hci,JO hct]
    refine JG (I:=fun i:Nat=>i≤z.length) (inv:=fun i=>mkT 138 [(1,.int .i64 (v:Int)),(2,.rslc 1 (by8 b) none),(4,.slc 1 0 t.nodes.length (some t.nodes.length)),(5,.rptr t.row),(8,.ptr 3 0 0),(10,.ptr 4 0 0),(11,.ptr 5 0 0),(12,.slc 6 0 (iz z).length (Jb7 (iz z))),(13,.slc 7 0 (iz (Xd t v i)).length (Jb7 (iz (Xd t v i)))),(14,.int .i64 (i:Int))]) (hp:=fun i=>[KP 5 (ndz s.us),.arr 1 (iz s.tos),KP 1 (iz its),.arr 2 [[JV 0 (ndz s.us),JV 2 (iz its)]],.arr 2 [[.nils,.nils]],.arr 5 [[.int .u8 ((nd t v).k:Int),S (nd t v).text,.int .i64 (nd t v).n,.rslc 1 (iz z) none,.int .i64 (nd t v).pl]],.arr 1 (iz z),.arr 1 (iz (Xd t v i))]) (μ:=fun i=>z.length-i) 0 [0,1,2,4,5,6,8,9] (by omega) rfl ?a ?b ?c
    case a=>
     simp only[QO,Ga,Gb,ren,Jm]
     refine KZ ?_
     simp[XA,QB,Tr.row,ren,Jm,hz,hk,izn,izc,Jb7,Xd,Jd]
    case b=>
     have r0:ren [0,1,2,4,5,6,8,9] (JV 0 (ndz s.us))=JV 0 (ndz s.us):=JH rfl
     have r2:ren [0,1,2,4,5,6,8,9] (JV 2 (iz its))=JV 2 (iz its):=JH rfl
     simp only[Km,Ga,Gb,go_sem,Jk,Jh,Jy (Ja hcu),Jy (Ja hci),Ja hct,JL,ren,Jm,r0,r2,S,hz,hk,izn,izc,Xd,Gw,Gt,J4,frz,Ja (Jb l),JO (Jb l)]
   all_goals
    clear hk
    have hzl:(iz z).length=z.length:=Jd
    have hcz:=Jb z
    rw[← hz]at hkg hkl
    intro i hi
    by_cases hlt:i < z.length
    ·have d1:((i:Int) < (z.length:Int))=True:=Ju
     obtain ⟨c,hc1,hc2,hc3⟩:=hkg i hlt
     have hgc:=YT hc2
     have hst:=setsTo_succ (t:=t) (v:=v) (i:=i)
     have hsl:=Jeh (t:=t) (v:=v) (i:=i)
     have hkk:Jn t.nodes ((nd t v).kids.getD i 0)=(nd t c).k:=by rw[← hz,hc3]; unfold Jn nd; rw[Int.toNat_natCast]
     rw[hkk]at hst
     have r0:∀ ρ,ren (0::ρ) (JV 0 (ndz s.us))=JV 0 (ndz s.us):=fun ρ=>JH rfl
     have r2:∀ ρ,ren (0::1::2::ρ) (JV 2 (iz its))=JV 2 (iz its):=fun ρ=>JH rfl
     simp -implicitDefEqProofs only[go_sem,d1,hzl,Jf,Tr.row,splice,Gd,Gc]
     refine Kz JI (by decide) ?_
     cases hkc:((nd t c).k == 41) with
     |false=>
      rw[hkc,if_neg (by simp),List.append_nil]at hst
      simp -implicitDefEqProofs only[go_sem,hzl,hc1,Jf,hgc,Nd.cv,kbE,hkc,splice,Gd,Gc]
      refine ⟨by omega,by omega,by omega,Jl,i+1,[0,1,2,3,4,5,6,7],by omega,by omega,rfl,?_,?_⟩
      ·rw[hst]
       simp only[Km,Ga,Gb,go_sem,Jk,Jh,Jy (Ja hcu),Jy (Ja hci),Ja hct,Ja hcz,Ja (Jb (Xd t v i)),JL,ren,Jm,r0,r2,S]
      ·rw[hst]
       simp only[QO,Ga,Gb,ren,Jm]
       refine KZ ?_
       simp[XA,QB,Tr.row,ren,Jm]
     |true=>
      rw[hkc,if_pos rfl]at hst
      simp -implicitDefEqProofs only[go_sem,hzl,hc1,Jf,hgc,Nd.cv,kbE,hkc,Jv,Jd,splice,Gd,Gc]
      refine ⟨by omega,by omega,by omega,⟨by omega,by omega⟩,Jl,i+1,[0,1,2,3,4,5,6,9],by omega,by omega,rfl,?_,?_⟩
      ·rw[hst,Kt]
       simp only[Km,Ga,Gb,go_sem,Jk,Jh,Jy (Ja hcu),Jy (Ja hci),Ja hct,Ja hcz,Ja (Jb (Xd t v i)),JL,ren,Jm,r0,r2,S,Gq]
      ·rw[hst,Kt,JaN]
       simp only[QO,Ga,Gb,ren,Jm]
       refine KZ ?_
       simp[XA,QB,Tr.row,ren,Jm,Jd]
    have d1:((i:Int) < (z.length:Int))=False:=Jq
    obtain rfl:i=z.length:=by omega
    simp -implicitDefEqProofs only[go_sem,d1,hzl,splice,Gd,Gc]
    clear d1 hlt hi
    obtain ⟨st,hst⟩:∃ st,st=JdW t v:=⟨_,rfl⟩
    have hse:Xd t v z.length=st.map fun k:Nat=>(k:Int):=by rw[hst,hz]; rfl
    have hsm:=fun i=>JcV (t:=t) (v:=v) (i:=i)
    rw[← hst,← hz]at hsm
    have hsl:(iz (st.map fun k:Nat=>(k:Int))).length=st.length:=by rw[Jd,Gr]
    have hsg:∀ i,i < st.length→(iz (st.map fun k:Nat=>(k:Int))).getD i []=[.int .i64 (st.getD i 0:Int)]:=fun i hi=>by
     rw[JN (by rw[Gr]; exact hi)]
     simp[Gh,Gg hi]
    have hs30:st.length≤30:=by
     have h1:=Jeh (t:=t) (v:=v) (i:=z.length)
     rw[hse,Gr]at h1; omega
    rw[hse]
    refine Je (id:=7) (z:=1) (els:=iz (st.map fun k:Nat=>(k:Int))) rfl (Jb _) ?_
    have hft:=Gj (l:=iz (st.map fun k:Nat=>(k:Int))) (i:=st.length) (by rw[hsl]; omega)
    simp only[go_sem,XH,Ga,Gb,Ky,frz,JeK,JeJ,J4,Tr.row,Qd (show (0:Nat)≠7 by decide),Qd (show (2:Nat)≠7 by decide),KD hcu,KD hci,JO hct,JO hcz,hsl,Gi,if_true,Gl,Gf,hft,Gn,Gm]
    have hgl:∀ j,(j+1≤st.length∨j=0)→(Jbq b v st z j).length=z.length:=fun j hj=>by
     have h1:=(JbU (t:=t) (b:=b) (v:=v) j (by rw[← hst]; exact hj)).len
     rw[← hst,← hz]at h1
     exact h1
    refine JG (I:=fun j:Nat=>(j+1≤st.length∨j=0)∧(b=[]→j=0)) (inv:=fun j=>mkT 138 [(1,.int .i64 (v:Int)),(2,.rslc 1 (by8 b) none),(4,.slc 1 0 t.nodes.length (some t.nodes.length)),(5,.rptr t.row),(8,.ptr 3 0 0),(10,.ptr 4 0 0),(11,.ptr 5 0 0),(12,.slc 6 0 (iz (Jbq b v st z j)).length (Jb7 (iz (Jbq b v st z j)))),(13,.rslc 1 (iz (st.map fun k:Nat=>(k:Int))) none),(15,.int .i64 ((j+1:Nat):Int))]) (hp:=fun j=>[KP 5 (ndz s.us),.arr 1 (iz s.tos),KP 1 (iz its),.arr 2 [[JV 0 (ndz s.us),JV 2 (iz its)]],.arr 2 [[.nils,.nils]],.arr 5 [[.int .u8 ((nd t v).k:Int),S (nd t v).text,.int .i64 (nd t v).n,.rslc 1 (iz z) none,.int .i64 (nd t v).pl]],.arr 1 (iz (Jbq b v st z j))]) (μ:=fun j=>st.length-j) 0 [0,1,2,3,4,5,6] ⟨.inr rfl,fun _=>rfl⟩ rfl ?_ ?_ ?_
    ·simp only[QO,Ga,Gb,ren,Jm]
     refine KZ ?_
     simp[XA,QB,Tr.row,ren,Jm,Jbq,Jd]
    ·have r0:∀ ρ,ren (0::ρ) (JV 0 (ndz s.us))=JV 0 (ndz s.us):=fun ρ=>JH rfl
     have r2:∀ ρ,ren (0::1::2::ρ) (JV 2 (iz its))=JV 2 (iz its):=fun ρ=>JH rfl
     simp only[Km,Ga,Gb,go_sem,Jk,Jh,Jy (Ja hcu),Jy (Ja hci),Ja hct,JL,ren,Jm,r0,r2,S,Ja hcz,Jbq]
    rintro j ⟨hj1,hj2⟩
    have hKl:=hgl j hj1
    have hsuc:Jbq b v st z (j+1)=swapL (Jbq b v st z j) (st.getD (j+1) 0) (st.getD (b.getD ((v+(j+1)) % b.length) 0 % (j+2)) 0):=rfl
    have hdone:(¬ j+1 < st.length∨b=[])→Jbq b v st z j=Ka t b v:=fun h=>by
     unfold Ka
     rw[← hst,← hz]
     rcases h with h | h
     ·split
      ·rename_i hb; rw[hj2 hb]; rfl
      ·rw[show j=st.length-1 by omega]
     ·rw[if_pos h,hj2 h]; rfl
    by_cases hgo:j+1 < st.length∧0 < b.length
    ·have d1:decide (((j+1:Nat):Int) < (st.length:Int))=true:=decide_eq_true (by omega)
     have d2:decide ((0:Int) < (b.length:Int))=true:=decide_eq_true (by omega)
     obtain ⟨q,hq⟩:∃ q,q=(v+(j+1)) % b.length:=⟨_,rfl⟩
     have hql:q < b.length:=by rw[hq]; exact Nat.mod_lt _ hgo.2
     have hmod:((v:Int)+((j+1:Nat):Int)).tmod (b.length:Int)=(q:Int):=by rw[hq]; rfl
     have hbg:=by8_get hql
     rw[← hq]at hsuc
     have hb2:b.getD q 0 < 256:=hb8 _ (by rw[Gh,Gg hql]; exact Gp hql)
     generalize b.getD q 0=e at hbg hsuc hb2
     have hmod2:(e:Int).tmod (((j+1:Nat):Int)+1)=((e % (j+2):Nat):Int):=rfl
     have hel:=Nat.mod_lt e (show 0 < j+2 by omega)
     generalize e % (j+2)=e2 at hmod2 hsuc hel
     have a1:=hsm (j+1) hgo.1
     have a2:=hsm e2 (by omega)
     have g1:=hsg (j+1) hgo.1
     have g2:=hsg e2 (by omega)
     have hkf:=fun hh:j+1+1≤st.length=>hgl (j+1) (.inl hh)
     generalize st.getD (j+1) 0=p1 at *
     generalize st.getD e2 0=p2 at *
     generalize hK2:Jbq b v st z (j+1)=K2 at *
     generalize Jbq b v st z j=K at *
     have k1:=JN (l:=K) (i:=p1) (by omega)
     have k2:=JN (l:=K) (i:=p2) (by omega)
     have k3:=JN (l:=K.set p1 (K.getD p2 0)) (i:=p2) (by rw[Gx]; omega)
     have kl:(iz K).length=z.length:=by rw[Jd,hKl]
     have kl2:(iz (K.set p1 (K.getD p2 0))).length=z.length:=by rw[Jd,Gx,hKl]
     have hsw:(K.set p1 (K.getD p2 0)).set p2 (K.getD p1 0)=K2:=by rw[hsuc]; rfl
     simp -implicitDefEqProofs only[go_sem,d1,d2,hsl,by8_len,hmod,hbg,hmod2,splice,Gd,Gc]
     refine ⟨Jl,by omega,⟨by omega,by omega⟩,Jl,Jl,by omega,?_⟩
     refine Je1 [0,0,0,0,0,0,0,0,0,0,0,0,0,0,0,1,1,0,0,0,0,0,1,1,1,2,1,2] JI (by decide +kernel) ?_
     simp -implicitDefEqProofs only[go_sem,hsl,g1,g2,k1,k2,kl,kl2,k3,iz_set,hsw,if_true,Gs,Gf,splice,Gd,Gc]
     repeat refine And.intro (by first | omega | exact ⟨by omega,by omega⟩ | exact Jl) ?_
     have hk2l:=hkf (by omega)
     refine ⟨j+1,[0,1,2,3,4,5,6],⟨.inl (by omega),fun hb=>(by rw[hb]at hgo; simp at hgo)⟩,by omega,rfl,?_,?_⟩
     ·have r0:∀ ρ,ren (0::ρ) (JV 0 (ndz s.us))=JV 0 (ndz s.us):=fun ρ=>JH rfl
      have r2:∀ ρ,ren (0::1::2::ρ) (JV 2 (iz its))=JV 2 (iz its):=fun ρ=>JH rfl
      simp only[Km,Ga,Gb,go_sem,Jk,Jh,Jy (Ja hcu),Jy (Ja hci),Ja hct,JL,ren,Jm,r0,r2,S,Ja (Jb _),hK2]
     ·simp only[QO,Ga,Gb,ren,Jm]
      refine KZ ?_
      simp[XA,QB,Tr.row,ren,Jm,Jd,hKl,hk2l,hK2,capE_len (hKl.trans hk2l.symm)]
    have hdn:=hdone (by
     by_cases h:j+1 < st.length
     ·exact .inr (Gu (by omega))
     ·exact .inl h)
    have hex:decide (((j+1:Nat):Int) < (st.length:Int))=false∨(decide (((j+1:Nat):Int) < (st.length:Int))=true∧decide ((0:Int) < (b.length:Int))=false):=by
     by_cases h:j+1 < st.length
     ·exact .inr ⟨decide_eq_true (by omega),decide_eq_false (by omega)⟩
     ·exact .inl (decide_eq_false (by omega))
    rw[hdn]at hKl ⊢
    have hkp:=Qe (t:=t) (b:=b) (v:=v)
    have hpre:=shF_pre g (f:=f) hf hv hI hD
    have hall:shN t b (f+1) v s=⟨(shF (shN t b f) (Ka t b v) s []).1.us++[{ nd t v with kids:=(shF (shN t b f) (Ka t b v) s []).2 }],(shF (shN t b f) (Ka t b v) s []).1.ps++[(s.us.length:Int)],(shF (shN t b f) (Ka t b v) s []).1.tos.set v ((shF (shN t b f) (Ka t b v) s []).1.us.length:Int)⟩:=rfl
    have hmem:∀ k,k∈Ka t b v→0≤k∧k < t.nodes.length:=fun k hk=>by have:=g.kid hv (hkp.perm.mem_iff.1 hk); omega
    clear hdn hdone hsuc hgl hj1 hj2 hkp
    generalize shN t b (f+1) v s=fin at *
    generalize Ka t b v=ks at *
    have hkil:(iz ks).length=ks.length:=Jd
    have hft2:=Gj (l:=iz ks) (i:=ks.length) (by rw[hkil]; omega)
    rcases hex with d1 | ⟨d1,d2⟩
    case' inl=>simp -implicitDefEqProofs only[go_sem,d1,hsl,splice,Gd,Gc]
    case' inr=>simp -implicitDefEqProofs only[go_sem,d1,d2,hsl,by8_len,splice,Gd,Gc]
    all_goals
     refine Je (id:=6) (z:=1) (els:=iz ks) rfl (Jb _) ?_
     simp only[go_sem,XH,Ga,Gb,Ky,frz,JeK,JeJ,J4,Tr.row,Qd (show (0:Nat)≠6 by decide),Qd (show (2:Nat)≠6 by decide),KD hcu,KD hci,JO hct,hkil,Gi,if_true,Gl,Gf,hft2,Gn,Gm]
     refine JG (I:=fun j:Nat=>j≤ks.length) (inv:=fun j=>mkT 138 [(1,.int .i64 (v:Int)),(2,.rslc 1 (by8 b) none),(4,.slc 1 0 t.nodes.length (some t.nodes.length)),(5,.rptr t.row),(8,.ptr 3 0 0),(10,.ptr 4 0 0),(11,.ptr 5 0 0),(12,.rslc 1 (iz ks) none),(17,.slc 7 0 (iz (shF (shN t b f) (ks.take j) s []).2).length (Jb7 (iz (shF (shN t b f) (ks.take j) s []).2))),(18,.int .i64 (j:Int))]) (hp:=fun j=>[if j=0 then KP 5 (ndz s.us) else .dead,.arr 1 (iz (shF (shN t b f) (ks.take j) s []).1.tos),KP 1 (iz its),.arr 2 [[JV (if j=0 then 0 else 6) (ndz (shF (shN t b f) (ks.take j) s []).1.us),JV 2 (iz its)]],.arr 2 [[.nils,.nils]],.arr 5 [[.int .u8 ((nd t v).k:Int),S (nd t v).text,.int .i64 (nd t v).n,.rslc 1 (iz z) none,.int .i64 (nd t v).pl]],if j=0 then .dead else KP 5 (ndz (shF (shN t b f) (ks.take j) s []).1.us),.arr 1 (iz (shF (shN t b f) (ks.take j) s []).2)]) (μ:=fun j=>ks.length-j) 0 [0,1,2,3,4,5,6,7] (by omega) rfl ?_ ?_ ?_
     ·simp only[QO,Ga,Gb,ren,Jm]
      refine KZ ?_
      simp[XA,QB,Tr.row,ren,Jm,shF,iz,Jb7]
     ·have r0:∀ ρ,ren (0::ρ) (JV 0 (ndz s.us))=JV 0 (ndz s.us):=fun ρ=>JH rfl
      have r2:∀ ρ,ren (0::1::2::ρ) (JV 2 (iz its))=JV 2 (iz its):=fun ρ=>JH rfl
      simp only[Km,Ga,Gb,go_sem,Jk,Jh,Jy (Ja hcu),Jy (Ja hci),Ja hct,JL,ren,Jm,r0,r2,S,if_true,Gy,shF,izn]
     clear hgo
     intro j hj
     obtain ⟨hIj,hkj⟩:=hpre j
     have hnl:=Jfa (go:=shN t b f) (ks.take j) s []
     rw[Gc,Gi,Gv]at hnl
     have hul:=hIj.le
     by_cases hlt:j < ks.length
     ·have d3:((j:Int) < (ks.length:Int))=True:=Ju
      have hm0:=hmem (ks.getD j 0) (by rw[Gh,Gg hlt]; exact Gp hlt)
      obtain ⟨c,hc⟩:∃ c:Nat,ks.getD j 0=c:=⟨(ks.getD j 0).toNat,by omega⟩
      have hgc:=JN hlt
      rw[hc]at hgc hm0
      have hkc:ks[j]? = some (c:Int):=by rw[← hc,Gh,Gg hlt]; rfl
      obtain ⟨hcv,hDc⟩:=hkj c hkc
      have ih:=lawMoved f c _ _ its (by omega) (by omega) hIj hDc
      have hsn:=Jeg g f c _ _ (by omega) (by omega) hIj hDc
      have htk:ks.take (j+1)=ks.take j++[(c:Int)]:=by rw[List.take_add_one,hkc]; rfl
      have hsx:shF (shN t b f) (ks.take (j+1)) s []=(shN t b f c (shF (shN t b f) (ks.take j) s []).1,(shF (shN t b f) (ks.take j) s []).2++[((shN t b f c (shF (shN t b f) (ks.take j) s []).1).us.length:Int)-1]):=by rw[htk,Je9,Int.toNat_natCast]
      have hul2:=hsn.1.inv.le
      have hne:=hsn.2.1
      generalize hP0:shF (shN t b f) (ks.take j) s []=P at *
      generalize shN t b f c P.1=s2 at *
      have hcu1:=J7 P.1.us
      have hct1:=Jb P.1.tos
      have hcu2:=J7 s2.us
      have hct2:=Jb s2.tos
      have hcp:=Jb P.2
      have hne2:ndz s2.us≠[]:=by intro h; have:=congrArg List.length h; rw[Jf,Gc]at this; omega
      have hcall:CallsC Tryz.prog Env.none 46 [t.cv,.int .i64 (c:Int),.rslc 1 (by8 b) none,.agg [JV (if j=0 then 0 else 6) (ndz P.1.us),JV 2 (iz its)],.slc 1 0 t.nodes.length (some t.nodes.length)] [if j=0 then KP 5 (ndz s.us) else .dead,.arr 1 (iz P.1.tos),KP 1 (iz its),.arr 2 [[JV (if j=0 then 0 else 6) (ndz P.1.us),JV 2 (iz its)]],.arr 2 [[.nils,.nils]],.arr 5 [[.int .u8 ((nd t v).k:Int),S (nd t v).text,.int .i64 (nd t v).n,.rslc 1 (iz z) none,.int .i64 (nd t v).pl]],if j=0 then .dead else KP 5 (ndz P.1.us),.arr 1 (iz P.2)] fun v' H'=>v'=.agg [JV 8 (ndz s2.us),JV 2 (iz its)]∧H'=[.dead,.arr 1 (iz s2.tos),KP 1 (iz its),.arr 2 [[JV (if j=0 then 0 else 6) (ndz P.1.us),JV 2 (iz its)]],.arr 2 [[.nils,.nils]],.arr 5 [[.int .u8 ((nd t v).k:Int),S (nd t v).text,.int .i64 (nd t v).n,.rslc 1 (iz z) none,.int .i64 (nd t v).pl]],.dead,.arr 1 (iz P.2),KP 5 (ndz s2.us)]:=by
       by_cases hj0:j=0
       ·subst hj0
        obtain rfl:P=(s,[]):=by rw[← hP0]; rfl
        simp only[if_true]
        refine (ih.loc [0,1,2] ?_ ?_ ?_).mono ?_
        ·simp only[JL,ren,Jm,Tr.cv,if_true,JH (ρ:=[0,1,2]) (id:=0) (j:=0) (els:=ndz s.us) rfl,JH (ρ:=[0,1,2]) (id:=2) (j:=2) (els:=iz its) rfl]; rfl
        ·simp only[movH,Km,Ga,Gb,go_sem,Jk,Jh,Jy (Ja hcu),Jy (Ja hci),Ja hct]
        ·simp[locOk,Jdr,Jds]
        ·rintro v' H' ⟨v0,H0,⟨rfl,rfl⟩,rfl,rfl⟩
         simp[mo,moL,mo_rowV,tau,Jb9,Jm,Jfv,Jfw,Jfu,hcu2,hct2,hci]
       ·simp only[if_neg hj0]
        refine (ih.loc [6,1,2] ?_ ?_ ?_).mono ?_
        ·simp only[JL,ren,Jm,Tr.cv,JH (ρ:=[6,1,2]) (id:=6) (j:=0) (els:=ndz P.1.us) rfl,JH (ρ:=[6,1,2]) (id:=2) (j:=2) (els:=iz its) rfl]; rfl
        ·simp only[movH,Km,Ga,Gb,go_sem,Jk,Jh,Jy (Ja hcu1),Jy (Ja hci),Ja hct1]
        ·simp[locOk,Jdr,Jds]
        ·rintro v' H' ⟨v0,H0,⟨rfl,rfl⟩,rfl,rfl⟩
         simp[mo,moL,mo_rowV,tau,Jb9,Jm,Jfv,Jfw,Jfu,hcu2,hct2,hci]
      simp -implicitDefEqProofs only[go_sem,d3,hkil,splice,Gd,Gc]
      refine Je1 [0,0,0,0,0,0,1,0,2,2] JI (by decide +kernel) ?_
      simp -implicitDefEqProofs only[go_sem,hkil,hgc,Tr.row,if_true,Gf,List.take_succ_cons,Gy,splice,Gd,Gc]
      repeat refine And.intro (by first | omega | exact ⟨by omega,by omega⟩ | exact Jl) ?_
      refine vx_call hcall ?_
      simp -implicitDefEqProofs only[go_sem,if_true,Gf,Qt hne2,Qo hne2,Jf,Jv,Jd,splice,Gd,Gc]
      repeat refine And.intro (by first | omega | exact ⟨by omega,by omega⟩ | exact Jl) ?_
      have r2:∀ ρ,ren (0::1::2::ρ) (JV 2 (iz its))=JV 2 (iz its):=fun ρ=>JH rfl
      have q2:∀ ρ,(iz P.2).map (JL ρ)=iz P.2:=fun ρ=>Ja hcp
      refine ⟨j+1,[0,1,2,3,4,5,8,10],by omega,by omega,rfl,?_,?_⟩
      ·simp only[hsx,if_neg (Nat.succ_ne_zero j),Qt hne2,Qo hne2,Jf,Kt]
       simp only[Km,Ga,Gb,Gq,go_sem,Jk,Jh,Jy (Ja hci),Ja hct2,Ja hcu2,JL,ren,Jm,r2,q2,S]
      ·simp only[hsx,Kt,JaN]
       simp only[QO,Ga,Gb,ren,Jm]
       refine KZ ?_
       simp[XA,QB,Tr.row,ren,Jm,Jd]
     have d3:((j:Int) < (ks.length:Int))=False:=Jq
     obtain rfl:j=ks.length:=by omega
     rw[List.take_length]at hIj hnl hul ⊢
     generalize hP0:shF (shN t b f) ks s []=P at *
     have hcu1:=J7 P.1.us
     have hct1:=Jb P.1.tos
     have hcp:=Jb P.2
     have hpl:(iz P.2).length=P.2.length:=Jd
     have htl:=hIj.tl
     have hit:(iz P.1.tos).length=t.nodes.length:=by rw[Jd,htl]
     have hgv:=JN (l:=P.1.tos) (i:=v) (by omega)
     have hft3:=Gj (l:=iz P.2) (i:=P.2.length) (by rw[hpl]; omega)
     by_cases hk0:ks.length=0
     case' pos=>
      have hP1:P.1=s:=by rw[← hP0,Gu hk0]; rfl
      simp only[if_pos hk0]
      rw[← hP1]
     case' neg=>simp only[if_neg hk0]
     all_goals
      simp -implicitDefEqProofs only[go_sem,d3,hkil,Jv,Jf,Jd,htl,hgv,iz_set,Gs,Gf,Gn,Gm,splice,Gd,Gc]
      repeat refine And.intro (by first | omega | exact ⟨by omega,by omega⟩ | exact Jl) ?_
      rw[show ((P.1.us.length+1:Nat):Int)-1=(P.1.us.length:Int) by omega]
      exact ⟨_,_,_,_,rfl⟩
  ·rintro v' H' ⟨A,B,C,E',rfl,rfl⟩
   refine ⟨7,1,iz (shF (shN t b f) (Ka t b v) s []).2,rfl,Jb _,?_⟩
   have hf1:=Jfa (go:=shN t b f) (Ka t b v) s []
   rw[Gc,Gi]at hf1
   refine ⟨Qy 7 1 (iz (shF (shN t b f) (Ka t b v) s []).2) A,Qy 7 1 (iz (shF (shN t b f) (Ka t b v) s []).2) B,Qy 7 1 (iz (shF (shN t b f) (Ka t b v) s []).2) C,Qy 7 1 (iz (shF (shN t b f) (Ka t b v) s []).2) E',?_,?_⟩
   ·simp[frz,J4,Qd,shN,ndz,Kb]
   ·have e1:ndz (shN t b (f+1) v s).us=ndz (shF (shN t b f) (Ka t b v) s []).1.us++[Nd.cv { nd t v with kids:=(shF (shN t b f) (Ka t b v) s []).2 }]:=by simp[shN,ndz]
    have e0:(shN t b (f+1) v s).tos=(shF (shN t b f) (Ka t b v) s []).1.tos.set v ((shF (shN t b f) (Ka t b v) s []).1.us.length:Int):=rfl
    rw[e1,e0,Kc]
    generalize shF (shN t b f) (Ka t b v) s []=P
    have e2:(iz P.2).length=P.2.length:=Jd
    have e3:=Gj (l:=iz P.2) (i:=P.2.length) (by rw[e2]; exact Gl _)
    simp only[Ky,Ga,Gb,JeK,JeJ,KD hci,JO (Jb _),JO (J7 _),Gq,J4,frz,e2,if_true,Gi,Gl,Gf,e3,Nd.cv,S]
    rfl
  ·rintro v' H' ⟨A,B,C,E',rfl,rfl⟩
   refine ⟨[0,1,2,9],rfl,?_,?_⟩
   ·simp only[ren,JL,JH (ρ:=[0,1,2,9]) (id:=9) (j:=3) (els:=ndz (shN t b (f+1) v s).us) rfl,JH (ρ:=[0,1,2,9]) (id:=2) (j:=2) (els:=iz its) rfl]
   ·simp only[Km,Ga,Gb,go_sem,Jk,Jh,Jy (Ja hci),Ja (Jb _),Jy (Ja (J7 _))]
end
end
end Go.Cm
end
end
