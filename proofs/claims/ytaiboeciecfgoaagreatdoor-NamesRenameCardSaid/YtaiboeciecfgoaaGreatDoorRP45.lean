/-
  A part of the proof. Conditions: none.
-/
import Derived.Test.YtaiboeciecfgoaaGreatDoorRP44
set_option linter.unusedSimpArgs false
set_option linter.unusedVariables false
open Bool renaming and_eq_true_iff→Gp,true_and→Gq,false_eq_true→Gx,false_and→Gy,and_true→Gz
open Go.Proofs.Tryz renaming prog→Ga
open List renaming map_cons→Gc,map_nil→Gd,range→Gb,drop_zero→Gf,getD_eq_getElem?_getD→Gj,length_nil→Gg,length_cons→Gh,getElem?_eq_getElem→Gl,take_of_length_le→Gm,drop_eq_nil_of_le→Gn,length_filter_le→Gr,contains_iff_mem→Gs,drop_succ_cons→Gt,take_succ_eq_append_getElem→GA,mem_filter→Gu,length_eraseIdx_of_lt→GD,all_cons→Gv,all_nil→Gw,mem_of_getElem?→GG,take_succ_cons→GH,set_cons_zero→GI,set_cons_succ→GJ,length_append→GK,find?_eq_none→GL,cons_append→GM,nil_append→GN,take_zero→GQ,replicate→GR,find?_nil→GU
open Int renaming toNat_natCast→Gi
noncomputable section
section
set_option maxRecDepth 100000
set_option maxHeartbeats 4000000
open Go.Proofs
namespace Go.Cm
section
def q2Ok (l:List IOper) (es:List (List Nat)) (bs bs2:List Bool) (i j:Nat) (p q:List Nat):Bool:=
 (!(i == j) && decide (i < es.length) && decide (j < es.length)) && (permOk l.length p q &&
 ((l.length == bs.length && (Jb2 l.length (JeD es j i) (clo (JeD es j i)) && QJ l (clo (JeD es j i)) (bs.map Xa))) &&
 ((prl p l).length == bs2.length && (Jb2 (prl p l).length (pre p q (JeD es i j)) (clo (pre p q (JeD es i j))) && QJ (prl p l) (clo (pre p q (JeD es i j))) (bs2.map Xa)))))
theorem vr_dregQ {P:Program}{E:Env}{n0:Nat}{N:Fr}{Q:Exit→List CV→List CObj→Prop}{H:List CObj}{T:List CV}{k:List KItem}{l:List IOper}{es:List (List Nat)}(i j:Nat) (p q:List Nat) (bs bs2:List Bool) (T':List CV) (H':List CObj) (hm:P.follows .mixedOrders=true) (hord:q2Ok l es bs bs2 i j p q=true)
  (h1:vdk P E (leads P E n0 N Q T' H') l bs T H) (h2:vdk P E (leads P E n0 N Q T' H') (prl p l) bs2 T H) (hfin:Kr P E n0 N Q k T' H'):Ok P E n0 N Q (.code (.dreg l es)::k) T H:=by
 unfold q2Ok at hord
 obtain ⟨g0,r1⟩:=Gp.1 hord
 obtain ⟨g1,r2⟩:=Gp.1 r1
 obtain ⟨g2,g3⟩:=Gp.1 r2
 exact vr_draw hm (draw_pair i j g0 (draw_leaf bs T' H' g2 (JK _ _ _ hfin) h1) (draw_perm p q g1 (draw_leaf bs2 T' H' g3 (JK _ _ _ hfin) h2)))
theorem nOpenE (t:Tr) (ht:t.Fit) (h:chk t≠0):Fn Ga 106 [t.cv] (.tup [.nilp,.int .i64 (chk t)]):=by
 have e:(chk t != 0)=true:=by simpa using h
 refine Ja c106_ok rfl rfl fun N=>?_
 simp -implicitDefEqProofs only[c106,go_sem,Tr.cv,Tr.row]
 refine JV (Jff t ht) ?_
 simp -implicitDefEqProofs only[go_sem,e]
theorem iz_set {l:List Int}{i:Nat}{v:Int}:(iz l).set i [.int .i64 v]=iz (l.set i v):=by simp[iz,List.map_set]
def oT (t:Tr):List CV:=[.rslc 5 (ndz t.nodes) none,.rslc 1 (iz t.items) none,.slc 1 0 t.nodes.length none,.slc 2 0 t.nodes.length (some t.nodes.length)]
section
variable {t:Tr}{o:List Int}(g:GoodT t o) (ht:t.Fit)
include g ht
theorem nOpen:Fn Ga 106 [t.cv] (.tup [.rptr (tRw t),.int .i64 0]):=by
 have hmany:=g.many
 have hitm:=g.items
 have hc:chk t=0:=(Jb3 t).2 ⟨o,g⟩
 have e:(chk t != 0)=false:=by simp[hc]
 refine QP ?_ rfl rfl
 refine KI c106_ok fun N=>?_
 simp -implicitDefEqProofs only[c106,go_sem,Tr.cv,Tr.row]
 refine Jg (id:=0) (z:=2) (els:=[t.row]) rfl rfl ?_
 simp only[go_sem,J2,Ko,frz,KG,Tr.row]
 refine JV (Jff t ht) ?_
 simp -implicitDefEqProofs only[go_sem,e]
 have hz:GR t.nodes.length [CV.int .i64 0]=iz (Xp t 0):=by rw[itemTo_zero]; simp[iz]
 have hR:=repeatO (-1) t.nodes.length (by omega)
 rw[← upTo_zero g]at hR
 have hni:=Jb (ρ:=[0,2,1,3]) (Jd (Xp t 0))
 have hnu:=Jb (ρ:=[0,2,1,3]) (Jd (upTo t 0))
 refine vr_dregQ 5 9 [0,1,2,3,4,6,7,8,9,5,10,11,12] [0,1,2,3,4,9,5,6,7,8,10,11,12] [false,false,false,false,false,true,false,false,false,true,false,true,false] [false,false,false,false,false,false,false,false,true,true,false,true,false] (gp [(1,.rptr t.row),(3,.ptr 3 0 0)] 71) [.dead,.arr 1 (iz (upTo t 0)),.arr 1 (iz (Xp t 0)),.arr 4 [oT t]] JA (by decide +kernel) ?_ ?_ ?_
 ·simp -implicitDefEqProofs only[go_sem,Tr.row]
  refine ⟨_,_,hs_row (iz [-1]) rfl rfl rfl rfl,?_⟩
  simp -implicitDefEqProofs only[go_sem,Jc]
  refine ⟨_,_,Jd3 (.inl rfl) (hR _ _),?_⟩
  simp -implicitDefEqProofs only[go_sem,Jc,hz]
  exact ⟨⟨by omega,Int.le_refl _,by omega,by omega⟩,Jag (by simp[forget,Tr.row])⟩
 ·simp -implicitDefEqProofs only[prl,Ky,Gh,Gg,Gc,Gd,List.getD_cons_zero,List.getD_cons_succ,go_sem,Tr.row]
  refine ⟨_,_,hs_row (iz [-1]) rfl rfl rfl rfl,?_⟩
  simp -implicitDefEqProofs only[go_sem,Jc,hz]
  refine ⟨⟨by omega,Int.le_refl _,by omega,by omega⟩,?_⟩
  refine ⟨_,_,Jd3 (.inl rfl) (hR _ _),?_⟩
  simp -implicitDefEqProofs only[go_sem]
  refine Jdb [0,2,1,3] rfl (by simp[forget,JF,ren,Jo,Tr.row]) ?_
  simp only[Kw,Gc,Gd,go_sem,Jp,Jr,hni,hnu]
  simp[JF,ren,Jo,oT]
 ·simp only[gp,GR]
  simp -implicitDefEqProofs only[go_sem,Tr.row,Jc]
  refine JG (I:=fun i:Nat=>i≤t.nodes.length) (inv:=fun i=>gp [(1,.rptr t.row),(3,.ptr 3 0 0),(24,.rslc 5 (ndz t.nodes) none),(0,.int .i64 (t.nodes.length:Int)),(0,.int .i64 (i:Int))] 44) (hp:=fun i=>[.dead,.arr 1 (iz (upTo t i)),.arr 1 (iz (Xp t 0)),.arr 4 [oT t]]) (μ:=fun i=>t.nodes.length-i) 0 [0,1,2,3] (by omega) rfl ?_ ?_ ?_
  ·simp[forget,JF,ren,Jo,gp,Tr.row]
  ·simp only[Kw,Gc,Gd,go_sem,Jp,Jr,Jb (Jd _)]
   simp[JF,ren,Jo,oT]
  ·intro i hi
   by_cases hlt:i < t.nodes.length
   ·have d1:((i:Int) < (t.nodes.length:Int))=True:=Jn
    have hg:=J6 hlt
    have hkl:(iz (nd t i).kids).length=(nd t i).kids.length:=Jf
    have hkn:=(fitN ht hlt).kidn
    have hus:=upTo_succ g hlt
    simp -implicitDefEqProofs only[go_sem,d1,Jc,hg,Nd.cv,hkl]
    refine ⟨by omega,?_⟩
    refine Jg (id:=4) (z:=5) (els:=[(nd t i).cv]) rfl rfl ?_
    simp only[go_sem,J2,Ko,frz,KG,oT,Gf,KD (Jd _),Gc,Gd]
    refine Jz (I:=fun k:Nat=>k≤(nd t i).kids.length) (inv:=fun k=>gp [(1,.rptr t.row),(3,.ptr 3 0 0),(0,.int .i64 (i:Int)),(23,.rslc 5 (ndz t.nodes) none),(0,.int .i64 (t.nodes.length:Int)),(0,.int .i64 (i:Int)),(5,.rslc 1 (iz (nd t i).kids) none),(0,.int .i64 ((nd t i).kids.length:Int)),(0,.int .i64 (k:Int))] 36) (hp:=fun k=>[.dead,.arr 1 (iz (XV i (upTo t i) ((nd t i).kids.take k))),.arr 1 (iz (Xp t 0)),.arr 4 [oT t],.dead]) (μ:=fun k=>(nd t i).kids.length-k) 0 (by omega) ?_ rfl ?_
    ·simp[forget,gp,Tr.row]
    ·intro k hk
     by_cases hlk:k < (nd t i).kids.length
     ·have d2:((k:Int) < ((nd t i).kids.length:Int))=True:=Jn
      have hgk:=JR hlk
      have hmem:(nd t i).kids.getD k 0∈(nd t i).kids:=by rw[Gj,Gl hlk]; exact List.getElem_mem hlk
      have hr:=g.kid hlt hmem
      have hsn:XV (i:Int) (upTo t i) ((nd t i).kids.take (k+1))=(XV (i:Int) (upTo t i) ((nd t i).kids.take k)).set ((nd t i).kids.getD k 0).toNat i:=by
       rw[GA hlk,Jdz,Gj,Gl hlk]; rfl
      have hsl:(XV (i:Int) (upTo t i) ((nd t i).kids.take k)).length=t.nodes.length:=by rw[Je5,Jax]
      generalize (nd t i).kids.getD k 0=c at hgk hr hsn
      obtain ⟨c,rfl⟩:∃ c':Nat,c=c':=⟨c.toNat,by omega⟩
      rw[Gi]at hsn
      generalize XV (i:Int) (upTo t i) ((nd t i).kids.take k)=r at hsn hsl ⊢
      have hrl:(iz r).length=t.nodes.length:=by rw[Jf,hsl]
      have hgr:=JR (l:=r) (i:=c) (by omega)
      simp -implicitDefEqProofs only[go_sem,d2,hkl,hgk,oT,hrl,hgr,Gh,Gg,Gt,Gf,iz_set]
      refine ⟨by omega,by omega,by omega,Ji,k+1,by omega,by omega,?_,?_⟩
      ·rw[hsn]
      ·simp[forget,Tr.row]
     ·have d2:((k:Int) < ((nd t i).kids.length:Int))=False:=Jj
      rw[Gm (by omega),← hus]
      simp -implicitDefEqProofs only[go_sem,d2]
      refine ⟨Ji,i+1,[0,1,2,3],by omega,by omega,rfl,?_,?_⟩
      ·simp only[Kw,Gc,Gd,go_sem,Jp,Jr,Jb (Jd _)]
       simp[JF,ren,Jo,oT]
      ·simp[forget,JF,ren,Jo,Tr.row]
   ·have d1:((i:Int) < (t.nodes.length:Int))=False:=Jj
    obtain rfl:i=t.nodes.length:=by omega
    rw[upTo_all g]
    simp -implicitDefEqProofs only[go_sem,d1,Tr.row,Jc]
    refine JG (I:=fun i:Nat=>i≤t.nodes.length∧(i=0∨i≤t.nodes.length)∧Xf t i≤t.items.length) (inv:=fun i=>gp [(1,.rptr t.row),(3,.ptr 3 0 0),(4,.int .i64 (Xf t i:Int)),(44,.int .i64 (t.nodes.length:Int)),(0,.int .i64 (i:Int))] 20) (hp:=fun i=>[.dead,.arr 1 (iz (upT t)),.arr 1 (iz (Xp t i)),.arr 4 [oT t]]) (μ:=fun i=>t.nodes.length-i) 0 [0,1,2,3] ⟨by omega,.inl rfl,by rw[Jfq g]; omega⟩ rfl ?_ ?_ ?_
    ·simp[forget,JF,ren,Jo,gp,Tr.row,Jfq g]
    ·simp only[Kw,Gc,Gd,go_sem,Jp,Jr,Jb (Jd _)]
     simp[JF,ren,Jo,oT]
    ·rintro i ⟨hi,_,hin⟩
     by_cases hlt:i < t.nodes.length
     ·have d1:((i:Int) < (t.nodes.length:Int))=True:=Jn
      obtain ⟨L,h1,h2,h3,h4,h5⟩:=itemN_step g hlt
      have hsu:=itemTo_succ hlt
      have hrl:(iz (Xp t i)).length=t.nodes.length:=by rw[Jf,Jfp (by omega)]
      have hgr:=JR (l:=Xp t i) (i:=i) (by rw[Jfp (by omega)]; exact hlt)
      have hgi:=JR (l:=t.items) h1
      rw[h2]at hgi
      have hil:(iz t.items).length=t.items.length:=Jf
      by_cases he:i=L
      ·have e1:((i:Int) == (L:Int))=true:=by simp[he]
       rw[if_pos he]at h5
       simp -implicitDefEqProofs only[go_sem,d1,Tr.row,oT,hrl,hgr,hil,hgi,e1,Gh,Gg,Gt,Gf,iz_set]
       refine ⟨by omega,by omega,by omega,Ji,Ji,i+1,[0,1,2,3],⟨by omega,.inr (by omega),by omega⟩,by omega,rfl,?_,?_⟩
       ·rw[← hsu]
        simp only[Kw,Gc,Gd,go_sem,Jp,Jr,Jb (Jd _)]
        simp[JF,ren,Jo]
       ·rw[h5]; simp[forget,JF,ren,Jo]
      ·have e1:((i:Int) == (L:Int))=false:=beq_eq_false_iff_ne.2 (by omega)
       rw[if_neg he]at h5
       simp -implicitDefEqProofs only[go_sem,d1,Tr.row,oT,hrl,hgr,hil,hgi,e1,Gh,Gg,Gt,Gf,iz_set]
       refine ⟨by omega,by omega,by omega,Ji,i+1,[0,1,2,3],⟨by omega,.inr (by omega),by omega⟩,by omega,rfl,?_,?_⟩
       ·rw[← hsu]
        simp only[Kw,Gc,Gd,go_sem,Jp,Jr,Jb (Jd _)]
        simp[JF,ren,Jo]
       ·rw[h5]; simp[forget,JF,ren,Jo]
     ·have d1:((i:Int) < (t.nodes.length:Int))=False:=Jj
      obtain rfl:i=t.nodes.length:=by omega
      rw[itemTo_all]
      simp -implicitDefEqProofs only[go_sem,d1]
      refine .step 1 1 (iz (upT t)) rfl (Jd _) (.step 2 1 (iz (JcW t)) ?_ (Jd _) (.step 3 4 [tRw t] ?_ rfl (.done ?_)))
      ·simp only[Ko,KG,J2,frz,oT,Gc,Gd,GJ,GI,List.getElem?_cons_succ,List.getElem?_cons_zero,KD (Jd _)]
      ·have q1:(iz (upT t)).take t.nodes.length=iz (upT t):=Gm (by rw[Jf,Jdu]; omega)
       have q2:(iz (JcW t)).take t.nodes.length=iz (JcW t):=Gm (by rw[Jf,JbU]; omega)
       simp[Ko,KG,J2,frz,oT,tRw,Jf,Jdu,JbU,q1,q2]
      ·simp[frz,J2]
       exact wk.refl _
end
end
section
theorem Jgy {n:Nat}{l:List Int}{q:Int→Bool}(h:∀ x∈l,0≤x∧x < n) : -1≤(match l.find? q with | some d=>d | none=>-1)∧(match l.find? q with | some d=>d | none=>-1) < (n:Int):=by
 cases hf:l.find? q with
 |none=>simp; omega
 |some d=>
  have:=h d (List.mem_of_find?_eq_some hf)
  simp only; omega
theorem mean_rng {t:Tr}{o:List Int}{i:Nat} : -1≤Q8 t o i∧Q8 t o i < t.nodes.length:=by
 unfold Q8 Jfn Jfo JdU
 have h:∀ x∈Ka t,0≤x∧x < (t.nodes.length:Int):=fun x hx=>Qp.1 hx
 split
 ·exact Jgy h
 ·split
  ·exact Jgy h
  ·split
   ·exact Jgy h
   ·omega
theorem K5 {t:Tr}{o:List Int}:(ofL t o).length=t.nodes.length:=by simp[ofL]
theorem ofL_get {t:Tr}{o:List Int}{i:Nat}(h:i < t.nodes.length):(ofL t o).getD i 0=Q8 t o i:=by
 simp[ofL,Gj,h]
theorem ofL_take {t:Tr}{o:List Int}{i:Nat}(h:i < t.nodes.length):(ofL t o).take (i+1)=(ofL t o).take i++[Q8 t o i]:=by
 rw[GA (by rw[K5]; exact h)]
 simp[ofL]
theorem ofL_ok {t:Tr}{o:List Int}:OfOk t (ofL t o):=⟨K5,fun i hi=>by rw[K5]at hi; rw[ofL_get hi]; exact mean_rng⟩
def resV (t:Tr) (o:List Int):CV:=match X5 t o 6 10 (Gb t.nodes.length) with
 |some r=>.tup [.agg [.rptr (tRw t),.rslc 1 (iz ((ofL t o).take r.1)) none],.int .i64 (r.1:Int),.int .i64 r.2]
 |none=>match (Gb t.nodes.length).find? (stN t o) with
  |some i=>.tup [.agg (rRw t (ofL t o)),.int .i64 (i:Int),.int .i64 9]
  |none=>.tup [.agg (rRw t (ofL t o)),.int .i64 0,.int .i64 0]
theorem resV_closed {t:Tr}{o:List Int}:(resV t o).closed=true:=by
 unfold resV
 split
 ·rfl
 ·split <;> rfl
theorem frzs_row {H:List CObj}{id:Nat}{l:List Int}{x:CV}{ys:List CV}(hx:x.closed=true) (hy:Jm ys=true) (h:H[id]? = some (Xu 1 (iz l))):Frzs (.tup (.agg [x,.rslc 1 (iz l) none]::ys)) (.tup (.agg [x,QC id (iz l)]::ys)) H:=by
 cases l with
 |nil=>exact .done (wk_tup ⟨Jbz ⟨wk.refl _,wk.nils,trivial⟩,wks.refl _⟩)
 |cons a l=>
  refine .step id 1 (iz (a::l)) h (Jd _) (.done ?_)
  have e:frz id 1 (iz (a::l)) (QC id (iz (a::l)))=.rslc 1 (iz (a::l)) none:=by
   rw[JY,Xl]
   simp[frz]
  simp only[frz,J2,e,Xg x hx,KQ ys hy]
  exact wk.refl _
theorem bfs_len {N:Int→List Int}{l:List Int}(hN:∀ x∈l,∀ y∈N x,y∈l):∀ (f:Nat) (todo out:List Int),(∀ x∈todo,x∈l)→(JeC N f todo out).length≤out.length+Xn l out
 |0,_,out,_=>Nat.le_add_right _ _
 |f+1,[],out,_=>Nat.le_add_right _ _
 |f+1,x::todo,out,h=>by
  rw[JeC]
  cases hc:out.contains x with
  |true=>rw[if_pos rfl]; exact bfs_len hN f todo out fun y hy=>h y (by simp[hy])
  |false=>
   rw[if_neg (by simp)]
   have hx:=h x (by simp)
   have h1:=bfs_len hN f (todo++N x) (out++[x]) fun y hy=>by
    rcases List.mem_append.1 hy with h2 | h2
    ·exact h y (by simp[h2])
    ·exact hN x hx y h2
   have h2:=XF hx hc
   simp only[GK,Gh,Gg]at h1
   omega
theorem Jfl (t:Tr) (ht:t.Fit) (h:chk t≠0):Fn Ga 77 [t.cv] (.tup [.agg [.nilp,.nils],.int .i64 0,.int .i64 (chk t)]):=by
 have e:(chk t != 0)=true:=by simpa using h
 refine Ja c77_ok rfl rfl fun N=>?_
 simp -implicitDefEqProofs only[c77,go_sem,Tr.cv,Tr.row]
 refine JV (nOpenE t ht h) ?_
 simp -implicitDefEqProofs only[go_sem,e]
section
variable {t:Tr}{o:List Int}(g:GoodT t o) (ht:t.Fit)
include g ht
theorem JdS:Fn Ga 77 [t.cv] (resV t o):=by
 have hmany:=g.many
 refine QP ?_ rfl resV_closed
 refine KI c77_ok fun N=>?_
 simp -implicitDefEqProofs only[c77,go_sem,Tr.cv,Tr.row]
 refine Jg (id:=0) (z:=2) (els:=[t.row]) rfl rfl ?_
 simp only[go_sem,J2,Ko,frz,KG,Tr.row]
 refine JV (nOpen g ht) ?_
 simp -implicitDefEqProofs only[go_sem,tRw,Jc]
 refine XU ?_
 simp only[go_sem,GM,GN]
 refine JG (I:=fun i:Nat=>i≤t.nodes.length∧X5 t o 6 10 (Gb t.nodes.length)=X5 t o 6 10 ((Gb t.nodes.length).drop i)) (inv:=fun i=>gp [(2,.ptr 1 0 0),(2,.rptr (tRw t)),(20,.int .i64 (t.nodes.length:Int)),(0,.int .i64 (i:Int))] 53) (hp:=fun i=>[.dead,.arr 2 [[.rptr (tRw t),QC 2 (iz ((ofL t o).take i))]],Xu 1 (iz ((ofL t o).take i))]) (μ:=fun i=>t.nodes.length-i) 0 [0,1,2] ⟨by omega,by rw[Gf]⟩ rfl ?_ ?_ ?_
 ·simp[forget,JF,ren,Jo,gp,tRw]
 ·simp[Kw,JF,ren,Jo,JgQ,QC,Xu,iz,tRw]
 ·rintro i ⟨hi,hinv⟩
  have hacc:((ofL t o).take i).length=i:=by rw[List.length_take,K5]; omega
  by_cases hlt:i < t.nodes.length
  ·have d1:((i:Int) < (t.nodes.length:Int))=True:=Jn
   have hot:=ofL_take (o:=o) hlt
   rw[KN hlt,X5]at hinv
   have hrs:∀ a:Int,X5 t o 6 10 (Gb t.nodes.length)=some (i,a)→resV t o=.tup [.agg [.rptr (tRw t),.rslc 1 (iz ((ofL t o).take i)) none],.int .i64 (i:Int),.int .i64 a]:=fun a h=>by unfold resV; rw[h]
   generalize (ofL t o).take i=acc at hacc hot hrs ⊢
   simp -implicitDefEqProofs only[go_sem,d1]
   refine JV (nMeaning g ht hlt) ?_
   simp -implicitDefEqProofs only[go_sem]
   refine JV (nTwice (by omega) hlt) ?_
   cases htw:twN t i with
   |true=>
    rw[htw,if_pos rfl]at hinv
    rw[hrs 6 hinv]
    simp -implicitDefEqProofs only[go_sem]
    exact frzs_row rfl rfl rfl
   |false=>
    rw[htw]at hinv
    cases hsh:Qx t i with
    |false=>
     rw[if_neg (by simp),if_neg (by rw[hsh]; simp)]at hinv
     simp -implicitDefEqProofs only[go_sem,Jf,JJ]
     refine ⟨⟨by omega,by omega⟩,Ji,i+1,[0,1,4],⟨by omega,hinv⟩,by omega,rfl,?_,?_⟩
     ·rw[hot,J8,Km,Kl]
      simp only[Kw,Gc,Gd,go_sem,Jp,Jr]
      simp[Jb (Jd acc),JF,ren,Jo,Jf]
     ·simp[forget,JF,ren,Jo]
    |true=>
     cases hme:(Q8 t o i == -1) with
     |true=>
      rw[if_neg (by simp),if_pos (by rw[hsh,hme]; rfl)]at hinv
      rw[hrs 10 hinv]
      simp -implicitDefEqProofs only[go_sem,hme]
      exact frzs_row rfl rfl rfl
     |false=>
      rw[if_neg (by simp),if_neg (by rw[hsh,hme]; simp)]at hinv
      simp -implicitDefEqProofs only[go_sem,hme,Jf,JJ]
      refine ⟨⟨by omega,by omega⟩,Ji,i+1,[0,1,4],⟨by omega,hinv⟩,by omega,rfl,?_,?_⟩
      ·rw[hot,J8,Km,Kl]
       simp only[Kw,Gc,Gd,go_sem,Jp,Jr]
       simp[Jb (Jd acc),JF,ren,Jo,Jf]
      ·simp[forget,JF,ren,Jo]
  ·have d1:((i:Int) < (t.nodes.length:Int))=False:=Jj
   obtain rfl:i=t.nodes.length:=by omega
   rw[show (Gb t.nodes.length).drop t.nodes.length=[] from Gn (by simp),X5]at hinv
   have hrs:resV t o=match (Gb t.nodes.length).find? (stN t o) with | some i=>.tup [.agg (rRw t (ofL t o)),.int .i64 (i:Int),.int .i64 9] | none=>.tup [.agg (rRw t (ofL t o)),.int .i64 0,.int .i64 0]:=by unfold resV; rw[hinv]
   rw[hrs,Gm (by rw[K5]; omega)]
   by_cases h0:t.nodes.length=0
   ·have hof:ofL t o=[]:=List.length_eq_zero_iff.1 (by rw[K5]; exact h0)
    have d2:((0:Int) < (t.nodes.length:Int))=False:=Jj
    have hr0:Gb t.nodes.length=[]:=by rw[h0]; rfl
    rw[hof,Qw,Qn,QX,hr0,GU]
    simp -implicitDefEqProofs only[go_sem,d1,d2,tRw,Jc]
    refine Jz (σ:=Unit) (I:=fun _=>True) (inv:=fun _=>gp [(2,.ptr 1 0 0),(2,.rptr (tRw t)),(56,.int .i64 (t.nodes.length:Int)),(0,.int .i64 0)] 17) (hp:=fun _=>[.dead,.arr 2 [[.rptr (tRw t),.nils]],.dead]) (μ:=fun _=>0) () trivial ?_ rfl ?_
    ·simp[forget,gp,tRw]
    ·intro _ _
     simp -implicitDefEqProofs only[go_sem,d2]
     exact .done (wk_tup ⟨Jbz ⟨wk.refl _,wk.nils,trivial⟩,wks.refl _⟩)
   ·have hofn:iz (ofL t o)≠[]:=by
     intro e
     have:=congrArg List.length e
     rw[Jf,K5]at this
     exact h0 (by simpa using this)
    have hofl:=K5 (t:=t) (o:=o)
    rw[Qz hofn,Qd hofn,Jf,hofl]
    simp -implicitDefEqProofs only[go_sem,d1,tRw,Jc]
    refine Jg (id:=2) (z:=1) (els:=iz (ofL t o)) rfl (Jd _) ?_
    have hft:List.take t.nodes.length (iz (ofL t o))=iz (ofL t o):=Gm (by rw[Jf,hofl]; omega)
    simp only[go_sem,J2,Ko,frz,KG,Gc,Gd,Gf,Nat.zero_add,if_true,Jf,hofl,Nat.le_refl,hft,GJ,GI]
    refine JG (I:=fun i:Nat=>i≤t.nodes.length∧(Gb t.nodes.length).find? (stN t o)=((Gb t.nodes.length).drop i).find? (stN t o)) (inv:=fun i=>gp [(2,.ptr 1 0 0),(2,.rptr (tRw t)),(56,.int .i64 (t.nodes.length:Int)),(0,.int .i64 (i:Int))] 17) (hp:=fun _=>[.dead,.arr 2 [rRw t (ofL t o)],.dead]) (μ:=fun i=>t.nodes.length-i) 0 [0,1,2] ⟨by omega,by rw[Gf]⟩ rfl ?_ ?_ ?_
    ·simp[forget,JF,ren,Jo,gp,tRw]
    ·simp[Kw,JF,ren,Jo,JgQ,rRw,tRw]
    ·rintro i ⟨hi,hinv⟩
     by_cases hlt:i < t.nodes.length
     ·have d1:((i:Int) < (t.nodes.length:Int))=True:=Jn
      rw[KN hlt,List.find?_cons]at hinv
      simp -implicitDefEqProofs only[go_sem,d1]
      refine JV (JcV t hlt) ?_
      cases hk:((nd t i).k == 41) with
      |false=>
       have hst:stN t o i=false:=by unfold stN; rw[hk]; rfl
       rw[hst]at hinv
       simp -implicitDefEqProofs only[go_sem,kbE,hk]
       refine ⟨Ji,i+1,[0,1,2],⟨by omega,hinv⟩,by omega,rfl,?_,?_⟩
       ·simp[Kw,JF,ren,Jo,JgQ,rRw]
       ·simp[forget,JF,ren,Jo]
      |true=>
       have hst:stN t o i=(bfs (fun x=>KF t o (ofL t o) x.toNat) (Ka t) (KF t o (ofL t o) i) []).contains (i:Int):=by unfold stN; rw[hk,Gq]
       have hA:=(nAll g ht (ofL_ok (o:=o)) hlt (beq_iff_eq.1 hk)).fn rfl (Jd _)
       have hbl:(bfs (fun x=>KF t o (ofL t o) x.toNat) (Ka t) (KF t o (ofL t o) i) []).length≤100000:=by
        have h1:=bfs_len (N:=fun x=>KF t o (ofL t o) x.toNat) (l:=Ka t) (fun x hx=>(needN_ok x hx).1) (muB (Ka t) (KF t o (ofL t o) i) []+1) (KF t o (ofL t o) i) [] (fun x hx=>(Gu.1 hx).1)
        have h2:=JbS (l:=Ka t) (out:=[])
        have h3:(Ka t).length=t.nodes.length:=by simp[Ka]
        simp only[Gg]at h1
        show (JeC _ _ _ _).length≤_
        omega
       generalize bfs (fun x=>KF t o (ofL t o) x.toNat) (Ka t) (KF t o (ofL t o) i) []=B at hst hA hbl
       simp -implicitDefEqProofs only[go_sem,kbE,hk,rRw]
       refine JN (gok rfl) hA ?_
       simp -implicitDefEqProofs only[go_sem]
       refine JN (gok rfl) (containsI B (i:Int) hbl) ?_
       cases hc:B.contains (i:Int) with
       |false=>
        rw[hst,hc]at hinv
        simp -implicitDefEqProofs only[go_sem]
        refine ⟨Ji,i+1,[0,1,2],⟨by omega,hinv⟩,by omega,rfl,?_,?_⟩
        ·simp[Kw,JF,ren,Jo,JgQ]
        ·simp[forget,JF,ren,Jo]
       |true=>
        rw[hst,hc]at hinv
        rw[hinv]
        simp -implicitDefEqProofs only[go_sem]
        exact .done (wk.refl _)
     ·have d1:((i:Int) < (t.nodes.length:Int))=False:=Jj
      rw[show (Gb t.nodes.length).drop i=[] from Gn (by simp; omega),GU]at hinv
      rw[hinv]
      simp -implicitDefEqProofs only[go_sem,d1,rRw]
      exact .done (wk.refl _)
theorem JaF:Fn Ga 36 [t.cv] (if (Yr t o).2=0 then .tup [.agg [.rslc 1 (iz (ofL t o)) none],.int .i64 0,.int .i64 0] else .tup [.agg [.nils],.int .i64 ((Yr t o).1:Int),.int .i64 (Yr t o).2]):=by
 have hV:=JdS g ht
 refine Ja c36_ok rfl (by split <;> rfl) fun N=>?_
 simp -implicitDefEqProofs only[c36,go_sem,Tr.cv,Tr.row]
 refine JV hV ?_
 unfold Yr resV
 cases hs:X5 t o 6 10 (Gb t.nodes.length) with
 |some r=>
  have hr:∀ l:List Nat,X5 t o 6 10 l=some r→r.2=6∨r.2=10:=by
   intro l
   induction l with
   |nil=>intro h; cases h
   |cons x l ih=>
    intro h
    rw[X5]at h
    split at h
    ·cases h; exact .inl rfl
    ·split at h
     ·cases h; exact .inr rfl
     ·exact ih h
  have h2:=hr _ hs
  have e1:(r.2 != 0)=true:=bne_iff_ne.2 (by omega)
  simp only
  rw[if_neg (by omega)]
  simp -implicitDefEqProofs only[go_sem,e1]
 |none=>
  simp only
  cases hf:(Gb t.nodes.length).find? (stN t o) with
  |some i=>
   simp only
   rw[if_neg (by decide)]
   simp -implicitDefEqProofs only[go_sem,rRw]
  |none=>
   simp only[if_true]
   simp -implicitDefEqProofs only[go_sem,rRw]
end
end
section
def rE (t:Tr) (o:List Int):List CV:=match X5 t o 6 10 (Gb t.nodes.length) with
 |some r=>[.rptr (tRw t),.rslc 1 (iz ((ofL t o).take r.1)) none]
 |none=>rRw t (ofL t o)
theorem resV_eq {t:Tr}{o:List Int}:resV t o=.tup [.agg (rE t o),.int .i64 ((Yr t o).1:Int),.int .i64 (Yr t o).2]:=by
 unfold resV Yr rE
 cases X5 t o 6 10 (Gb t.nodes.length) with
 |some r=>rfl
 |none=>cases (Gb t.nodes.length).find? (stN t o) <;> rfl
theorem rE_ok {t:Tr}{o:List Int}(h:(Yr t o).2=0):rE t o=rRw t (ofL t o):=by
 unfold rE
 unfold Yr at h
 cases hs:X5 t o 6 10 (Gb t.nodes.length) with
 |some r=>
  rw[hs]at h
  have hr:∀ l:List Nat,X5 t o 6 10 l=some r→r.2=6∨r.2=10:=by
   intro l
   induction l with
   |nil=>intro h; cases h
   |cons x l ih=>
    intro h
    rw[X5]at h
    split at h
    ·cases h; exact .inl rfl
    ·split at h
     ·cases h; exact .inr rfl
     ·exact ih h
  have:=hr _ hs
  simp only at h
  omega
 |none=>rfl
theorem rE_closed {t:Tr}{o:List Int}:Jm (rE t o)=true:=by unfold rE; split <;> rfl
theorem rE_head {t:Tr}{o:List Int}:∃ l,rE t o=[.rptr (tRw t),.rslc 1 (iz l) none]:=by unfold rE rRw; split <;> exact ⟨_,rfl⟩
theorem nFindE (t:Tr) (ht:t.Fit) (ns:List Int) (h:chk t≠0):Fn Ga 49 [t.cv,.rslc 1 (iz ns) none] (.tup [.agg [.nilp,.nils],.int .i64 (chk t)]):=by
 have e:(chk t != 0)=true:=by simpa using h
 refine Ja c49_ok rfl rfl fun N=>?_
 simp -implicitDefEqProofs only[c49,go_sem,Tr.cv,Tr.row]
 refine JV (Jfl t ht h) ?_
 simp -implicitDefEqProofs only[go_sem,e]
section
variable {t:Tr}{o:List Int}(g:GoodT t o) (ht:t.Fit)
include g ht
theorem nFind (ns:List Int) (hns:ns.length≤100):Fn Ga 49 [t.cv,.rslc 1 (iz ns) none] (.tup [.agg (rE t o),.int .i64 (if (Yr t o).2≠0 then (Yr t o).2 else if ns.all (inT t)=true then 0 else 7)]):=by
 have hmany:=g.many
 have hV:=JdS g ht
 rw[resV_eq]at hV
 have hil:(iz ns).length=ns.length:=Jf
 obtain ⟨x,hx⟩:=rE_head (t:=t) (o:=o)
 refine Ja c49_ok rfl (by simp[CV.closed,Jm,rE_closed]) fun N=>?_
 rw[hx]at hV ⊢
 simp -implicitDefEqProofs only[c49,go_sem,Tr.cv,Tr.row]
 refine JV hV ?_
 by_cases he:(Yr t o).2=0
 ·have e1:((Yr t o).2 != 0)=false:=by simp[he]
  rw[if_neg (by simpa using he)]
  simp -implicitDefEqProofs only[go_sem,e1,hil]
  refine Jg (id:=2) (z:=2) (els:=[[.rptr (tRw t),.rslc 1 (iz x) none]]) rfl rfl ?_
  simp only[go_sem,J2,Ko,frz,KG,Gc,Gd,Gf]
  refine Jz (I:=fun i:Nat=>i≤ns.length∧ns.all (inT t)=(ns.drop i).all (inT t)) (inv:=fun i=>gp [(4,.ptr 1 0 0),(1,.rptr [.rptr (tRw t),.rslc 1 (iz x) none]),(14,.rslc 1 (iz ns) none),(0,.int .i64 (ns.length:Int)),(0,.int .i64 (i:Int))] 19) (hp:=fun _=>[.arr 2 [t.row],.arr 2 [[.nilp,.nils]],.dead]) (μ:=fun i=>ns.length-i) 0 ⟨by omega,by rw[Gf]⟩ ?_ rfl ?_
  ·simp[forget,gp]
  ·rintro i ⟨hi,hinv⟩
   by_cases hlt:i < ns.length
   ·have d1:((i:Int) < (ns.length:Int))=True:=Jn
    have hgi:=JR hlt
    rw[List.drop_eq_getElem_cons hlt,Gv,show ns[i]=ns.getD i 0 by rw[Gj,Gl hlt]; rfl]at hinv
    generalize ns.getD i 0=y at hinv hgi
    cases hy:inT t y with
    |true=>
     have hr:=X8.1 hy
     rw[hy,Gq]at hinv
     have e2:decide (y < 0)=false:=decide_eq_false (by omega)
     have e3:decide ((t.nodes.length:Int)≤y)=false:=decide_eq_false (by omega)
     simp -implicitDefEqProofs only[go_sem,d1,hil,hgi,e2,e3,tRw,Jc]
     refine ⟨by omega,Ji,i+1,⟨by omega,hinv⟩,by omega,?_⟩
     simp[forget,tRw]
    |false=>
     have hr:¬ (0≤y∧y < t.nodes.length):=fun h=>by rw[X8.2 h]at hy; cases hy
     rw[hy,Gy]at hinv
     rw[hinv]
     by_cases hn:y < 0
     ·have e2:decide (y < 0)=true:=decide_eq_true hn
      simp -implicitDefEqProofs only[go_sem,d1,hil,hgi,e2,if_false,Gx]
      omega
     ·have e2:decide (y < 0)=false:=decide_eq_false hn
      have e3:decide ((t.nodes.length:Int)≤y)=true:=decide_eq_true (by omega)
      simp -implicitDefEqProofs only[go_sem,d1,hil,hgi,e2,e3,tRw,Jc,if_false,Gx]
      omega
   ·have d1:((i:Int) < (ns.length:Int))=False:=Jj
    rw[Gn (by omega),Gw]at hinv
    rw[hinv,if_pos rfl]
    simp -implicitDefEqProofs only[go_sem,d1]
 ·have e1:((Yr t o).2 != 0)=true:=by simpa using he
  rw[if_pos he]
  simp -implicitDefEqProofs only[go_sem,e1]
theorem nNeedsF (hE:(Yr t o).2=0) (s:Nat) (hs:s < t.nodes.length) (hk:(nd t s).k=41):Fn Ga 14 [t.cv,.int .i64 (s:Int)] (.tup [.rslc 1 (iz (KF t o (ofL t o) s)) none,.int .i64 0]):=by
 have hmany:=g.many
 have hF:=nFind g ht [(s:Int)] (by simp)
 have hin:[(s:Int)].all (inT t)=true:=by simp only[Gv,Gw,Gz]; exact X8.2 ⟨by omega,by omega⟩
 rw[if_neg (by simp[hE]),if_pos hin,rE_ok hE]at hF
 refine Ja c14_ok rfl rfl fun N=>?_
 simp -implicitDefEqProofs only[c14,go_sem,Tr.cv,Tr.row]
 refine Jg (id:=1) (z:=1) (els:=iz [(s:Int)]) rfl rfl ?_
 simp only[go_sem,J2,Ko,frz,KG,JY,Qw,Gc,Gd,Gh,Gg,Gf,GH,GQ]
 refine JV hF ?_
 simp -implicitDefEqProofs only[go_sem,rRw]
 refine JV (JcV t hs) ?_
 simp -implicitDefEqProofs only[go_sem,kbN,hk]
 refine JV ((nNeeds g ht (ofL_ok (o:=o)) hs hk).fn rfl (Jd _)) ?_
 simp -implicitDefEqProofs only[go_sem]
end
end
section
section
variable {E:Env}{H:List CObj}
theorem vr_pc {P:Program}{n0:Nat}{N:Fr}{Q:Exit→List CV→List CObj→Prop}{T:List CV}{k:List KItem}{d:Option Nat}{g:Option (Nat×Bool)}{f:Nat}{xa:List IArg}{l:List IOper}{v:CV}(hg:GOk T g) (hcall:Pure P E f (xa.map (JQ T)) H v) (h:Kr P E n0 N Q (.ops l::k) (put T d v) H):Ok P E n0 N Q (.ops (⟨d,.call f xa,g⟩::l)::k) T H:=
 Xc hg hcall fun v' H' ⟨h1,h2⟩=>by rw[h1,h2]; exact h
theorem order1 {b r:Nat}{left:List Int}{x:Int}(hb:H[b]? = some (.arr 1 [[QC r (iz left)]])) (hr:H[r]? = some (Xu 1 (iz left))) (hl:left.length≤100000):Pure Ga E 55 [.int .i64 x,.ptr b 0 0] H (.bool (left.contains x)):=by
 refine KI c55_ok fun N=>?_
 simp -implicitDefEqProofs only[c55,go_sem,hb]
 refine vr_pc (.inl rfl) (containsO (id:=r) hl hr) ?_
 simp -implicitDefEqProofs only[go_sem]
theorem indexFP {f:Nat}{l1 l2:List CV}{F:IFunc}(l:List Int) (q:Int→Bool) (hF:Je Ga f=some F)
  (hq:∀ p∈l,Pure Ga E f (l1++[.int .i64 p]++l2) H (.bool (q p))) (hlen:l.length≤1000000):Pure Ga E 59 [.rslc 1 (iz l) none,.fn f l1 l2] H (.int .i64 (QU q l 0)):=by
 have hil:(iz l).length=l.length:=Jf
 refine KI c59_ok fun N=>?_
 simp -implicitDefEqProofs only[c59,go_sem,hil]
 refine Jz (I:=fun i:Nat=>i≤l.length∧QU q l 0=QU q (l.drop i) i) (inv:=fun i=>gp [(0,.rslc 1 (iz l) none),(0,.fn f l1 l2),(5,.int .i64 l.length),(0,.int .i64 i)] 10) (hp:=fun _=>H) (μ:=fun i=>l.length-i) 0 ⟨by omega,rfl⟩ ?_ rfl ?_
 ·simp[forget,gp]
 ·rintro i ⟨hi,hinv⟩
  by_cases hlt:i < l.length
  ·have d1:((i:Int) < (l.length:Int))=True:=Jn
   have hgi:=JR hlt
   have hge:l[i]? = some (l.getD i 0):=by rw[Gj,Gl hlt]; rfl
   have hm:l.getD i 0∈l:=GG hge
   rw[QF hge]at hinv
   simp -implicitDefEqProofs only[go_sem,hil,d1,hgi]
   refine ⟨by omega,?_⟩
   refine Jds (.inl rfl) rfl hF (JaE JC _) (hq _ hm) ?_
   cases hb:q (l.getD i 0) with
   |true=>
    rw[hb,if_pos rfl]at hinv
    simp -implicitDefEqProofs only[go_sem,hinv]
   |false=>
    rw[hb]at hinv
    simp -implicitDefEqProofs only[go_sem]
    refine ⟨Ji,i+1,⟨by omega,by simpa using hinv⟩,by omega,?_⟩
    simp[forget]
  ·have d1:((i:Int) < (l.length:Int))=False:=Jj
   rw[Gn (by omega)]at hinv
   simp -implicitDefEqProofs only[go_sem,hil,d1,hinv,QU]
theorem indexFO {f id:Nat}{l1 l2:List CV}{F:IFunc}(l:List Int) (q:Int→Bool) (hF:Je Ga f=some F) (hH:H[id]? = some (.arr 1 (iz l)))
  (hq:∀ p∈l,Pure Ga E f (l1++[.int .i64 p]++l2) H (.bool (q p))) (hlen:l.length≤1000000):Pure Ga E 59 [.slc id 0 l.length none,.fn f l1 l2] H (.int .i64 (QU q l 0)):=by
 have hil:(iz l).length=l.length:=Jf
 refine KI c59_ok fun N=>?_
 simp -implicitDefEqProofs only[c59,go_sem]
 refine Jz (I:=fun i:Nat=>i≤l.length∧QU q l 0=QU q (l.drop i) i) (inv:=fun i=>gp [(0,.slc id 0 l.length none),(0,.fn f l1 l2),(5,.int .i64 l.length),(0,.int .i64 i)] 10) (hp:=fun _=>H) (μ:=fun i=>l.length-i) 0 ⟨by omega,rfl⟩ ?_ rfl ?_
 ·simp[forget,gp]
 ·rintro i ⟨hi,hinv⟩
  by_cases hlt:i < l.length
  ·have d1:((i:Int) < (l.length:Int))=True:=Jn
   have hgi:=JR hlt
   have hge:l[i]? = some (l.getD i 0):=by rw[Gj,Gl hlt]; rfl
   have hm:l.getD i 0∈l:=GG hge
   rw[QF hge]at hinv
   simp -implicitDefEqProofs only[go_sem,d1,hH,hil,hgi]
   refine ⟨by omega,by omega,?_⟩
   refine Jds (.inl rfl) rfl hF (JaE JC _) (hq _ hm) ?_
   cases hb:q (l.getD i 0) with
   |true=>
    rw[hb,if_pos rfl]at hinv
    simp -implicitDefEqProofs only[go_sem,hinv]
   |false=>
    rw[hb]at hinv
    simp -implicitDefEqProofs only[go_sem]
    refine ⟨Ji,i+1,⟨by omega,by simpa using hinv⟩,by omega,?_⟩
    simp[forget]
  ·have d1:((i:Int) < (l.length:Int))=False:=Jj
   rw[Gn (by omega)]at hinv
   simp -implicitDefEqProofs only[go_sem,d1,hinv,QU]
theorem containsFP {f:Nat}{l1 l2:List CV}{F:IFunc}(l:List Int) (q:Int→Bool) (hF:Je Ga f=some F)
  (hq:∀ p∈l,Pure Ga E f (l1++[.int .i64 p]++l2) H (.bool (q p))) (hlen:l.length≤1000000):Pure Ga E 58 [.rslc 1 (iz l) none,.fn f l1 l2] H (.bool (l.any q)):=by
 refine KI c58_ok fun N=>?_
 simp -implicitDefEqProofs only[c58,go_sem]
 refine vr_pc (.inl rfl) (indexFP l q hF hq hlen) ?_
 simp -implicitDefEqProofs only[go_sem,JaI]
end
theorem frzs_rowP {H:List CObj}{id:Nat}{l:List Int}{ys:List CV}(hy:Jm ys=true) (h:H[id]? = some (Xu 1 (iz l))):Frzs (.tup (.rslc 1 (iz l) none::ys)) (.tup (QC id (iz l)::ys)) H:=by
 cases l with
 |nil=>exact .done (wk_tup ⟨wk.nils,wks.refl _⟩)
 |cons a l=>
  refine .step id 1 (iz (a::l)) h (Jd _) (.done ?_)
  have e:frz id 1 (iz (a::l)) (QC id (iz (a::l)))=.rslc 1 (iz (a::l)) none:=by
   rw[JY,Xl]
   simp[frz]
  simp only[frz,J2,e,KQ ys hy]
  exact wk.refl _
theorem deleteRowT {E:Env}{H:List CObj}{id k:Nat}{l:List Int}(hk:k < l.length) (hH:H[id]? = some (.arr 1 (iz l))):CallsC Ga E 60 [.slc id 0 l.length none,.int .i64 (k:Int),.int .i64 ((k:Int)+1)] H fun v' H'=>v'=.slc id 0 (l.length-1) none∧H'=H.set id (.arr 1 (iz (l.eraseIdx k))):=by
 have h:=deleteRow (E:=E) (cap:=none) hk hH
 rw[show (((k+1:Nat)):Int)=(k:Int)+1 from rfl]at h
 refine h.trunc (id:=0) (z:=0) (j:=0) (els:=[]) (v:=.un) fun v H' ⟨h1,h2⟩=>.inr ⟨id,1,iz (l.take k++l.drop (k+1)++[0]),l.length-1,by rw[h2,List.getElem?_set_self (List.getElem?_eq_some_iff.1 hH).1],h1,?_⟩
 rw[h2,List.set_set,List.eraseIdx_eq_take_drop_succ]
 congr 2
 unfold iz
 rw[← List.map_take,List.take_left' (by simp; omega)]
def JeM (N:Int→List Int) (left:List Int) (s:Int):Bool:=!(N s).any fun y=>left.contains y
def ordG (N:Int→List Int):Nat→List Int→List Int
 |0,_=>[]
 |f+1,left=>if left=[] then [] else left.getD (QU (JeM N left) left 0).toNat 0::ordG N f (left.eraseIdx (QU (JeM N left) left 0).toNat)
def ordL (t:Tr) (o of:List Int) (b:Nat):List Int:=ordG (fun x=>KF t o of x.toNat) (Qh t b 41).length (Qh t b 41)
section
variable {t:Tr}{o:List Int}(g:GoodT t o) (ht:t.Fit)
include g ht
theorem order2 {E:Env}{H:List CObj}{of:List Int}(ho:OfOk t of) {b c r:Nat}{left:List Int}{s:Nat}(hs:s < t.nodes.length) (hk:(nd t s).k=41) (hc:H[c]? = some (.arr 1 [[.fn 55 [] [.ptr b 0 0]]])) (hb:H[b]? = some (.arr 1 [[QC r (iz left)]])) (hr:H[r]? = some (Xu 1 (iz left))) (hl:left.length≤100000):Pure Ga E 57 [.int .i64 (s:Int),.rptr (rRw t of),.ptr c 0 0] H (.bool (JeM (fun x=>KF t o of x.toNat) left (s:Int))):=by
 have hmany:=g.many
 have hN:=(nNeeds g ht ho hs hk).fn rfl (Jd _)
 have hnl:(KF t o of s).length≤1000000:=by
  have h1:(KF t o of s).length≤(Ka t).length:=Gr _ _
  have h2:(Ka t).length=t.nodes.length:=by simp[Ka]
  omega
 have hF:JeM (fun x=>KF t o of x.toNat) left (s:Int) = !(KF t o of s).any fun y=>left.contains y:=by unfold JeM; simp only[Gi]
 rw[hF]
 generalize KF t o of s=M at hN hnl
 refine KI c57_ok fun N=>?_
 simp -implicitDefEqProofs only[c57,go_sem]
 refine XA [false,false,false,true,true,false,false] JA (by decide +kernel) ?_
 simp -implicitDefEqProofs only[go_sem,rRw]
 refine vh_f hN ?_
 simp -implicitDefEqProofs only[go_sem,hc]
 refine ⟨_,_,Jd3 (.inl rfl) (containsFP M (fun y=>left.contains y) c55_ok (fun p _=>order1 hb hr hl) hnl),?_⟩
 simp -implicitDefEqProofs only[go_sem]
omit g ht in
theorem res_st (hE:(Yr t o).2=0) {i:Nat}(hi:i < t.nodes.length):stN t o i=false:=by
 unfold Yr at hE
 cases hs:X5 t o 6 10 (Gb t.nodes.length) with
 |some r=>
  have h1:=rE_ok (t:=t) (o:=o) (by unfold Yr; exact hE)
  rw[hs]at hE
  unfold rE rRw at h1
  rw[hs]at h1
  simp only[List.cons.injEq,CV.rslc.injEq,true_and,and_true]at h1
  have hr:∀ l:List Nat,X5 t o 6 10 l=some r→r.2=6∨r.2=10:=by
   intro l
   induction l with
   |nil=>intro h; cases h
   |cons x l ih=>
    intro h
    rw[X5]at h
    split at h
    ·cases h; exact .inl rfl
    ·split at h
     ·cases h; exact .inr rfl
     ·exact ih h
  have:=hr _ hs
  simp only at hE
  omega
 |none=>
  rw[hs]at hE
  simp only at hE
  cases hf:(Gb t.nodes.length).find? (stN t o) with
  |some k=>rw[hf]at hE; simp only at hE; omega
  |none=>
   have:=GL.1 hf i (List.mem_range.2 hi)
   simpa using this
omit ht in
theorem order_free (hE:(Yr t o).2=0) {left:List Int}(hl:∀ x∈left,0≤x∧x < t.nodes.length∧(nd t x.toNat).k=41) (hne:left≠[]):∃ k,QU (JeM (fun x=>KF t o (ofL t o) x.toNat) left) left 0=((k:Nat):Int)∧k < left.length:=by
 generalize hN:(fun x:Int=>KF t o (ofL t o) x.toNat)=Nf
 have hset:∀ x,∀ y∈Nf x,0≤y∧y < t.nodes.length∧(nd t y.toNat).k=41:=fun x y hy=>by rw[← hN]at hy; exact JbO g hy
 have hmem:∀ x,x∈(Ka t).filter (fun x=>(nd t x.toNat).k == 41)↔0≤x∧x < t.nodes.length∧(nd t x.toNat).k=41:=fun x=>by
  rw[Gu,Qp,beq_iff_eq]; exact ⟨fun ⟨⟨a,b⟩,c⟩=>⟨a,b,c⟩,fun ⟨a,b,c⟩=>⟨⟨a,b⟩,c⟩⟩
 have hNl:∀ x∈(Ka t).filter (fun x=>(nd t x.toNat).k == 41),(∀ y∈Nf x,y∈(Ka t).filter (fun x=>(nd t x.toNat).k == 41))∧(Nf x).length≤((Ka t).filter (fun x=>(nd t x.toNat).k == 41)).length:=by
  intro x _
  refine ⟨fun y hy=>(hmem y).2 (hset x y hy),?_⟩
  have hsub:Nf x=((Ka t).filter fun x=>(nd t x.toNat).k == 41).filter fun y=>(Nf x).contains y:=by
   rw[List.filter_filter]
   have:Nf x=(Ka t).filter fun y=>(Nf x).contains y:=by
    refine JfJ (by rw[← hN]; exact JaP.filter _) (JaP.filter _) fun y=>?_
    rw[Gu,Qp,Gs]
    exact ⟨fun h=>⟨⟨(hset x y h).1,(hset x y h).2.1⟩,h⟩,fun h=>h.2⟩
   conv=>lhs; rw[this]
   refine List.filter_congr fun y _=>?_
   cases hc:(Nf x).contains y with
   |false=>rw[Gy]
   |true=>
    have:=(hset x y (Gs.1 hc)).2.2
    rw[Gq,this]; rfl
  rw[hsub]
  exact Gr _ _
 have hno:∀ x∈(Ka t).filter (fun x=>(nd t x.toNat).k == 41),x∉bfs Nf ((Ka t).filter (fun x=>(nd t x.toNat).k == 41)) (Nf x) []:=by
  intro x hx hin
  have hb:=(hmem x).1 hx
  obtain ⟨xn,rfl⟩:∃ x':Nat,x=x':=⟨x.toNat,by omega⟩
  have hst:=res_st hE (i:=xn) (by omega)
  have hk:=hb.2.2
  rw[Gi]at hk
  unfold stN at hst
  rw[hN,show KF t o (ofL t o) xn=Nf (xn:Int) by rw[← hN]; simp only[Gi],hk]at hst
  have hf:bfs Nf (Ka t) (Nf (xn:Int)) []=bfs Nf ((Ka t).filter (fun x=>(nd t x.toNat).k == 41)) (Nf (xn:Int)) []:=by
   refine Jb4 hNl _ _ _ _ (hNl _ hx).1 ?_ (Nat.lt_succ_self _)
   have a1:∀ l:List Int,Xn l []=l.length:=by
    intro l
    induction l with
    |nil=>rfl
    |cons y l ih=>rw[Xn,ih]; simp; omega
   have a2:=Gr (fun x=>(nd t x.toNat).k == 41) (Ka t)
   unfold muB
   rw[a1,a1]
   have:=Nat.mul_le_mul a2 (Nat.add_le_add_right a2 1)
   omega
  rw[hf]at hst
  rw[Gs.2 hin]at hst
  simp at hst
 obtain ⟨x,hx,hfr⟩:=free_one hNl hno (left:=left) (fun x hx=>(hmem x).2 (hl x hx)) hne
 have hfx:JeM Nf left x=true:=by
  unfold JeM
  rw[Bool.not_eq_true',List.any_eq_false]
  intro y hy
  simpa using hfr y hy
 rcases Jec (q:=JeM Nf left) left 0 with ⟨h1,h2⟩ | ⟨j,h1,h2,_⟩
 ·have:=GL.1 h2 x hx
  exact absurd hfx this
 ·exact ⟨j,by rw[h2,Nat.zero_add],h1⟩
theorem nOrderF (hE:(Yr t o).2=0) {b:Nat}(hb:b < t.nodes.length) (hk:(nd t b).k=40∨(nd t b).k=28):Fn Ga 15 [t.cv,.int .i64 (b:Int)] (.tup [.rslc 1 (iz (ordL t o (ofL t o) b)) none,.int .i64 0]):=by
 have hmany:=g.many
 have hF:=nFind g ht [(b:Int)] (by simp)
 have hin:[(b:Int)].all (inT t)=true:=by simp only[Gv,Gw,Gz]; exact X8.2 ⟨by omega,by omega⟩
 rw[if_neg (by simp[hE]),if_pos hin,rE_ok hE]at hF
 have hKl:=XY ht (x:=(b:Int)) (k:=41)
 rw[Gi]at hKl
 have hKm:∀ x∈Qh t b 41,0≤x∧x < t.nodes.length∧(nd t x.toNat).k=41:=fun x hx=>by
  have h1:=JdZ g hb hx
  have h2:=(Kv.1 hx).2
  exact ⟨h1.1,h1.2,h2⟩
 unfold ordL
 have hRow:=Jfm g ht hb 41
 refine QP ?_ rfl rfl
 refine KI c15_ok fun N=>?_
 simp -implicitDefEqProofs only[c15,go_sem,Tr.cv,Tr.row]
 refine Jg (id:=1) (z:=1) (els:=iz [(b:Int)]) rfl rfl ?_
 simp only[go_sem,J2,Ko,frz,KG,JY,Qw,Gc,Gd,Gh,Gg,Gf,GH,GQ]
 refine JV hF ?_
 simp -implicitDefEqProofs only[go_sem,rRw]
 refine JV (JcV t hb) ?_
 generalize hN:(fun x:Int=>KF t o (ofL t o) x.toNat)=Nf
 generalize Qh t b 41=K at hKl hKm hRow
 by_cases hK0:K=[]
 ·subst hK0
  have hRf:=hRow.fn rfl (Jd _)
  rcases hk with hk | hk <;> simp -implicitDefEqProofs only[go_sem,kbN,hk]
  case' inr=>
   refine JN (gok rfl) (JcV t hb) ?_
   simp -implicitDefEqProofs only[go_sem,kbN,hk]
  all_goals
   refine JV hRf ?_
   simp -implicitDefEqProofs only[go_sem,Qw]
   refine Jz (σ:=Unit) (I:=fun _=>True) (inv:=fun _=>gp [(4,.nils),(1,.ptr 2 0 0),(0,.ptr 3 0 0)] 52) (hp:=fun _=>[.arr 2 [t.row],.dead,.arr 2 [rRw t (ofL t o)],.arr 1 [[.rslc 1 [] none]]]) (μ:=fun _=>0) () trivial ?_ rfl ?_
   ·simp[forget,gp]
   ·intro _ _
    have d1:((0:Int) < 0)=False:=Jj
    have d2:((0:Int) > 0)=False:=Jj
    simp -implicitDefEqProofs only[go_sem,d1,d2]
    exact .done (wk_tup ⟨wk.nils,wks.refl _⟩)
 have hRow':∀ E H,CallsC Ga E 54 [.rptr (tRw t),.int .i64 (b:Int),.int .u8 (41:Int)] H fun v H'=>v=.slc H.length 0 K.length none∧H'=H++[.arr 1 (iz K)]:=fun E H=>by
  have h:=hRow E H
  rw[Qz (by simpa [iz]using hK0),Jf,Qd (by simpa [iz]using hK0)]at h
  exact h
 rcases hk with hk | hk <;> simp -implicitDefEqProofs only[go_sem,kbN,hk]
 case' inr=>
  refine JN (gok rfl) (JcV t hb) ?_
  simp -implicitDefEqProofs only[go_sem,kbN,hk]
 all_goals
  refine Xc (.inl rfl) (hRow' _ _) fun v' H' ⟨h1,h2⟩=>?_
  subst h1 h2
  simp -implicitDefEqProofs only[go_sem]
  refine Jg (id:=2) (z:=2) (els:=[rRw t (ofL t o)]) rfl rfl ?_
  simp only[go_sem,J2,Ko,frz,KG,Gc,Gd,Gf,KD (Jd K)]
  refine XU ?_
  simp only[go_sem,GM,GN]
  refine JG (σ:=List Int×List Int×CV×CObj) (I:=fun s=>(∀ x∈s.1,0≤x∧x < t.nodes.length∧(nd t x.toNat).k=41)∧s.1.length+s.2.1.length≤30∧ordG Nf K.length K=s.2.1++ordG Nf s.1.length s.1∧((s.1≠[]∧s.2.2.1=.slc 3 0 s.1.length none∧s.2.2.2=.arr 1 (iz s.1))∨(s.1=[]∧((s.2.2.1=.nils∧s.2.2.2=.dead)∨(s.2.2.1=.slc 3 0 0 none∧s.2.2.2=.arr 1 []))))) (inv:=fun s=>gp [(4,QC 5 (iz s.2.1)),(1,.rptr (rRw t (ofL t o))),(0,.ptr 4 0 0)] 52) (hp:=fun s=>[.arr 2 [t.row],.dead,.dead,s.2.2.2,.arr 1 [[s.2.2.1]],Xu 1 (iz s.2.1)]) (μ:=fun s=>s.1.length) (K,[],.slc 3 0 K.length none,.arr 1 (iz K)) [0,1,2,3,4,5] ⟨hKm,by simpa using hKl,by simp,?_⟩ rfl ?_ ?_ ?_
  ·exact .inl ⟨hK0,rfl,rfl⟩
  ·simp[forget,JF,ren,Jo,gp,rRw,Qn,Qw]
  ·simp only[Kw,Gc,Gd,go_sem,Jp,Jr,Jb (Jd K),Qw,QX]
   simp[JF,ren,Jo,Tr.row]
  ·rintro ⟨left,out,v,ob⟩ ⟨hm,hlen,hord,hv⟩
   dsimp only at hm hlen hord hv
   rcases hv with ⟨hne,rfl,rfl⟩ | ⟨rfl,hv⟩
   ·have hlp:=List.length_pos_iff.2 hne
    have d1:((0:Int) < (left.length:Int))=True:=Jn
    have d2:((left.length:Int) > 0)=True:=Jn
    obtain ⟨k,hk1,hk2⟩:=order_free g hE hm hne
    rw[hN]at hk1
    have hgk:=JR hk2
    have hil:(iz left).length=left.length:=Jf
    have hrv:QC 3 (iz left)=.slc 3 0 left.length none:=by rw[Qz (by simpa [iz]using hne),Jf]
    have hro:Xu 1 (iz left)=.arr 1 (iz left):=Qd (by simpa [iz]using hne)
    have hog:ordG Nf left.length left=left.getD k 0::ordG Nf (left.eraseIdx k).length (left.eraseIdx k):=by
     rw[GD hk2]
     obtain ⟨m,hm⟩:∃ m,left.length=m+1:=⟨left.length-1,by omega⟩
     rw[hm,ordG,if_neg hne,hk1,Gi]; rfl
    have hel:=GD hk2
    simp -implicitDefEqProofs only[go_sem,d1,d2]
    refine vr_pc (.inl rfl) (indexFO (id:=3) left (JeM Nf left) c57_ok rfl (fun p hp=>?_) (by omega)) ?_
    ·have hb:=hm p hp
     obtain ⟨p,rfl⟩:∃ p':Nat,p=p':=⟨p.toNat,by omega⟩
     have hk4:=hb.2.2
     rw[Gi]at hk4
     rw[← hN]
     exact order2 g ht (ofL_ok (o:=o)) (b:=4) (c:=6) (r:=3) (by omega) hk4 rfl (by rw[hrv]; rfl) (by rw[hro]; rfl) (by omega)
    ·simp -implicitDefEqProofs only[go_sem,hk1,hil,hgk,Jf,JJ]
     refine ⟨by omega,by omega,⟨by omega,by omega⟩,Ji,?_⟩
     refine Xc (.inl rfl) (deleteRowT (id:=3) (k:=k) hk2 rfl) fun v' H' ⟨h1,h2⟩=>?_
     subst h1 h2
     simp -implicitDefEqProofs only[go_sem]
     refine ⟨(left.eraseIdx k,out++[left.getD k 0],.slc 3 0 (left.length-1) none,.arr 1 (iz (left.eraseIdx k))),[0,1,2,3,4,8],⟨fun x hx=>hm x (List.mem_of_mem_eraseIdx hx),by simp only[GK,Gh,Gg]; omega,by rw[hord,hog]; simp,?_⟩,by simp only; omega,rfl,?_,?_⟩
     ·by_cases h0:left.eraseIdx k=[]
      ·refine .inr ⟨h0,.inr ⟨?_,by rw[h0]; rfl⟩⟩
       rw[h0]at hel
       rw[← hel]; rfl
      ·exact .inl ⟨h0,by rw[hel],rfl⟩
     ·rw[J8,Km]
      simp only[Kw,Gc,Gd,go_sem,Jp,Jr,Jb (Jd _)]
      simp[JF,ren,Jo,Tr.row,Jb (Jd out)]
     ·rw[J8,Kl]
      simp[forget,JF,ren,Jo,Jf,rRw]
   ·have d1:((0:Int) < 0)=False:=Jj
    have d2:((0:Int) > 0)=False:=Jj
    rw[show ordG Nf ([]:List Int).length []=[] from rfl,List.append_nil]at hord
    rw[hord]
    rcases hv with ⟨rfl,rfl⟩ | ⟨rfl,rfl⟩
    ·simp -implicitDefEqProofs only[go_sem,d1,d2]
     exact frzs_rowP rfl rfl
    ·simp -implicitDefEqProofs only[go_sem,d1,d2,Int.ofNat_zero]
     exact frzs_rowP rfl rfl
end
end
end Go.Cm
end
end
