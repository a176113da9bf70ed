/-
  A part of the proof. Conditions: none.
-/
import Derived.Test.YthbifneaknlfgaaGreatDoorJPkKE
import Derived.Test.YthbifneaknlfgaaGreatDoorJP12
import Derived.Test.YthbifneaknlfgaaGreatDoorJPkCJ
import Derived.Test.YthbifneaknlfgaaGreatDoorJP31
set_option linter.unusedSimpArgs false
set_option linter.unusedVariables false
open List renaming length_cons→Ga,length_nil→Gb,map_cons→Gf,getD_eq_getElem?_getD→Gj,map_nil→Gg,mem_map→Gi,length_take→Gl,length_map→Gm,getElem?_eq_getElem→Gp,take_append_drop→Gq,mem_of_mem_take→Gr,contains_eq_mem→Gs,map_id→Gn,map_congr_left→Gt,mem_singleton→Gu,length_append→Gv,take_length→Gw,getElem_mem→Gx,mem_append→Gy,drop_zero→Gz,drop_take→GA,map_map→GD
open Int renaming toNat_natCast→Gh
open Bool renaming not_false→Gc,not_true→Gd
noncomputable section
section
set_option maxRecDepth 100000
set_option maxHeartbeats 40000000
open Go.Proofs
namespace Go.Cm
theorem joinE (a b:Tr) (ha:a.Fit) (hb:b.Fit) (e:Int) (he:(chk a≠0∧e=chk a)∨(chk a=0∧chk b≠0∧e=chk b)):Fn Tryz.prog 26 [a.cv,b.cv] (.tup [noT.cv,.int .i64 e]):=by
 refine Jee (QW c26_ok fun N=>?_) rfl rfl
 simp -implicitDefEqProofs only[c26,go_sem,Tr.cv,Tr.row]
 refine Jk (id:=0) (z:=2) (els:=[a.row]) rfl rfl ?_
 simp only[go_sem,Kt,KR,frz,Qo,Tr.row]
 refine Jk (id:=1) (z:=2) (els:=[b.row]) rfl rfl ?_
 simp only[go_sem,Kt,KR,frz,Qo,Tr.row]
 refine Jk (id:=3) (z:=2) (els:=[a.row,b.row]) rfl rfl ?_
 simp only[go_sem,Kt,KR,frz,Qo,Tr.row,Ga,Gb,Nat.zero_add,Nat.le_refl,if_true,Gz,List.take_succ_cons,List.take_zero]
 refine KG (I:=fun i:Nat=>i≤1∧(i=1→chk a=0)) (inv:=fun i=>gp [(2,.rptr a.row),(0,.rptr b.row),(0,.ptr 2 0 0),(10,.rslc 2 [a.row,b.row] none),(0,.int .i64 2),(0,.int .i64 (i:Int))] 45) (hp:=fun _=>[.dead,.dead,.arr 2 [[.nils,.nils]],.dead]) (μ:=fun i=>2-i) 0 [0,1,2,3] ⟨by omega,by omega⟩ rfl ?_ rfl ?_
 ·simp[forget,gp,J8,ren,JH,Tr.row]
 rintro i ⟨hi,h1⟩
 have d1:((i:Int) < 2)=True:=eq_true (by omega)
 obtain ⟨t,ht,hgi,hc,hn⟩:∃ t:Tr,t.Fit∧([a.row,b.row]:List (List CV)).getD i []=t.row∧(chk t=0→i=0∧chk a=0)∧(chk t≠0→e=chk t):=by
  rcases (show i=0∨i=1 by omega) with rfl | rfl
  ·refine ⟨a,ha,rfl,fun h=>⟨rfl,h⟩,fun h=>?_⟩
   rcases he with ⟨_,h2⟩ | ⟨h2,_⟩
   ·exact h2
   ·exact absurd h2 h
  ·rcases he with ⟨h2,_⟩ | ⟨_,h2,h3⟩
   ·exact absurd (h1 rfl) h2
   ·exact ⟨b,hb,rfl,fun h=>absurd h h2,fun _=>h3⟩
 simp only[Tr.row]at hgi
 simp -implicitDefEqProofs only[go_sem,Tr.row,d1,hgi,splice,Ga,Gb]
 refine ⟨by omega,?_⟩
 refine JZ (Qg t ht) ?_
 by_cases h:chk t=0
 ·have e1:(chk t != 0)=false:=by simpa using h
  simp -implicitDefEqProofs only[go_sem,e1]
  have:=hc h
  refine ⟨Jm (by omega) (by omega),i+1,[0,1,2,3],⟨by omega,fun _=>this.2⟩,by omega,rfl,rfl,?_⟩
  simp[forget,J8,ren,JH,Tr.row]
 ·have e1:(chk t != 0)=true:=by simpa using h
  simp -implicitDefEqProofs only[go_sem,e1,splice]
  rw[hn h]
  exact .done (JdO ⟨XE ⟨wk.nils,wk.nils,trivial⟩,wk.refl _,trivial⟩)
theorem mvN_fit {x:Nd}(h:x.Fit) {d:Int}(hk:∀ k∈x.kids,InR .i64 (k+d)):(mvN d x).Fit:=
 ⟨h.k,h.text,h.n,by simpa [mvN]using h.kidn,fun i hi=>by
  simp only[mvN,Gi]at hi
  obtain ⟨k,hk2,rfl⟩:=hi
  exact hk k hk2,h.pl⟩
theorem cutT_fit {t:Tr}{o:List Int}(ht:t.Fit) (g:GoodT t o) {i:Nat}(hi:i < t.items.length):(Jen o t i).Fit:=by
 have hmany:=g.many
 obtain ⟨L,F,hL,hFs,hFL,hLn,hol,hoL⟩:=g.item hi
 have hT:Jen o t i=⟨((t.nodes.drop F).take (L+1-F)).map (mvN (-(F:Int))),[(L:Int)-F]⟩:=by
  unfold Jen; simp only[hL,hFs,Gh]
 rw[hT]
 refine ⟨by simp only[Gm,Gl,List.length_drop]; omega,by simp,fun y hy=>?_,fun y hy=>?_⟩
 ·simp only[Gi]at hy
  obtain ⟨x,hx,rfl⟩:=hy
  have hx2:=List.mem_of_mem_drop (Gr hx)
  refine mvN_fit (ht.nodes x hx2) fun k hk=>?_
  have:=g.kidr hx2 hk
  exact Jm (by omega) (by omega)
 ·simp only[Gu]at hy
  subst hy
  exact Jm (by omega) (by omega)
theorem Jdf {a b:Tr}{oa ob:List Int}(ha:a.Fit) (hb:b.Fit) (ga:GoodT a oa) (gb:GoodT b ob):(Qu a b).Fit:=by
 have h1:=ga.many
 have h2:=gb.many
 have h3:=ga.items
 have h4:=gb.items
 refine ⟨by simp only[Qu,Gv,Gm]; omega,by simp only[Qu,Gv,Gm]; omega,fun y hy=>?_,fun y hy=>?_⟩
 ·simp only[Qu,Gy,Gi]at hy
  rcases hy with hy | ⟨x,hx,rfl⟩
  ·exact ha.nodes y hy
  ·refine mvN_fit (hb.nodes x hx) fun k hk=>?_
   have:=gb.kidr hx hk
   exact Jm (by omega) (by omega)
 ·simp only[Qu,Gy,Gi]at hy
  rcases hy with hy | ⟨x,hx,rfl⟩
  ·exact ha.iz y hy
  ·have:=gb.itr hx
   exact Jm (by omega) (by omega)
theorem alikeN:Fn Tryz.prog 13 [noT.cv,.agg [.nils,.nils]] (.bool true):=
 (XG noT ⟨by simp[noT],by simp[noT],fun x hx=>by simp[noT]at hx,fun x hx=>by simp[noT]at hx⟩).args ⟨wk.refl _,XE ⟨wk.nils,wk.nils,trivial⟩,trivial⟩
theorem cutsGood (a b:Tr) (ha:a.Fit) (hb:b.Fit) (i:Int) (hi:InR .i64 i) (hva:Jav a=false) (hvb:Jav b=false):Fn Tryz.prog 5 [a.cv,b.cv,.int .i64 i] (.bool true):=by
 have hVa:=JbR a
 have hVb:=JbR b
 rw[hva]at hVa
 rw[hvb]at hVb
 have mCa:=refCopy a ha
 have mCb:=refCopy b hb
 have mAa:=XG a ha
 have mAb:=XG b hb
 have mAn:=alikeN
 have mK:=fknown
 have hRa:=JeO a ha
 have hRb:=JeO b hb
 refine J3 c5_ok rfl rfl (by simp only[Ga,Gb]; decide) fun N=>?_
 simp -implicitDefEqProofs only[c5,go_sem,Tr.cv,Tr.row]
 refine JZ hVa ?_
 simp -implicitDefEqProofs only[go_sem,Tr.row]
 refine JO (gok rfl) hVb ?_
 simp -implicitDefEqProofs only[go_sem,Tr.row]
 refine Jk (id:=0) (z:=2) (els:=[a.row]) rfl rfl ?_
 simp only[go_sem,JcB,Gf,Gg,KR,frz,Qo,Kt,Tr.row]
 refine Jk (id:=1) (z:=2) (els:=[b.row]) rfl rfl ?_
 simp only[go_sem,JcB,Gf,Gg,KR,frz,Qo,Kt,Tr.row]
 refine JeD 4 5 [false,false,false,false,true,true,true,true] [false,false,false,false,true,true,true,true] (mkT 149 [(2,.int .i64 i),(3,.rptr a.row),(4,.rptr b.row),(7,.ptr 2 0 0),(8,.ptr 3 0 0)]) [.dead,.dead,.arr 2 [a.row],.arr 2 [b.row]] JF (by decide +kernel) ?_ ?_ ?_
 ·simp -implicitDefEqProofs only[go_sem,Tr.row]
  refine ⟨_,_,Jam (.inl rfl) mCa,?_⟩
  simp -implicitDefEqProofs only[go_sem,Tr.cv,Tr.row]
  refine ⟨_,_,Jam (.inl rfl) mCb,?_⟩
  simp -implicitDefEqProofs only[go_sem,Tr.cv,Tr.row,splice,Ga,Gb]
  refine Kr (KY ?_)
  simp[XJ,Qr,Tr.row]
 ·simp -implicitDefEqProofs only[swl,swi,Ki,List.range,List.range.loop,Ga,Gb,Gf,Gg,List.getD_cons_zero,List.getD_cons_succ,go_sem,Tr.row]
  refine ⟨_,_,Jam (.inl rfl) mCa,?_⟩
  simp -implicitDefEqProofs only[go_sem,Tr.cv,Tr.row]
  refine ⟨_,_,Jam (.inl rfl) mCb,?_⟩
  simp -implicitDefEqProofs only[go_sem,Tr.cv,Tr.row,splice,Ga,Gb]
  refine JI [0,1,3,2] rfl ?_ ?_
  ·simp only[Xk,Gf,Gg,ren,JH]
   refine KY ?_
   simp[XJ,Qr,Tr.row,ren,JH]
  ·simp only[QH,Gf,Gg,go_sem,JB,JN]
   rfl
 ·have e00:((0:Int) != 0)=false:=rfl
  have e0b:((0:Int) == 0)=true:=rfl
  have e77:((7:Int) != 7)=false:=rfl
  have e70:((7:Int) == 0)=false:=rfl
  have e55:((5:Int) == 5)=true:=rfl
  have hail:(iz a.items).length=a.items.length:=Jn
  clear mCa mCb hVa hVb
  by_cases h:chk a=0
  rotate_left
  ·have h1:=parseCutE a ha i h
   have h2:=joinE a b ha hb _ (.inl ⟨h,rfl⟩)
   have h3:=Q6 a b ha hb
   rw[if_pos h]at h3
   have e:(chk a == 0)=false:=by simpa using h
   have e2:(chk a != 0)=true:=by simpa using h
   have e3:(chk a != chk a)=false:=by simp
   generalize chk a=x at *
   repeat first | refine JZ (by assumption) ?_ | refine JO (gok rfl) (by assumption) ?_ | simp -implicitDefEqProofs only[go_sem,Tr.cv,Tr.row,splice,Ga,Gb,Gd,Gc,beq_self_eq_true,e00,e0b,e,e2,e3]
  ·obtain ⟨oa,ga⟩:=(Kq a).1 h
   rw[h]at hRa
   rcases (show i < 0∨(0≤i∧i≥(a.items.length:Int))∨(0≤i∧i < a.items.length) by omega) with ci | ci | ci
   ·have h1:=parseCutN a ha i h (by omega)
    have d1:(i < 0)=True:=eq_true ci
    by_cases hb0:chk b=0
    rotate_left
    ·have h2:=joinE a b ha hb _ (.inr ⟨h,hb0,rfl⟩)
     have h3:=Q6 a b ha hb
     rw[if_neg (by simp[h]),if_pos hb0]at h3
     have e:(chk b == 0)=false:=by simpa using hb0
     have e2:(chk b != 0)=true:=by simpa using hb0
     have e3:(chk b != chk b)=false:=by simp
     generalize chk b=x at *
     repeat first | refine JZ (by assumption) ?_ | refine JO (gok rfl) (by assumption) ?_ | simp -implicitDefEqProofs only[go_sem,Tr.cv,Tr.row,splice,Ga,Gb,Gd,Gc,beq_self_eq_true,e00,e0b,d1,e77,e70,hail,e,e2,e3]
    ·obtain ⟨ob,gb⟩:=(Kq b).1 hb0
     rw[hb0]at hRb
     have h2:=joinJ Jfn a b ha hb ga gb _ rfl _ rfl
     have h3:=Q6 a b ha hb
     rw[if_neg (by simp[h]),if_neg (by simp[hb0])]at h3
     have h5:=JeN a b ha hb
     have h6:=refGlue a b ha hb ga gb
     have h7:=Jbg (Qu a b)
     have h8:=XG (Qu a b) (Jdf ha hb ga gb)
     have e4:(Xi a b != Xi a b)=false:=by simp
     generalize Xi a b=B at *
     by_cases hG:700 < (Qu a b).nodes.length∨20 < (Qu a b).items.length
     ·rw[if_pos hG]at h2
      rw[decide_eq_false (not_not_intro hG)]at h7
      generalize Qu a b=J at *
      repeat first | refine JZ (by assumption) ?_ | refine JO (gok rfl) (by assumption) ?_ | simp -implicitDefEqProofs only[go_sem,Tr.cv,Tr.row,splice,Ga,Gb,Gd,Gc,beq_self_eq_true,e00,e0b,d1,e77,e70,hail,e4,e55]
     ·rw[if_neg hG]at h2
      rw[decide_eq_true hG]at h7
      generalize Qu a b=J at *
      repeat first | refine JZ (by assumption) ?_ | refine JO (gok rfl) (by assumption) ?_ | simp -implicitDefEqProofs only[go_sem,Tr.cv,Tr.row,splice,Ga,Gb,Gd,Gc,beq_self_eq_true,e00,e0b,d1,e77,e70,hail,e4,e55]
   ·have h1:=parseCutN a ha i h (by omega)
    have d1:(i < 0)=False:=eq_false (by omega)
    have d2:(i≥(a.items.length:Int))=True:=eq_true ci.2
    by_cases hb0:chk b=0
    rotate_left
    ·have h2:=joinE a b ha hb _ (.inr ⟨h,hb0,rfl⟩)
     have h3:=Q6 a b ha hb
     rw[if_neg (by simp[h]),if_pos hb0]at h3
     have e:(chk b == 0)=false:=by simpa using hb0
     have e2:(chk b != 0)=true:=by simpa using hb0
     have e3:(chk b != chk b)=false:=by simp
     generalize chk b=x at *
     repeat first | refine JZ (by assumption) ?_ | refine JO (gok rfl) (by assumption) ?_ | simp -implicitDefEqProofs only[go_sem,Tr.cv,Tr.row,splice,Ga,Gb,Gd,Gc,beq_self_eq_true,e00,e0b,d1,d2,e77,e70,hail,e,e2,e3]
    ·obtain ⟨ob,gb⟩:=(Kq b).1 hb0
     rw[hb0]at hRb
     have h2:=joinJ Jfn a b ha hb ga gb _ rfl _ rfl
     have h3:=Q6 a b ha hb
     rw[if_neg (by simp[h]),if_neg (by simp[hb0])]at h3
     have h5:=JeN a b ha hb
     have h6:=refGlue a b ha hb ga gb
     have h7:=Jbg (Qu a b)
     have h8:=XG (Qu a b) (Jdf ha hb ga gb)
     have e4:(Xi a b != Xi a b)=false:=by simp
     generalize Xi a b=B at *
     by_cases hG:700 < (Qu a b).nodes.length∨20 < (Qu a b).items.length
     ·rw[if_pos hG]at h2
      rw[decide_eq_false (not_not_intro hG)]at h7
      generalize Qu a b=J at *
      repeat first | refine JZ (by assumption) ?_ | refine JO (gok rfl) (by assumption) ?_ | simp -implicitDefEqProofs only[go_sem,Tr.cv,Tr.row,splice,Ga,Gb,Gd,Gc,beq_self_eq_true,e00,e0b,d1,d2,e77,e70,hail,e4,e55]
     ·rw[if_neg hG]at h2
      rw[decide_eq_true hG]at h7
      generalize Qu a b=J at *
      repeat first | refine JZ (by assumption) ?_ | refine JO (gok rfl) (by assumption) ?_ | simp -implicitDefEqProofs only[go_sem,Tr.cv,Tr.row,splice,Ga,Gb,Gd,Gc,beq_self_eq_true,e00,e0b,d1,d2,e77,e70,hail,e4,e55]
   ·obtain ⟨j,rfl⟩:∃ j:Nat,i=(j:Int):=⟨i.toNat,by omega⟩
    have hj:j < a.items.length:=by omega
    have h1:=parseCutS a ha ga j hj
    have h4:=refCut a ha ga j hj
    have m4:=XG (Jen oa a j) (cutT_fit ha ga hj)
    have d1:((j:Int) < 0)=False:=eq_false (by omega)
    have d2:((j:Int)≥(a.items.length:Int))=False:=eq_false (by omega)
    generalize Jen oa a j=C at *
    by_cases hb0:chk b=0
    rotate_left
    ·have h2:=joinE a b ha hb _ (.inr ⟨h,hb0,rfl⟩)
     have h3:=Q6 a b ha hb
     rw[if_neg (by simp[h]),if_pos hb0]at h3
     have e:(chk b == 0)=false:=by simpa using hb0
     have e2:(chk b != 0)=true:=by simpa using hb0
     have e3:(chk b != chk b)=false:=by simp
     generalize chk b=x at *
     repeat first | refine JZ (by assumption) ?_ | refine JO (gok rfl) (by assumption) ?_ | simp -implicitDefEqProofs only[go_sem,Tr.cv,Tr.row,splice,Ga,Gb,Gd,Gc,beq_self_eq_true,e00,e0b,d1,d2,e77,e70,hail,e,e2,e3]
    ·obtain ⟨ob,gb⟩:=(Kq b).1 hb0
     rw[hb0]at hRb
     have h2:=joinJ Jfn a b ha hb ga gb _ rfl _ rfl
     have h3:=Q6 a b ha hb
     rw[if_neg (by simp[h]),if_neg (by simp[hb0])]at h3
     have h5:=JeN a b ha hb
     have h6:=refGlue a b ha hb ga gb
     have h7:=Jbg (Qu a b)
     have h8:=XG (Qu a b) (Jdf ha hb ga gb)
     have e4:(Xi a b != Xi a b)=false:=by simp
     generalize Xi a b=B at *
     by_cases hG:700 < (Qu a b).nodes.length∨20 < (Qu a b).items.length
     ·rw[if_pos hG]at h2
      rw[decide_eq_false (not_not_intro hG)]at h7
      generalize Qu a b=J at *
      repeat first | refine JZ (by assumption) ?_ | refine JO (gok rfl) (by assumption) ?_ | simp -implicitDefEqProofs only[go_sem,Tr.cv,Tr.row,splice,Ga,Gb,Gd,Gc,beq_self_eq_true,e00,e0b,d1,d2,e77,e70,hail,e4,e55]
     ·rw[if_neg hG]at h2
      rw[decide_eq_true hG]at h7
      generalize Qu a b=J at *
      repeat first | refine JZ (by assumption) ?_ | refine JO (gok rfl) (by assumption) ?_ | simp -implicitDefEqProofs only[go_sem,Tr.cv,Tr.row,splice,Ga,Gb,Gd,Gc,beq_self_eq_true,e00,e0b,d1,d2,e77,e70,hail,e4,e55]
theorem cutsAll (a b:Tr) (ha:a.Ty) (hb:b.Ty) (i:Int) (hi:InR .i64 i):Fn Tryz.prog 5 [a.cv,b.cv,.int .i64 i] (.bool true):=
 match hva:Jav a,hvb:Jav b with
 |false,false=>cutsGood a b (ha.fit hva) (hb.fit hvb) i hi hva hvb
 |true,_=>by
  have hV:=JbR a
  rw[hva]at hV
  have mK:=fknown
  refine J3 c5_ok rfl rfl (by simp only[Ga,Gb]; decide) fun N=>?_
  repeat first | refine JZ (by assumption) ?_ | refine JO (gok rfl) (by assumption) ?_ | simp -implicitDefEqProofs only[c5,go_sem,Tr.cv,Tr.row]
 |false,true=>by
  have hV:=JbR a
  rw[hva]at hV
  have hV2:=JbR b
  rw[hvb]at hV2
  have mK:=fknown
  refine J3 c5_ok rfl rfl (by simp only[Ga,Gb]; decide) fun N=>?_
  repeat first | refine JZ (by assumption) ?_ | refine JO (gok rfl) (by assumption) ?_ | simp -implicitDefEqProofs only[c5,go_sem,Tr.cv,Tr.row]
end Go.Cm
end
section
namespace Go.Cm
section
theorem chain_app {o:List Int}{m:Nat}:∀ (x y:List Int) (a e:Int),chain o m a (x++y) e↔∃ c,chain o m a x c∧chain o m c y e
 |[],y,a,e=>by simp[chain]
 |i::x,y,a,e=>by
  simp only[List.cons_append,chain,chain_app x y]
  constructor
  ·rintro ⟨h1,c,h2,h3⟩; exact ⟨c,⟨h1,h2⟩,h3⟩
  ·rintro ⟨c,⟨h1,h2⟩,h3⟩; exact ⟨h1,c,h2,h3⟩
theorem Jep {o:List Int}{n m:Nat}(hm:m≤n) (hn:o.length=n):∀ (l:List Int) (a e:Int),chain o n a l e→(∀ i∈l,i < m)→chain (((o.take m).drop 0).map (· + -((0:Nat):Int))) (m-0) a l e
 |[],a,e,h,_=>h
 |i::l,a,e,h,hl=>by
  simp only[chain]at h ⊢
  have hi:=hl i (by simp)
  have h2:=Je4 (l:=o) (d:=0) (m:=m) (e:=-((0:Nat):Int)) (k:=i) (by omega) hi (by omega)
  have e1:i + -((0:Nat):Int)=i:=by omega
  rw[e1]at h2
  refine ⟨⟨h.1.1,by omega,?_⟩,Jep hm hn l _ e h.2 fun j hj=>hl j (by simp[hj])⟩
  rw[h2]; omega
theorem segN0 {l:List Nd}{m:Nat}:segN l 0 m=l.take m:=by
 unfold segN
 rw[Gz]
 refine (Gt fun x _=>?_).trans (Gn _)
 obtain ⟨k,te,n,ks,p⟩:=x
 simp[mvN]
theorem mvN_back (x:Nd) (d:Int):mvN d (mvN (-d) x)=x:=by
 obtain ⟨k,te,n,ks,p⟩:=x
 simp only[mvN,GD,Nd.mk.injEq,and_true,true_and]
 refine (Gt fun y _=>?_).trans (Gn _)
 simp only[Function.comp_apply,id_eq]
 omega
theorem fixA_at {α:Type}{q:α→Bool}:∀ (l:List α) (i:Nat),YW q l i = -1∧(∀ x∈l,q x=false)∨∃ j x,YW q l i=((i+j:Nat):Int)∧l[j]? = some x∧q x=true:=by
 intro l
 induction l with
 |nil=>intro i; exact .inl ⟨rfl,by simp⟩
 |cons y l ih=>
  intro i
  simp only[YW]
  cases hq:q y with
  |true=>exact .inr ⟨0,y,by simp,rfl,hq⟩
  |false=>
   rcases ih (i+1) with ⟨h1,h2⟩ | ⟨j,x,h1,h2,h3⟩
   ·exact .inl ⟨by simpa using h1,fun x hx=>by
     rcases List.mem_cons.1 hx with rfl | hx
     ·exact hq
     ·exact h2 x hx⟩
   ·exact .inr ⟨j+1,x,by rw[show i+(j+1)=i+1+j by omega]; simpa using h1,by simpa using h2,h3⟩
section
variable {t:Tr}{o:List Int}(g:GoodT t o)
def Jft (t:Tr):Nat→Nat
 |0=>0
 |i+1=>(t.items.getD i 0).toNat+1
def preT (t:Tr) (i:Nat):Tr:=⟨t.nodes.take (Jft t i),t.items.take i⟩
include g
theorem Jbi:∀ i,i≤t.items.length→chain o t.nodes.length 0 (t.items.take i) (Jft t i)∧chain o t.nodes.length (Jft t i) (t.items.drop i) t.nodes.length:=by
 intro i hi
 have h:=g.its
 rw[← Gq i t.items,chain_app]at h
 obtain ⟨c,h1,h2⟩:=h
 have hc:c=(Jft t i:Int):=by
  cases i with
  |zero=>simp[chain]at h1; simp[Jft,h1]
  |succ i=>
   rw[Kw (d:=0) (by omega),Jar]at h1
   simp only[Jft]
   omega
 rw[hc]at h1 h2
 exact ⟨h1,h2⟩
theorem item_at {i:Nat}(hi:i < t.items.length):∃ L:Nat,t.items.getD i 0=(L:Int)∧fs o L=(Jft t i:Int)∧Jft t i≤L∧L < t.nodes.length∧Jft t (i+1)=L+1:=by
 obtain ⟨L,F,hL,hFs,hFL,hLn,hol,hoL⟩:=g.item hi
 have h:=(Jbi g i (by omega)).2
 have e0:t.items.drop i=t.items.getD i 0::t.items.drop (i+1):=by
  rw[List.drop_eq_getElem_cons hi,Gj,Gp hi]; rfl
 rw[e0,hL]at h
 simp only[chain,Gh]at h
 have:(F:Int)=Jft t i:=by rw[← hoL]; exact h.1.2.2
 refine ⟨L,hL,by rw[hFs]; exact this,by omega,hLn,?_⟩
 simp only[Jft,hL,Gh]
theorem endI_le {i:Nat}(hi:i≤t.items.length):Jft t i≤t.nodes.length:=by
 have h:=Jfo g.ord.ok g.olen _ _ _ (Jbi g i hi).2
 omega
theorem endI_all:Jft t t.items.length=t.nodes.length:=by
 have h:=(Jbi g t.items.length (Nat.le_refl _)).2
 rw[List.drop_length]at h
 simp only[chain]at h
 omega
theorem pre_all:preT t t.items.length=t:=by
 unfold preT
 rw[endI_all g,Gw,Gw]
theorem pre_good {i:Nat}(hi:i≤t.items.length):∃ o',GoodT (preT t i) o':=by
 have he:=endI_le g hi
 have hc:=(Jbi g i hi).1
 have hits:=g.items
 have hlt:∀ k∈t.items.take i,k < (Jft t i:Nat):=fun k hk=>(QR g.ord.ok g.olen _ _ _ hc k hk).2.2.1
 have h2:=Jep he g.olen _ _ _ hc hlt
 have:=g.seg (d:=0) (m:=Jft t i) (by omega) he (fun j _ h=>(JdK g.ord.ok (by omega) (by rw[g.olen]; omega)).1) (t.items.take i) (by rw[Gl]; omega) h2 (fun k hk=>by
  have hk2:=Gr hk
  have hr:=g.itr hk2
  have hkl:=hlt k hk
  have:=JcQ (l:=t.nodes) (d:=0) (m:=Jft t i) (k:=k) (by omega) hkl he
  rw[show k + -((0:Nat):Int)=k by omega]at this
  rw[this]; exact g.defs k hk2)
 rw[segN0]at this
 exact ⟨_,this⟩
theorem cut_good {i:Nat}(hi:i < t.items.length):∃ o',GoodT (Jen o t i) o':=by
 obtain ⟨L,hL,hF,hFL,hLn,hE⟩:=item_at g hi
 generalize Jft t i=F at *
 have hT:Jen o t i=⟨segN t.nodes F (L+1),[(L:Int)-F]⟩:=by
  unfold Jen segN
  simp only[hL,hF,Gh]
  rw[GA]
 rw[hT]
 have h2:=Je4 (l:=o) (d:=F) (m:=L+1) (e:=-(F:Int)) (k:=L) (by omega) (by omega) (by rw[g.olen]; omega)
 have hoL:o.getD (L:Int).toNat 0=F:=hF
 rw[hoL]at h2
 have hnest:∀ j:Nat,F≤j→j < L+1→(F:Int)≤fs o j:=fun j h1 h3=>by
  have:=g.ord.nest L j (by rw[KA]; exact hLn) (by omega) (by rw[hF]; omega) (by omega)
  rw[hF]at this; exact this
 refine ⟨_,g.seg (d:=F) (m:=L+1) (by omega) (by omega) hnest [(L:Int)-F] (by simp) ?_ ?_⟩
 ·simp only[chain]
  rw[show (L:Int) + -(F:Int)=(L:Int)-F by omega]at h2
  refine ⟨⟨by omega,by omega,?_⟩,by omega⟩
  rw[h2]; omega
 ·intro k hk
  rw[Gu]at hk
  subst hk
  have:=JcQ (l:=t.nodes) (d:=F) (m:=L+1) (k:=L) (by omega) (by omega) (by omega)
  rw[show (L:Int) + -(F:Int)=(L:Int)-F by omega]at this
  rw[this]
  refine g.defs _ ?_
  rw[← hL,Gj,Gp hi]
  exact Gx hi
theorem join_pre {i:Nat}(hi:i < t.items.length):Qu (preT t i) (Jen o t i)=preT t (i+1):=by
 obtain ⟨L,hL,hF,hFL,hLn,hE⟩:=item_at g hi
 unfold Qu preT Jen
 rw[hE]
 generalize Jft t i=F at *
 have hl:(t.nodes.take F).length=F:=by rw[Gl]; omega
 simp only[hL,hF,Gh,hl,GD,Gf,Gg]
 have e1:(mvN (F:Int)∘mvN (-(F:Int)))=id:=by funext x; exact mvN_back x F
 rw[e1,Gn]
 congr 1
 ·have e2:=Gq F (t.nodes.take (L+1))
  rw[List.take_take,Nat.min_eq_left (by omega),GA]at e2
  exact e2
 ·rw[Kw (d:=0) hi,hL]
  congr 2
  omega
theorem par_in:∀ (N n:Nat),N < t.nodes.length→fs o N≤n→n < N→∃ m:Nat,n < m∧m≤N∧(n:Int)∈(t.nodes.getD m default).kids:=by
 intro N
 induction N using Nat.strongRecOn with
 |_ N ih=>
  intro n hN h1 h2
  have hK:=J5 hN
  obtain ⟨c,hc,h3,h4⟩:=Jas g.ord.ok rfl _ _ _ (n:Int) (g.ord.kids hK) h1 (by omega)
  have hr:=g.ord.kid_rng hK hc
  by_cases he:c=n
  ·subst he; exact ⟨N,h2,Nat.le_refl _,hc⟩
  ·obtain ⟨c,rfl⟩:∃ k:Nat,c=(k:Int):=⟨c.toNat,by omega⟩
   obtain ⟨m,q1,q2,q3⟩:=ih c (by omega) n (by omega) h3 (by omega)
   exact ⟨m,q1,by omega,q3⟩
def parT (t:Tr) (n:Nat):Int:=YW (fun x:Nd=>x.kids.contains (n:Int)) t.nodes 0
theorem par_spec {n:Nat}(hn:n < t.nodes.length):(parT t n = -1∧∀ m:Nat,m < t.nodes.length→(n:Int)∉(t.nodes.getD m default).kids)∨∃ m:Nat,parT t n=(m:Int)∧n < m∧m < t.nodes.length∧(n:Int)∈(t.nodes.getD m default).kids:=by
 rcases fixA_at (q:=fun x:Nd=>x.kids.contains (n:Int)) t.nodes 0 with ⟨h1,h2⟩ | ⟨j,x,h1,h2,h3⟩
 ·refine .inl ⟨h1,fun m hm hk=>?_⟩
  have:=h2 (t.nodes.getD m default) (by rw[rowN hm]; exact Gx hm)
  simp only[Gs,decide_eq_false_iff_not]at this
  exact this hk
 ·have hj:=(List.getElem?_eq_some_iff.1 h2).1
  have hx:t.nodes.getD j default=x:=by rw[Gj,h2]; rfl
  simp only[Gs,decide_eq_true_eq]at h3
  rw[← hx]at h3
  have:=g.kid hj h3
  exact .inr ⟨j,by rw[Nat.zero_add]at h1; exact h1,by omega,hj,h3⟩
theorem par_step {N n:Nat}(hN:N < t.nodes.length) (hn:n < N):(parT t n = -1∨∃ m:Nat,parT t n=(m:Int)∧n < m∧m < t.nodes.length)∧((fs o N≤n)↔(fs o N≤parT t n∧parT t n≤N)):=by
 have hN0:=(JdK g.ord.ok (i:=(N:Int)) (by omega) (by rw[g.olen]; omega)).1
 rcases par_spec g (n:=n) (by omega) with ⟨h1,h2⟩ | ⟨m,h1,h2,h3,h4⟩
 ·refine ⟨.inl h1,?_⟩
  rw[h1]
  refine ⟨fun h=>?_,fun h=>by omega⟩
  obtain ⟨m,_,q2,q3⟩:=par_in g N n hN h hn
  exact absurd q3 (h2 m (by omega))
 ·refine ⟨.inr ⟨m,h1,h2,h3⟩,?_⟩
  rw[h1]
  refine ⟨fun h=>?_,fun h=>?_⟩
  ·obtain ⟨m',q1,q2,q3⟩:=par_in g N n hN h hn
   have:=g.ord.parent_one (J5 h3) (J5 (show m' < t.nodes.length by omega)) h4 q3
   omega
  ·have h5:=g.ord.nest N m (by rw[KA]; exact hN) (by omega) h.1 h.2
   have h6:=g.ord.kid_rng (J5 h3) h4
   have h7:=(JdK g.ord.ok (i:=(n:Int)) (by omega) (by rw[g.olen]; omega)).2
   omega
end
end
end Go.Cm
end
end
