/-
  A part of the proof. Conditions: none.
-/
import Derived.Test.YtdnnimemociklaaGreatDoorVT6
set_option linter.unusedSimpArgs false
set_option linter.unusedVariables false
open Go.Proofs.Tryz renaming prog->Gd
open Int renaming cast_ofNat_Int->Gh,toNat_natCast->Gp
open List renaming set_cons_zero->Gc,set_cons_succ->Gf,map_cons->Ga,map_nil->Gb,drop_zero->Gg,getD_cons_zero->Gj,length_nil->Gl,length_cons->Gm,getD_eq_getElem?_getD->Gr,replicate->Gn,getElem?_eq_getElem->Gu,mem_singleton->Gs,drop_succ_cons->Gv,getElem?_replicate->Gy,range->Gw,take_length->Gz,ext_getElem->GA,take_zero->GD,take_of_length_le->GJ,take_succ_cons->GK,length_pos_iff->GL,foldl_append->GM,not_mem_nil->GN,length_drop->GQ,getElem_set->GR,getElem_mem->GU,all_eq_true->GV,mem_range->GX,mem_cons->GY
open Nat renaming zero_add->Gi,le_refl->Gq,sub_zero->GG
open Bool renaming false_eq_true->Gt,not_true->Gx,not_false->GH
open Option renaming isSome_none->GI
noncomputable section
section
set_option maxRecDepth 100000
set_option maxHeartbeats 40000000
open Go.Proofs
namespace Go.Cm
variable {t:Tr}{o:Lu}{R:RS}{f i m n:Nat}{r:Option TL}{d:LH}
def RS.binds (t:Tr)(s:Nat)(R:RS):RS:=if 0<=R.bad then R else if (Jt R.got (Ji t s)).length=(nd t s).n.toNat then { R with got:=Yg t s (Jt R.got (Ji t s)) R.got (nd t s).n.toNat } else R.fail s
section
variable(g:GoodT t o)(ht:t.Fit){of:Lu}
include g ht
theorem rmBinds {s:Nat}(hs:s<t.nodes.length)(hk:(nd t s).k=41)(hl:R.got.length=t.nodes.length)(Bd:Ln R.got):RMe Gd 114 [.int .i64 (s:Int)] t of R (R.binds t s) (.tup []):=by
 have Ag:=g.many;have hg:=JZ hs;have AL:(gz R.got).length=t.nodes.length:=by rw[QH,hl]
 have Bh:=(JbR ht hs).kidn;have Af:(iz (nd t s).kids).length=(nd t s).kids.length:=Jf;obtain⟨n,n1,n2,n3,n4⟩:=Yp g hs hk;change (nd t s).n=n at n1;change (nd t s).kids.length=n+1 at n2;obtain⟨_,_,_,hL⟩:=KV g hs hk;have CX:=Qc (l:=R.got) (i:=Ji t s) om;have aZ:=Bd (Ji t s);have Ib:=Yk g ht hs om;have Bn:(txz (Jt R.got (Ji t s))).length=(Jt R.got (Ji t s)).length:=K8;refine QG (vfS c114_ok λN=>?_);simp only[c114,go_sem,hpR,Qb,Ja,hg,Nd.cv]
 repeat refine And.intro (by first|omega|exact⟨om,om⟩|exact Jg) ?_
 refine JJ [0,0,0,4,0,0,0,4,0,0,1,1,0] Jm vM ?_;simp only[go_sem];refine JdL (.inl rfl) Ib ?_;by_cases hb:0<=R.bad
 ·have d0:(0<=R.bad)=True:=eq_true hb;have e:R.binds t s=R:=by unfold RS.binds;rw[if_pos hb]
  rw[e];simp only[go_sem,AL,CX,d0]
  repeat refine And.intro (by first|omega|exact⟨om,om⟩|exact Jg) ?_
  exact .outR (X:=[_]) (wk.refl _) rfl
 have d0:(0<=R.bad)=False:=eq_false hb;by_cases Ad:(Jt R.got (Ji t s)).length=n
 case neg=>
  have e:R.binds t s=R.fail s:=by unfold RS.binds;rw[if_neg hb,n1,Gp,if_neg Ad]
  have d1:(((Jt R.got (Ji t s)).length:Int) != (n:Int))=true:=by rw[bne_iff_ne];omega
  rw[e];simp only[go_sem,AL,CX,d0,txV,Bn,n1,d1]
  repeat refine And.intro (by first|omega|exact⟨om,om⟩|exact Jg) ?_
  refine Kl (R:=R) (X:=[.arr 5 [[.int .u8 ((nd t s).k:Int),S (nd t s).text,.int .i64 (n:Int),.rslc 1 (iz (nd t s).kids) none,.int .i64 (nd t s).pl]]]) Jck (.inl rfl) rfl rfl rfl rfl ?_;simp only[go_sem];exact .outR (wk.refl _) rfl
 have e:R.binds t s = { R with got:=Yg t s (Jt R.got (Ji t s)) R.got n }:=by unfold RS.binds;rw[if_neg hb,n1,Gp,if_pos Ad]
 rw[e];clear e;have d1:(((Jt R.got (Ji t s)).length:Int) != (n:Int))=false:=by rw[Ad];exact bne_self_eq_false _
 simp only[go_sem,AL,CX,d0,txV,Bn,n1,d1]
 repeat refine And.intro (by first|omega|exact⟨om,om⟩|exact Jg) ?_
 refine JW (t:=t) (of:=of) (R:=R) (X:=[.arr 5 [[.int .u8 ((nd t s).k:Int),S (nd t s).text,.int .i64 (n:Int),.rslc 1 (iz (nd t s).kids) none,.int .i64 (nd t s).pl]]]) 0 rfl rfl rfl ?_;simp only[go_sem,Jy,frz,JM,Kn,Ga,Gb,Gc,show ¬(0:Nat)=0+4 by decide,if_false,if_true,Gj,Gg,Gi];generalize Jt R.got (Ji t s)=l at *;have Cv:∀j,(Yg t s l R.got j).length=t.nodes.length:=λj=>by rw[Yr];exact hl
 refine Jr (I:=λj:Nat=>j<=n) (inv:=λj=>mkT 76 [(0,.ptr 0 0 0),(4,.rptr [.int .u8 ((nd t s).k:Int),S (nd t s).text,.int .i64 (n:Int),.rslc 1 (iz (nd t s).kids) none,.int .i64 (nd t s).pl]),(5,.rslc 1 (txz l) none),(6,.int .i64 (j:Int))]) (hp:=λj=>hpR t of { R with got:=Yg t s l R.got j } []) (μ:=λj=>n-j) 0 [0,1,2,3] om rfl ?_ ?_ ?_
 ·simp only[JR,Ga,Gb,ren,Jk,Jb (JH _)];refine Js ?_;simp[Kh,Ko]
 ·exact KN (X:=[.dead]) rfl
 ·intro j hj;by_cases Ab:j<n
  ·have d2:=dtT j n;have hm:=Jz g hs (i:=j) om;have ME:(iz (nd t s).kids).getD j []=[.int .i64 ((Ju t s j:Nat):Int)]:=by rw[JF om,JE g hs om]
   have D5:=JZ (t:=t) (i:=Ju t s j) om;have Aw:(iz (nd t (Ju t s j)).kids).length=(nd t (Ju t s j)).kids.length:=Jf;have Dk:Yg t s l R.got (j+1)=if (nd t (Ju t s j)).kids=[] then(Yg t s l R.got j).set (Ju t s j) [l.getD j .int] else Yg t s l R.got j:=rfl
   have hx:=Yi (l:=l) (i:=j) om;simp only[go_sem,d2];refine JP Jm vM ?_;by_cases he:(nd t (Ju t s j)).kids=[]
   ·rw[if_pos he]at Dk;have Dz:=Qc (l:=Yg t s l R.got j) (i:=Ju t s j) (by rw[Cv];omega);have OV:(gz (Yg t s l R.got j)).length=t.nodes.length:=by rw[QH,Cv]
    have Df:(gz (Yg t s l R.got j)).set (Ju t s j) [.rslc 1 (txz [l.getD j .int]) none]=gz (Yg t s l R.got (j+1)):=by rw[Dk];exact gz_set
    have d3:(((0:Nat):Int) == 0)=true:=rfl;have aG:(iz (nd t (Ju t s j)).kids).length=0:=by rw[Aw,he];rfl
    simp only[go_sem,hpR,Qb,Af,ME,Ja,D5,Nd.cv,aG,d3]
    repeat refine And.intro (by first|omega|exact⟨om,om⟩|exact Jg) ?_
    refine JJ [0,0,0,4,0,0,0,0,0,0,0,0,0,0,1,2] Jm vM ?_;simp only[go_sem,Af,ME,Bn,hx]
    repeat refine And.intro (by first|omega|exact⟨om,om⟩|exact Jg) ?_
    refine YC [[S (tyT (l.getD j .int))]] (.inl rfl) rfl rfl rfl rfl ?_;simp only[go_sem,OV,Dz,Gm,Gl,Gv,Gg,splice,GD,List.nil_append]
    repeat refine And.intro (by first|omega|exact⟨om,om⟩|exact Jg) ?_
    have ah:(gz (Yg t s l R.got j)).set (Ju t s j) [.rslc 1 [[S (tyT (l.getD j .int))]] none]=gz (Yg t s l R.got (j+1)):=Df;refine⟨j+1,[0,1,2,3],om,om,rfl,?_,?_⟩
    ·rw[ah];exact KN (R:={ R with got:=Yg t s l R.got (j+1) }) (X:=[]) rfl
    ·simp only[JR,Ga,Gb,ren,Jk,Jb (JH _)];refine Js ?_;simp[Kh,Ko]
   ·rw[if_neg he]at Dk;have Et:=GL.2 he;have d3:(((nd t (Ju t s j)).kids.length:Int) == 0)=false:=by rw[beq_eq_false_iff_ne];omega
    simp only[go_sem,hpR,Qb,Af,ME,Ja,D5,Nd.cv,Aw,d3]
    repeat refine And.intro (by first|omega|exact⟨om,om⟩|exact Jg) ?_
    refine⟨j+1,[0,1,2,3],om,om,rfl,?_,?_⟩
    ·rw[Dk];exact KN (R:={ R with got:=Yg t s l R.got j }) (X:=[]) rfl
    ·simp only[JR,Ga,Gb,ren,Jk,Jb (JH _)];refine Js ?_;simp[Kh,Ko]
  ·have d2:=dfF j n;obtain rfl:j=n:=om
   simp only[go_sem,d2];exact .done (wk.refl _)
end
def RS.fin (R:RS)(i:Nat):Option TL->RS
 |none=>R.fail i
 |some []=>R
 |some (a::l)=>R.give i true (a::l)
theorem give_nil(h:Jt R.got i=[]):R.give i true []=R:=by
 have e:R.got.set i []=R.got:=by
  refine GA sM λj h1 h2=>?_
  rw[GR]
  split
  ·rename_i e;subst e;unfold Jt at h;rw[Gr,Gu h2]at h;exact h.symm
  ·rfl
 unfold RS.give;rw[show (true && Qf [])=true from rfl,if_pos rfl,e]
theorem Jfr(h:Jt R.got i=[]):R.ans i r=R.fin i r:=by
 rcases r with _|_|⟨a,l⟩
 ·rfl
 ·exact give_nil h
 ·rfl
theorem ans_opt{l0:TL}(h:∀l,r=some l->l0=l):R.ans i r=R.give i r.isSome l0:=by
 cases r with
 |none=>unfold RS.ans RS.give;rw[show (none:Option TL).isSome=false from rfl,Bool.false_and,if_neg vk]
 |some l=>rw[h l rfl];rfl
theorem fin_ifn{b:Bool}:R.fin i (if b=true then some [] else none)=if b=true then R else R.fail i:=by cases b <;> rfl
section
variable(g:GoodT t o)(ht:t.Fit){of:Lu}
include g ht
theorem rmOther(hi:i<t.nodes.length)(hk:30<=(nd t i).k/\(nd t i).k≠41)(Ba:of.length=t.nodes.length)(CK:(nd t i).k=44->of.getD i 0=(m:Int)/\m<t.nodes.length/\(Jt R.got m).length=1)(hl:R.got.length=t.nodes.length)(Bd:Ln R.got)(hf:∀j,Qf (Jt R.got j)=true)(h0:(nd t i).k≠42->Jt R.got i=[]):RMe Gd 64 [.int .i64 (i:Int),.agg (nd t i).cv] t of R (R.fin i (Qh t m R.got i)) (.tup []):=by
 have Ag:=g.many;have Bh:=(JbR ht hi).kidn;have Af:(iz (nd t i).kids).length=(nd t i).kids.length:=Jf;have Ef:(gz R.got).length=t.nodes.length:=by rw[QH,hl]
 have hK:∀j,j<(nd t i).kids.length->(iz (nd t i).kids).getD j []=[.int .i64 ((Ju t i j:Nat):Int)]/\Ju t i j<t.nodes.length/\(gz R.got).getD (Ju t i j) []=[txV (KK t R.got i j)]:=λj hj=>by have h1:=(Jz g hi hj).2.1;refine⟨by rw[JF hj,JE g hi hj],om,?_⟩;rw[XV g hi hj (JE g hi hj),Gp];exact Qc om
 have I9:∀j,(KK t R.got i j).length<=30/\∀a∈KK t R.got i j,(tyT a).length<=100000:=λj=>by
  unfold KK
  split
  ·exact⟨Bd _,λa ha=>by have:=Yt (hf _) ha;omega⟩
  ·exact⟨sM,λa ha=>by cases ha⟩
 have eK:∀v:Nat,(nd t i).k≠v->(((nd t i).k:Int) == (v:Int))=false:=λv h=>by rw[beq_eq_false_iff_ne];omega
 have rE:=JV (t:=t) (m:=m) (got:=R.got) (i:=i);refine QG (vfS c64_ok λN=>?_);by_cases kk:(nd t i).k=47
 ·skip
  have eA:R.fin i (Qh t m R.got i)=R.give i true [TyX.int]:=by rw[rE,kk,rk_span];rfl
  rw[eA];simp -implicitDefEqProofs only[go_sem,c64,hpR,Qb,Nd.cv,kk,Gh];refine JW (t:=t) (of:=of) (R:=R) (X:=[_,.arr 1 [[S [105,110,116]]]]) 1 rfl rfl rfl ?_;simp -implicitDefEqProofs only[go_sem,Jy,frz,JM,Kn,Ga,Gb,Gc,Gf,GK,GD,Gg,Gi,if_true,show ¬(4:Nat)=1+4 by decide,if_false];refine Kl (X:=[_,.dead]) (QJ (l:=[TyX.int]) (els:=[[S [105,110,116]]]) hi hl sM rfl (λ_=>rfl) (λa ha=>by rw[Gs.1 ha];decide)) (.inl rfl) rfl rfl rfl rfl ?_;simp -implicitDefEqProofs only[go_sem];exact .outR (wk.refl _) rfl
 by_cases kk:(nd t i).k=64
 ·skip
  have A8:=Xt g hi (.inr (.inr (.inr om)));obtain⟨w1,w2,w3,w4⟩:=Ym g hi (.inr (.inl om));have hT:=YH g ht (Ju t i 0) om w3 w4;have Uu:=XW (t:=t) (i:=Ju t i 0) om;obtain⟨q1,q2,q3⟩:=hK 0 om;have Da:=YG (of:=of) (b:=true) (l:=[tyN t (Ju t i 0)]) hi hl sM (λa ha=>by rw[Gs.1 ha];omega);have eA:R.fin i (Qh t m R.got i)=R.give i true [tyN t (Ju t i 0)]:=by rw[rE,kk,rk_param];rfl
  rw[eA];simp -implicitDefEqProofs only[go_sem,c64,hpR,Qb,Nd.cv,kk,Gh];refine JW (t:=t) (of:=of) (R:=R) (X:=[.arr 5 [[.int .u8 64,S (nd t i).text,.int .i64 (nd t i).n,.rslc 1 (iz (nd t i).kids) none,.int .i64 (nd t i).pl]]]) 0 rfl rfl rfl ?_;simp -implicitDefEqProofs only[go_sem,Jy,frz,JM,Kn,Ga,Gb,Gc,Gf,hpR,Qb,show ¬(0:Nat)=0+4 by decide,if_false,if_true,Nd.cv,Gj,Gg,Gi];refine JJ [0,0,0,0,0,4,0,0,0,0,0,0,2] Jm vM ?_;simp -implicitDefEqProofs only[go_sem,Af,q1]
  repeat refine And.intro (by first|omega|exact⟨om,om⟩|exact Jg) ?_
  refine JdL (.inl rfl) hT ?_;simp -implicitDefEqProofs only[go_sem];refine YC [[S (tyT (tyN t (Ju t i 0)))]] (.inl rfl) rfl rfl rfl rfl ?_;simp -implicitDefEqProofs only[go_sem];refine Jaq (.inl rfl) (Da.on (X:=[.dead]) rfl rfl) ?_;simp -implicitDefEqProofs only[go_sem];exact .outR (wk.refl _) rfl
 by_cases kk:(nd t i).k=43
 ·skip
  have A8:=Xt g hi (.inr (.inl kk));obtain⟨q1,q2,q3⟩:=hK 0 om;have Bn:(txz (KK t R.got i 0)).length=(KK t R.got i 0).length:=K8;have eB:(((KK t R.got i 0).length:Int) == 1)=((KK t R.got i 0).length == 1):=by rw[Bool.eq_iff_iff,beq_iff_eq,beq_iff_eq];omega
  have Da:=λb=>YG (of:=of) (b:=b) (l:=KK t R.got i 0) hi hl (by have:=(I9 0).1;omega) (I9 0).2
  have eA:R.fin i (Qh t m R.got i)=R.give i ((KK t R.got i 0).length == 1) (KK t R.got i 0):=by rw[<-Jfr (h0 om),rE,kk,<-Ye];simp[J6]
  rw[eA];simp -implicitDefEqProofs only[go_sem,c64,hpR,Qb,Nd.cv,kk,Gh];refine JW (t:=t) (of:=of) (R:=R) (X:=[.arr 5 [[.int .u8 43,S (nd t i).text,.int .i64 (nd t i).n,.rslc 1 (iz (nd t i).kids) none,.int .i64 (nd t i).pl]]]) 0 rfl rfl rfl ?_;simp -implicitDefEqProofs only[go_sem,Jy,frz,JM,Kn,Ga,Gb,Gc,Gf,hpR,Qb,show ¬(0:Nat)=0+4 by decide,if_false,if_true,Nd.cv,Gj,Gg,Gi];refine JJ [0,0,0,0,0,4,0,0,0,0,1,1,0,0,0,0,0,4,0,0,0,0,1,1,2] Jm vM ?_;simp -implicitDefEqProofs only[go_sem,Af,q1,Ef,q3,txV,Bn,eB]
  repeat refine And.intro (by first|omega|exact⟨om,om⟩|exact Jg) ?_
  refine Jaq (.inl rfl) ((Da _).on (X:=[.dead]) rfl rfl) ?_;simp -implicitDefEqProofs only[go_sem];exact .outR (wk.refl _) rfl
 by_cases kk:(nd t i).k=42
 ·skip
  by_cases hn:(nd t i).kids=[]
  ·skip
   have eA:R.fin i (Qh t m R.got i)=R:=by rw[rE,kk,Jc2,if_pos hn];rfl
   rw[eA];have d0:((0:Int)<((nd t i).kids.length:Int))=False:=eq_false (by rw[hn];decide);simp -implicitDefEqProofs only[go_sem,c64,hpR,Qb,Nd.cv,kk,Gh,Af,d0];exact .outR (X:=[_]) (wk.refl _) rfl
  have A8:=GL.2 hn;have d0:((0:Int)<((nd t i).kids.length:Int))=True:=J5;obtain⟨w1,w2,w3,w4⟩:=Ym g hi (.inr (.inr ⟨kk,hn⟩));have hT:=YH g ht (Ju t i 0) om w3 w4;have Uu:=XW (t:=t) (i:=Ju t i 0) om;obtain⟨q1,q2,q3⟩:=hK 0 om;have Da:=YG (of:=of) (b:=true) (l:=[tyN t (Ju t i 0)]) hi hl sM (λa ha=>by rw[Gs.1 ha];omega);have eA:R.fin i (Qh t m R.got i)=R.give i true [tyN t (Ju t i 0)]:=by rw[rE,kk,Jc2,if_neg hn];rfl
  rw[eA];simp -implicitDefEqProofs only[go_sem,c64,hpR,Qb,Nd.cv,kk,Gh,Af,d0];refine JW (t:=t) (of:=of) (R:=R) (X:=[.arr 5 [[.int .u8 42,S (nd t i).text,.int .i64 (nd t i).n,.rslc 1 (iz (nd t i).kids) none,.int .i64 (nd t i).pl]]]) 0 rfl rfl rfl ?_;simp -implicitDefEqProofs only[go_sem,Jy,frz,JM,Kn,Ga,Gb,Gc,Gf,hpR,Qb,show ¬(0:Nat)=0+4 by decide,if_false,if_true,Nd.cv,Gj,Gg,Gi];refine JJ [0,0,0,0,0,4,0,0,0,0,0,0,2] Jm vM ?_;simp -implicitDefEqProofs only[go_sem,Af,q1]
  repeat refine And.intro (by first|omega|exact⟨om,om⟩|exact Jg) ?_
  refine JdL (.inl rfl) hT ?_;simp -implicitDefEqProofs only[go_sem];refine YC [[S (tyT (tyN t (Ju t i 0)))]] (.inl rfl) rfl rfl rfl rfl ?_;simp -implicitDefEqProofs only[go_sem];refine Jaq (.inl rfl) (Da.on (X:=[.dead]) rfl rfl) ?_;simp -implicitDefEqProofs only[go_sem];exact .outR (wk.refl _) rfl
 by_cases kk:(nd t i).k=44
 ·skip
  obtain⟨m1,m2,m3⟩:=CK kk;have A8:=Xt g hi (.inr (.inr (.inl kk)));obtain⟨q1,q2,q3⟩:=hK 0 om;have OA:(iz of).length=t.nodes.length:=by rw[Jf,Ba]
  have U4:(iz of).getD i []=[.int .i64 (m:Int)]:=by rw[JF om,m1]
  have M7:=Qc (l:=R.got) (i:=m) om;have SQ:=Jcm (KK t R.got i 0) (Jt R.got m) (by have:=(I9 0).1;omega);have eA:R.fin i (Qh t m R.got i)=if (KK t R.got i 0 == Jt R.got m)=true then R else R.fail i:=by
   rw[rE,kk,<-fin_ifn]
   congr 1
   by_cases h:KK t R.got i 0=Jt R.got m
   ·simp[J6,h,m3]
   ·simp[J6,h]
  rw[eA];simp -implicitDefEqProofs only[go_sem,c64,hpR,Qb,Nd.cv,kk,Gh];refine JW (t:=t) (of:=of) (R:=R) (X:=[.arr 5 [[.int .u8 44,S (nd t i).text,.int .i64 (nd t i).n,.rslc 1 (iz (nd t i).kids) none,.int .i64 (nd t i).pl]]]) 0 rfl rfl rfl ?_;simp -implicitDefEqProofs only[go_sem,Jy,frz,JM,Kn,Ga,Gb,Gc,Gf,hpR,Qb,show ¬(0:Nat)=0+4 by decide,if_false,if_true,Nd.cv,Gj,Gg,Gi];refine JJ [0,0,0,4,0,0,0,0,1,1,0,0,0,4,0,0,0,4,0,0,0,1,1,0,0] Jm vM ?_;simp -implicitDefEqProofs only[go_sem,Af,q1,Ef,q3,OA,U4,M7]
  repeat refine And.intro (by first|omega|exact⟨om,om⟩|exact Jg) ?_
  refine JdL (.inl rfl) SQ ?_
  cases hb:KK t R.got i 0 == Jt R.got m with
  |true=>rw[if_pos rfl];simp -implicitDefEqProofs only[go_sem,Gx];exact .outR (X:=[.dead]) (wk.refl _) rfl
  |false=>rw[if_neg vk];simp -implicitDefEqProofs only[go_sem,GH];refine Kl (R:=R) (X:=[.dead]) Jck (.inl rfl) rfl rfl rfl rfl ?_;simp -implicitDefEqProofs only[go_sem];exact .outR (wk.refl _) rfl
 by_cases kk:(nd t i).k=40
 ·skip
  obtain⟨n,n1,n2,_⟩:=Jgq g hi kk;change (nd t i).n=n at n1;change n<=(nd t i).kids.length at n2;have Be:(iz ((nd t i).kids.drop n)).take ((nd t i).kids.length-n)=iz ((nd t i).kids.drop n):=GJ (by rw[Jf,GQ];omega);obtain⟨l0,z1,⟨z2,z3⟩,z4⟩:=rmList (t:=t) (of:=of) (R:=R) (ks:=(nd t i).kids.drop n) hl (λk hk=>by have:=g.kid hi (List.mem_of_mem_drop hk);omega) (by rw[GQ];omega) Bd hf;have hr:Qh t m R.got i=gvn R.got ((nd t i).kids.drop n):=by rw[rE,kk,rk_block,Jd2 g hi,n1,Gp]
  have Da:=λb=>YG (of:=of) (b:=b) hi hl z2 z3
  rw[<-Jfr (h0 om),hr,ans_opt z1];clear hr z1;simp -implicitDefEqProofs only[go_sem,c64,hpR,Qb,Nd.cv,kk,n1,Gh,Af]
  repeat refine And.intro (by first|omega|exact⟨om,om⟩|exact Jg) ?_
  refine JW (t:=t) (of:=of) (R:=R) (X:=[.arr 5 [[.int .u8 40,S (nd t i).text,.int .i64 (n:Int),.rslc 1 (iz (nd t i).kids) none,.int .i64 (nd t i).pl]]]) 0 rfl rfl rfl ?_;simp -implicitDefEqProofs only[go_sem,Jy,frz,JM,Kn,Ga,Gb,Gc,Gf,hpR,Qb,show ¬(0:Nat)=0+4 by decide,if_false,if_true,Nd.cv,Gj,Gg,GG,Gz,JhJ,Be,Gi];refine Kl (X:=[.dead]) z4 (.inl rfl) rfl rfl rfl rfl ?_;simp -implicitDefEqProofs only[go_sem];refine Kl (X:=[.dead]) (Da _) (.inl rfl) rfl rfl rfl rfl ?_;simp -implicitDefEqProofs only[go_sem];exact .outR (wk.refl _) rfl
 by_cases kk:(nd t i).k=45
 ·skip
  have Be:True:=trivial;obtain⟨l0,z1,⟨z2,z3⟩,z4⟩:=rmList (t:=t) (of:=of) (R:=R) (ks:=(nd t i).kids) hl (λk hk=>by have:=g.kid hi (hk);omega) om Bd hf;have hr:Qh t m R.got i=gvn R.got ((nd t i).kids):=by have:=Jd2 g (got:=R.got) (n:=0) hi;rw[Gg]at this;rw[rE,kk,rk_give,this];simp only[GG,Gi]
  have Da:=λb=>YG (of:=of) (b:=b) hi hl z2 z3
  rw[<-Jfr (h0 om),hr,ans_opt z1];clear hr z1;simp -implicitDefEqProofs only[go_sem,c64,hpR,Qb,Nd.cv,kk,Gh,Af]
  repeat refine And.intro (by first|omega|exact⟨om,om⟩|exact Jg) ?_
  refine JW (t:=t) (of:=of) (R:=R) (X:=[.arr 5 [[.int .u8 45,S (nd t i).text,.int .i64 (nd t i).n,.rslc 1 (iz (nd t i).kids) none,.int .i64 (nd t i).pl]]]) 0 rfl rfl rfl ?_;have BV:(iz (nd t i).kids).take (nd t i).kids.length=iz (nd t i).kids:=by rw[<-Af];exact Gz
  simp -implicitDefEqProofs only[go_sem,Jy,frz,JM,Kn,Ga,Gb,Gc,Gf,hpR,Qb,show ¬(0:Nat)=0+4 by decide,if_false,if_true,Nd.cv,Gj,Gg,GG,Gz,BV,Gi];refine Kl (X:=[.dead]) z4 (.inl rfl) rfl rfl rfl rfl ?_;simp -implicitDefEqProofs only[go_sem];refine Kl (X:=[.dead]) (Da _) (.inl rfl) rfl rfl rfl rfl ?_;simp -implicitDefEqProofs only[go_sem];exact .outR (wk.refl _) rfl
 by_cases kk:(nd t i).k=65
 ·skip
  have aS:=refSign4 g ht hi kk;have hd:=def_res g hi kk;have Ib:=Yk g ht hi om;obtain⟨q1,q2,q3⟩:=hK ((nd t i).kids.length-1) om;have MW:Ji t i=Ju t i ((nd t i).kids.length-1):=rfl;rw[MW]at Ib;have SQ:=Jcm (KK t R.got i ((nd t i).kids.length-1)) (XU t i) (by have:=(I9 ((nd t i).kids.length-1)).1;omega);have eA:R.fin i (Qh t m R.got i)=if (KK t R.got i ((nd t i).kids.length-1) == XU t i)=true then R else R.fail i:=by rw[rE,kk,rk_def,fin_ifn]
  rw[eA];simp -implicitDefEqProofs only[go_sem,c64,hpR,Qb,Nd.cv,kk,Gh];refine JW (t:=t) (of:=of) (R:=R) (X:=[.arr 5 [[.int .u8 65,S (nd t i).text,.int .i64 (nd t i).n,.rslc 1 (iz (nd t i).kids) none,.int .i64 (nd t i).pl]]]) 0 rfl rfl rfl ?_;simp -implicitDefEqProofs only[go_sem,Jy,frz,JM,Kn,Ga,Gb,Gc,Gf,hpR,Qb,show ¬(0:Nat)=0+4 by decide,if_false,if_true,Nd.cv,Gj,Gg,Gi];refine J3 aS ?_;simp -implicitDefEqProofs only[go_sem];refine JJ [0,0,0,4,0,0,0,4,0,0,1,1,0,0,0] Jm vM ?_;simp -implicitDefEqProofs only[go_sem];refine JdL (.inl rfl) Ib ?_;simp -implicitDefEqProofs only[go_sem,Ef,q3]
  repeat refine And.intro (by first|omega|exact⟨om,om⟩|exact Jg) ?_
  refine JdL (.inl rfl) SQ ?_
  cases hb:KK t R.got i ((nd t i).kids.length-1) == XU t i with
  |true=>rw[if_pos rfl];simp -implicitDefEqProofs only[go_sem,Gx];exact .outR (X:=[.dead]) (wk.refl _) rfl
  |false=>rw[if_neg vk];simp -implicitDefEqProofs only[go_sem,GH];refine Kl (R:=R) (X:=[.dead]) Jck (.inl rfl) rfl rfl rfl rfl ?_;simp -implicitDefEqProofs only[go_sem];exact .outR (wk.refl _) rfl
 have e47:=eK 47 om;have e64:=eK 64 om;have e42:=eK 42 om;have e43:=eK 43 om;have e44:=eK 44 om;have e45:=eK 45 om;have e40:=eK 40 om;have e41:=eK 41 om;have e65:=eK 65 om;simp only[Gh]at e47 e64 e42 e43 e44 e45 e40 e41 e65;have eA:R.fin i (Qh t m R.got i)=R:=by rw[rE,rk_else om om];rfl
 rw[eA];simp -implicitDefEqProofs only[go_sem,c64,hpR,Qb,Nd.cv,e47,e64,e42,e43,e44,e45,e40,e41,e65];exact .outR (X:=[_]) (wk.refl _) rfl
end
def RS.sets (t:Tr)(s:Nat)(R:RS):RS:=if (R.binds t s).bad<0 then(if Yf t s (Jt (R.binds t s).got (Ji t s))=true then R.binds t s else(R.binds t s).fail s) else R.binds t s
section
variable(g:GoodT t o)(ht:t.Fit){of:Lu}
include g ht
theorem rmSet {s:Nat}(hs:s<t.nodes.length)(hk:(nd t s).k=41)(hl:R.got.length=t.nodes.length)(Bd:Ln R.got)(hT:∀k,k<nB t s->(nd t (Ju t s k)).kids≠[]->Jt R.got (Ju t s k)=[tyN t (Ju t (Ju t s k) 0)]):RMe Gd 64 [.int .i64 (s:Int),.agg (nd t s).cv] t of R (R.sets t s) (.tup []):=by
 have Ag:=g.many;have Bh:=(JbR ht hs).kidn;have Af:(iz (nd t s).kids).length=(nd t s).kids.length:=Jf;obtain⟨n,n1,n2,n3,n4⟩:=Yp g hs hk;change (nd t s).n=n at n1;change (nd t s).kids.length=n+1 at n2;have Pm:nB t s=n:=by unfold nB;rw[n1];rfl
 rw[Pm]at hT;obtain⟨_,_,_,hL⟩:=KV g hs hk;have MW:Ji t s=Ju t s n:=by unfold Ji Ju;rw[n2];rfl
 have Z6:∀j,j<n+1->(iz (nd t s).kids).getD j []=[.int .i64 ((Ju t s j:Nat):Int)]/\Ju t s j<t.nodes.length:=λj hj=>by have h1:=(Jz g hs (i:=j) om).2.1;exact⟨by rw[JF om,JE g hs om],om⟩
 have DN:∀k j,k<n+1->j<n+1->Ju t s k=Ju t s j->k=j:=λk j h1 h2 h=>by have h3:=(Jf7 g hs);have e1:=JE g hs (j:=k) om;have e2:=JE g hs (j:=j) om;rw[h]at e1;rw[Gr,Gu (show k<(nd t s).kids.length by omega)]at e1;rw[Gr,Gu (show j<(nd t s).kids.length by omega)]at e2;exact(List.getElem_inj h3).1 (show (nd t s).kids[k]=(nd t s).kids[j] from(show (nd t s).kids[k]=_ from e1).trans (show (nd t s).kids[j]=_ from e2).symm)
 have hB:=rmBinds g ht (of:=of) hs hk hl Bd;generalize Ao:(λk=>(nd t (Ju t s k)).kids.isEmpty || tyN t (Ju t (Ju t s k) 0) == (Jt (R.binds t s).got (Ji t s)).getD k .int)=ok;have CQ:Yf t s (Jt (R.binds t s).got (Ji t s))=(Gw n).all ok:=by unfold Yf;rw[n1,Gp,<-Ao]
 have BU:(R.binds t s).bad<0->∃l,(R.binds t s).got.length=t.nodes.length/\Jt (R.binds t s).got (Ju t s n)=l/\l.length=n/\∀k,k<n->∃x,Jt (R.binds t s).got (Ju t s k)=[x]/\(tyT x == tyT (l.getD k .int))=ok k:=λhb=>by
  have e:¬0<=R.bad/\(Jt R.got (Ji t s)).length=n/\R.binds t s = { R with got:=Yg t s (Jt R.got (Ji t s)) R.got n }:=by
   unfold RS.binds at hb|-;rw[n1,Gp]at hb|-;by_cases h1:0<=R.bad
   ·rw[if_pos h1]at hb;omega
   ·rw[if_neg h1]at hb|-;by_cases h2:(Jt R.got (Ji t s)).length=n
    ·rw[if_pos h2];exact⟨h1,h2,rfl⟩
    ·rw[if_neg h2]at hb;unfold RS.fail at hb;rw[iP7]at hb;simp only at hb;omega
  obtain⟨b1,b2,b3⟩:=e;have Dq:Jt (R.binds t s).got (Ju t s n)=Jt R.got (Ji t s):=by
   rw[b3,<-MW];refine Jcn n λk Au _ h=>?_
   rw[MW]at h;have:=DN k n om om h;omega
  refine⟨Jt R.got (Ji t s),by rw[b3];simp only;rw[Yr];exact hl,Dq,b2,λk Au=>?_⟩;rw[<-Ao];simp only;rw[MW,Dq,<-MW];by_cases he:(nd t (Ju t s k)).kids=[]
  ·have h1:=Jhc (t:=t) (s:=s) (l:=Jt R.got (Ji t s)) (got:=R.got) (λk _ h=>by rw[Pm]at h;have:=(Z6 k om).2;omega) (λk j h1 h2 h=>by rw[Pm]at h1 h2;exact DN k j om om h) n om k Au he;refine⟨_,by rw[b3];exact h1,?_⟩;rw[he];simp
  ·have h1:Jt (R.binds t s).got (Ju t s k)=Jt R.got (Ju t s k):=by
    rw[b3];refine Jcn n λk' F9 En h=>?_
    have:=DN k' k om om h;subst this;exact he En
   refine⟨_,h1.trans (hT k Au he),?_⟩;rw[JfF];have:(nd t (Ju t s k)).kids.isEmpty=false:=by cases h:(nd t (Ju t s k)).kids <;> simp_all
   rw[this,Bool.false_or]
 have hG:R.sets t s=if (R.binds t s).bad<0 then(if (Gw n).all ok=true then R.binds t s else(R.binds t s).fail s) else R.binds t s:=by unfold RS.sets;rw[CQ]
 rw[hG];clear hG CQ Ao;generalize R.binds t s=R1 at *;have eK:∀v:Nat,(nd t s).k≠v->(((nd t s).k:Int) == (v:Int))=false:=λv h=>by rw[beq_eq_false_iff_ne];omega
 refine QG (vfS c64_ok λN=>?_);simp only[go_sem,c64,hpR,Qb,Nd.cv,hk,n1,Gh];refine JW (t:=t) (of:=of) (R:=R) (X:=[.arr 5 [[.int .u8 41,S (nd t s).text,.int .i64 (n:Int),.rslc 1 (iz (nd t s).kids) none,.int .i64 (nd t s).pl]]]) 0 rfl rfl rfl ?_;simp only[go_sem,Jy,frz,JM,Kn,Ga,Gb,Gc,show ¬(0:Nat)=0+4 by decide,if_false,if_true,Gj,Gg,Gi];refine Kl (R:=R) (R':=R1) (X:=[.dead]) hB (.inl rfl) rfl rfl rfl rfl ?_;simp only[go_sem];refine Jr (I:=λσ:Nat×Bool=>σ.1<=n/\(σ.2=false->∀j,j<σ.1->ok j=true)/\(σ.2=true->R1.bad<0/\(Gw n).all ok=false)) (inv:=λσ=>mkT 212 [(0,.ptr 0 0 0),(1,.int .i64 (s:Int)),(5,.rptr [.int .u8 41,S (nd t s).text,.int .i64 (n:Int),.rslc 1 (iz (nd t s).kids) none,.int .i64 (nd t s).pl]),(9,.int .i64 (σ.1:Int))]) (hp:=λσ=>hpR t of (if σ.2=true then R1.fail s else R1) []) (μ:=λσ=>n-σ.1) (0,false) [0,1,2,3] ⟨sM,λ_ j h=>by simp only at h;omega,λh=>by cases h⟩ rfl ?_ ?_ ?_
 ·simp only[JR,Ga,Gb,ren,Jk];refine Js ?_;simp[Kh,Ko]
 ·exact KN (X:=[.dead]) rfl
 ·rintro⟨k,b⟩ ⟨h1,h2,h3⟩
  dsimp only at h1 h2 h3
  cases b with
  |true=>
   obtain⟨C8,Aj⟩:=h3 rfl;have iA:(R1.fail s).bad=(s:Int):=by unfold RS.fail;rw[if_pos C8]
   have dB:((s:Int)<0)=False:=J7;rw[if_pos C8,if_neg (by rw[Aj];decide)];by_cases Ab:k<n
   ·have d1:=dtT k n;simp only[go_sem,d1,hpR,Qb,iA,dB,if_true];exact .done (wk.refl _)
   ·have d1:=dfF k n;simp only[go_sem,d1,if_true];exact .done (wk.refl _)
  |false=>
   by_cases C8:R1.bad<0
   ·rw[if_pos C8];obtain⟨l,q1,q2,q3,q4⟩:=BU C8;have dB:(R1.bad<0)=True:=eq_true C8;by_cases Ab:k<n
    ·have d1:=dtT k n;obtain⟨x,x1,x2⟩:=q4 k Ab;obtain⟨k1,k2⟩:=Z6 k om;obtain⟨l1,l2⟩:=Z6 n om;have AL:(gz R1.got).length=t.nodes.length:=by rw[QH,q1]
     have Dz:(gz R1.got).getD (Ju t s k) []=[txV [x]]:=by rw[Qc om,x1]
     have Ps:(gz R1.got).getD (Ju t s n) []=[txV l]:=by rw[Qc om,q2]
     have z1:(txz [x]).length=1:=rfl;have z2:(txz [x]).getD 0 []=[S (tyT x)]:=rfl;have z3:(txz l).length=n:=by rw[K8,q3]
     have z4:(txz l).getD k []=[S (tyT (l.getD k .int))]:=Yi om;simp only[go_sem,d1,hpR,Qb,dB,Gt,if_false];refine JP Jm vM ?_
     cases hq:ok k with
     |true=>
      rw[hq]at x2;simp only[go_sem,Af,n2,AL,k1,l1,Dz,Ps,txV,z1,z2,z3,z4,x2,Gx]
      repeat refine And.intro (by first|omega|exact⟨om,om⟩|exact Jg) ?_
      refine⟨(k+1,false),[0,1,2,3],⟨by simp only;omega,λ_ j hj=>(by rcases Nat.lt_or_ge j k with h|h;exact h2 rfl j h;rw[show j=k by omega];exact hq),λh=>by cases h⟩,by simp only;omega,rfl,KN (R:=R1) (X:=[]) rfl,?_⟩;simp only[JR,Ga,Gb,ren,Jk];refine Js ?_;simp[Kh,Ko]
     |false=>
      rw[hq]at x2;simp only[go_sem,Af,n2,AL,k1,l1,Dz,Ps,txV,z1,z2,z3,z4,x2,GH]
      repeat refine And.intro (by first|omega|exact⟨om,om⟩|exact Jg) ?_
      refine Kl (R:=R1) (X:=[]) Jck (.inl rfl) rfl rfl rfl rfl ?_;simp only[go_sem];refine⟨Jg,(k+1,true),[0,1,2,3],⟨by simp only;omega,(λh=>by cases h),λ_=>by rw[Bool.eq_false_iff];intro h;rw[GV]at h;rw[h k (GX.2 Ab)]at hq;cases hq⟩,by simp only;omega,rfl,KN (R:=R1.fail s) (X:=[]) rfl,?_⟩;simp only[JR,Ga,Gb,ren,Jk];refine Js ?_;simp[Kh,Ko]
    ·have d1:=dfF k n;have Aj:(Gw n).all ok=true:=by rw[GV];exact λj hj=>h2 rfl j (by have:=GX.1 hj;omega)
     rw[if_pos Aj];simp only[go_sem,d1,Gt,if_false];exact .done (wk.refl _)
   ·rw[if_neg C8];have dB:(R1.bad<0)=False:=eq_false C8;by_cases Ab:k<n
    ·have d1:=dtT k n;simp only[go_sem,d1,hpR,Qb,dB,Gt,if_false];exact .done (wk.refl _)
    ·have d1:=dfF k n;simp only[go_sem,d1,Gt,if_false];exact .done (wk.refl _)
end
theorem chain_ex {α:Type}{P:Nat->α->Prop}{Q:Nat->α->α->Prop}{mm:Nat}{x0:α}(h0:P 0 x0)(hs:∀j x,j<mm->P j x->∃y,P (j+1) y/\Q j x y):∃D:Nat->α,D 0=x0/\(∀j,j<=mm->P j (D j))/\∀j,j<mm->Q j (D j) (D (j+1)):=by
 induction mm with
 |zero=>exact⟨λ_=>x0,rfl,λj hj=>by rw[Nat.le_zero.1 hj];exact h0,λj hj=>om⟩
 |succ mm ih=>
  obtain⟨D,d1,d2,d3⟩:=ih λj x hj hp=>hs j x om hp
  obtain⟨y,y1,y2⟩:=hs mm (D mm) om (d2 mm (Gq _));refine⟨λj=>if j<=mm then D j else y,by simp[d1],λj hj=>?_,λj hj=>?_⟩
  ·by_cases h:j<=mm
   ·simp only[h,if_true];exact d2 j h
   ·rw[show j=mm+1 by omega];simp only[show ¬mm+1<=mm by omega,if_false];exact y1
  ·by_cases h:j<mm
   ·simp only[show j<=mm by omega,show j+1<=mm by omega,if_true];exact d3 j h
   ·rw[show j=mm by omega];simp only[Gq,show ¬mm+1<=mm by omega,if_true,if_false];exact y2
def DnOk (t:Tr)(S:FS)(d:LH):Prop:=d.length=t.nodes.length/\(S.bad=none->d=S.dn)
def RoW (t:Tr)(o:Lu)(f:Nat):Prop:=∀S i d,FI t S->FM t o S->Ln S.got->i<t.nodes.length->PreQ t o S i->uf t S<f->DnOk t S d->∃d',DnOk t (doF t o (mnF t o) f S i) d'/\RMe Gd 34 [.int .i64 (i:Int)] t (ofL t o) (rsO t.nodes.length S d) (rsO t.nodes.length (doF t o (mnF t o) f S i) d') (.tup [])
theorem settle_rs{s:Nat}{S:FS}(hs:s<n):(rsO n S d).binds t s=rsO n (if S.bad.isSome=true then S else JS t s S) d:=by
 obtain⟨got,dn,fd,fg,bad⟩:=S
 cases bad with
 |some b=>simp[RS.binds,rsO,JdI]
 |none=>
  by_cases hl:(Jt got (Ji t s)).length=(nd t s).n.toNat
  ·simp[RS.binds,rsO,JdI,JS,hl,fgL]
  ·simp[RS.binds,rsO,JdI,JS,hl,fgL,FS.fail,RS.fail]
theorem settle_dn{s:Nat}{S:FS}:(JS t s S).dn=S.dn/\((JS t s S).bad=none->S.bad=none)/\(JS t s S).fg=S.fg:=by
 unfold JS;simp only
 split
 ·exact⟨rfl,λh=>h,rfl⟩
 ·unfold FS.fail
  split
  ·exact⟨rfl,λh=>h,rfl⟩
  ·exact⟨rfl,(λh=>by cases h),rfl⟩
section
variable(g:GoodT t o)(ht:t.Fit)
include g ht
theorem rmFind (hE:(YP t o).2=0)(ih:RoW t o f){S:FS}{s:Nat}(hI:FI t S)(hM:FM t o S)(Bd:Ln S.got)(hi:i<t.nodes.length)(hP:PreQ t o S i)(hu:uf t S<f+1)(hs:s<t.nodes.length)(BM:(nd t s).k=41)(hm:(m:Int)∈(nd t s).kids)(Dr:(nd t m).k=42)(AR:inS t o (m:Int) i)(hb:Kz S.fg s=false)(hd:DnOk t S d):∃d',DnOk t (QE t o (doF t o (mnF t o) f) s i S) d'/\RMe Gd 156 [.int .i64 (s:Int)] t (ofL t o) (rsO t.nodes.length S d) (rsO t.nodes.length (QE t o (doF t o (mnF t o) f) s i S) d') (.tup []):=by
 have Ag:=g.many;obtain⟨_,_,_,hL⟩:=KV g hs BM;generalize DC:({ S with fg:=Y7 s true S.fg }:FS)=S0;obtain⟨a,ha⟩:∃a:Nat,fs o ((Ji t s:Nat):Int)=a:=⟨(fs o ((Ji t s:Nat):Int)).toNat,by have:=(fs_le g (a:=Ji t s) om).1;omega⟩;have iN:a<=Ji t s:=by have:=(fs_le g (a:=Ji t s) om).2;omega
 generalize Dm:Ji t s+1-a=mm;have Oj:FI t S0:=by subst DC;exact⟨hI.gl,hI.dl,hI.emp,hI.unf,hI.fnd,hI.fine,hI.ini,hI.typ⟩
 have aY:FM t o S0:=by subst DC;exact hM
 have I8:Ln S0.got:=by subst DC;exact Bd
 have MM:uf t S0<f:=by subst DC;have:=uf_less hs hb;omega
 have O5:=force_pre g hi hP hs BM hm Dr AR ha;rw[DC,Dm]at O5;have FJ:=Jem (Jfc g hE f) Oj aY MM (a:=a) (m:=mm) om O5;have Ob:DnOk t S0 d:=by subst DC;exact hd
 obtain⟨D,D0,D1,D2⟩:=chain_ex (mm:=mm) (x0:=d) (P:=λj x=>DnOk t ((KC a j).foldl (doF t o (mnF t o) f) S0) x) (Q:=λj x y=>RMe Gd 34 [.int .i64 ((a+j:Nat):Int)] t (ofL t o) (rsO t.nodes.length ((KC a j).foldl (doF t o (mnF t o) f) S0) x) (rsO t.nodes.length ((KC a (j+1)).foldl (doF t o (mnF t o) f) S0) y) (.tup [])) Ob λj x hj hx=>by
  obtain⟨p1,p2,p3,p4⟩:=FJ j om;have Ia:=JbV ht (o:=o) I8 f (KC a j);have BD:(KC a (j+1)).foldl (doF t o (mnF t o) f) S0=doF t o (mnF t o) f ((KC a j).foldl (doF t o (mnF t o) f) S0) (a+j):=by rw[JaX,GM];rfl
  rw[BD];exact ih _ (a+j) x p1 p2 Ia om (O5 _ j p3 hj p4) (by rw[uf_eq p3];exact MM) hx
 have dX:=D1 mm (Gq _);obtain⟨p1,p2,p3,p4⟩:=FJ mm (Gq _);have jg:=JbV ht (o:=o) I8 f (KC a mm);have e:QE t o (doF t o (mnF t o) f) s i S=(λS1=>let S2:=if S1.bad.isSome then S1 else JS t s S1;{ S2 with fg:=Y7 s false S2.fg }) ((KC a mm).foldl (doF t o (mnF t o) f) S0):=by unfold QE;rw[if_neg (by rw[hb];decide)];simp only[ha,Gp,Dm,DC]
 rw[e];clear e;generalize iY:(KC a mm).foldl (doF t o (mnF t o) f) S0=S1 at *;have eR:rsO t.nodes.length ((λS1:FS=>let S2:=if S1.bad.isSome then S1 else JS t s S1;({ S2 with fg:=Y7 s false S2.fg }:FS)) S1) (D mm)=(rsO t.nodes.length { S1 with fg:=Y7 s false S1.fg } (D mm)).binds t s:=by
  rw[settle_rs hs];obtain⟨got,dn,fd,fg,bad⟩:=S1
  cases bad with
  |some b=>rfl
  |none=>
   by_cases hl:(Jt got (Ji t s)).length=(nd t s).n.toNat
   ·simp[rsO,JS,hl]
   ·simp[rsO,JS,hl,FS.fail]
 refine⟨D mm,⟨dX.1,λh=>?_⟩,?_⟩
 ·simp only at h|-
  cases C8:S1.bad with
  |some b=>simp[C8]at h
  |none=>simp only[C8,GI,Gt,if_false]at h|-;rw[settle_dn.1];exact dX.2 C8
 rw[eR];have hB:=rmBinds g ht (of:=ofL t o) (R:=rsO t.nodes.length { S1 with fg:=Y7 s false S1.fg } (D mm)) hs BM p1.gl jg;have Ib:=Yk g ht hs om;have dU:=Jha t (ord_take g) (Gq _) (Ji t s) om;rw[ha]at dU;generalize (rsO t.nodes.length { S1 with fg:=Y7 s false S1.fg } (D mm)).binds t s=RE at *;have EF:∀Z:FS,(bqz (fgL t.nodes.length Z)).length=t.nodes.length:=λZ=>by rw[Jcb,JhE]
 have F3:∀(Z:FS) (b:Bool),(bqz (fgL t.nodes.length Z)).set s [.bool b]=bqz (fgL t.nodes.length { Z with fg:=Y7 s b Z.fg }):=λZ b=>by rw[JhN,fgL_set]
 have Eg:∀Z:FS,(bqz (fgL t.nodes.length Z)).getD s []=[.bool ((fgL t.nodes.length Z).getD s false)]:=λZ=>Jcc (by rw[JhE];exact hs)
 refine QG (vfS c156_ok λN=>?_);simp only[go_sem,c156,hpR,Qb,rsO,EF,Eg,Gv,Gg,Gm,Gl,F3,Gc,Gf]
 repeat refine And.intro (by first|omega|exact⟨om,om⟩|exact Jg) ?_
 refine J3 Ib ?_;simp only[go_sem];refine J3 dU ?_;simp only[go_sem];have Dv:hpR t (ofL t o) (rsO t.nodes.length S0 d) []=[.arr 7 [Qb t (ofL t o) (JdI S.bad)],.arr 1 (gz S.got),.arr 1 (bqz d),.arr 1 (bqz (fgL t.nodes.length { S with fg:=Y7 s true S.fg }))]:=by subst DC;rfl
 refine Jar Dv.symm ?_;subst D0;simp only[go_sem];refine Jr (I:=λj:Nat=>j<=mm) (inv:=λj=>mkT 41 [(0,.ptr 0 0 0),(1,.int .i64 (s:Int)),(4,.int .i64 ((Ji t s:Nat):Int)),(5,.int .i64 ((a+j:Nat):Int))]) (hp:=λj=>hpR t (ofL t o) (rsO t.nodes.length ((KC a j).foldl (doF t o (mnF t o) f) S0) (D j)) []) (μ:=λj=>mm-j) 0 [0,1,2,3] om rfl ?_ ?_ ?_
 ·simp only[JR,Ga,Gb,ren,Jk];refine Js ?_;simp[Kh,Ko]
 ·exact KN (X:=[]) rfl
 ·intro j hj;by_cases Ab:j<mm
  ·have d2:(((a+j:Nat):Int)<=((Ji t s:Nat):Int))=True:=J5;simp only[go_sem,d2];refine Kl (X:=[]) (D2 j Ab) (.inl rfl) rfl rfl rfl rfl ?_;simp only[go_sem];refine⟨Jg,j+1,[0,1,2,3],om,om,rfl,KN (X:=[]) rfl,?_⟩;simp only[JR,Ga,Gb,ren,Jk];refine Js ?_;simp[Kh,Ko]
   try omega
  ·have d2:(((a+j:Nat):Int)<=((Ji t s:Nat):Int))=False:=J7;obtain rfl:j=mm:=om
   rw[iY];simp only[go_sem,d2,hpR,Qb,rsO,EF,Eg,Gv,Gg,Gm,Gl,F3,Gc,Gf]
   repeat refine And.intro (by first|omega|exact⟨om,om⟩|exact Jg) ?_
   refine Kl (R:=rsO t.nodes.length { S1 with fg:=Y7 s false S1.fg } (D j)) (X:=[]) hB (.inl rfl) rfl rfl rfl rfl ?_;simp only[go_sem];exact .done (wk.refl _)
end
theorem rs_fail {S:FS}:(rsO n S d).fail i=rsO n (S.fail i) d:=by
 obtain⟨got,dn,fd,fg,bad⟩:=S
 cases bad with
 |none=>simp[rsO,RS.fail,FS.fail,JdI,fgL]
 |some b=>
  have:¬(b:Int)<0:=om
  simp[rsO,RS.fail,FS.fail,JdI,this]
theorem rs_fin {S:FS}(hb:S.bad=none):(rsO n S d).fin i r=rsO n (S.fin i r) d:=by
 obtain⟨got,dn,fd,fg,bad⟩:=S;simp only at hb;subst hb;rcases r with _|_|⟨a,l⟩
 ·exact rs_fail
 ·simp[RS.fin,FS.fin,rsO,Qf,fgL]
 ·by_cases hf:Qf (a::l)=true
  ·simp[RS.fin,RS.give,FS.fin,rsO,fgL,hf]
  ·simp[RS.fin,RS.give,FS.fin,rsO,fgL,hf,RS.fail,FS.fail,JdI]
section
variable(g:GoodT t o)(ht:t.Fit){of:Lu}{S S':FS}
include g ht
omit ht in
theorem rmVisitNo(hi:i<t.nodes.length)(hd:d.length=t.nodes.length)(h:d.getD i false=true\/S.bad.isSome=true):RMe Gd 34 [.int .i64 (i:Int)] t of (rsO t.nodes.length S d) (rsO t.nodes.length S d) (.tup []):=by
 have Ag:=g.many;have Be:(bqz d).length=t.nodes.length:=by rw[Jcb,hd]
 have D7:=Jcc (l:=d) (i:=i) om;refine QG (vfS c34_ok λN=>?_)
 cases hc:d.getD i false with
 |true=>
  rw[hc]at D7;simp only[go_sem,c34,hpR,Qb,rsO,Be,D7,Gm,Gl]
  repeat refine And.intro (by first|omega|exact⟨om,om⟩|exact Jg) ?_
  exact .done (wk.refl _)
 |false=>
  rw[hc]at D7 h;rcases h with h|h
  ·cases h
  obtain⟨b,hb⟩:=Option.isSome_iff_exists.1 h;have d0:(0<=JdI S.bad)=True:=eq_true (by rw[hb];simp[JdI]);simp only[go_sem,c34,hpR,Qb,rsO,Be,D7,Gm,Gl,d0]
  repeat refine And.intro (by first|omega|exact⟨om,om⟩|exact Jg) ?_
  exact .done (wk.refl _)
omit ht in
theorem Jev{d1:LH}(hi:i<t.nodes.length)(hd:d.length=t.nodes.length)(aD:d1.length=t.nodes.length)(D6:d.getD i false=false)(hb:S.bad=none)(hX:(1<=(nd t i).k/\(nd t i).k<=29->RMe Gd 63 [.int .i64 (i:Int),.agg (nd t i).cv] t of (rsO t.nodes.length S d) (rsO t.nodes.length S' d1) (.tup []))/\(30<=(nd t i).k->RMe Gd 64 [.int .i64 (i:Int),.agg (nd t i).cv] t of (rsO t.nodes.length S d) (rsO t.nodes.length S' d1) (.tup []))):RMe Gd 34 [.int .i64 (i:Int)] t of (rsO t.nodes.length S d) (rsO t.nodes.length S' (d1.set i true)) (.tup []):=by
 have Ag:=g.many;have hg:=JZ hi;have Be:(bqz d).length=t.nodes.length:=by rw[Jcb,hd]
 have D7:=Jcc (l:=d) (i:=i) om;rw[D6]at D7;have Sb:(bqz d1).length=t.nodes.length:=by rw[Jcb,aD]
 have Sc:=Jcc (l:=d1) (i:=i) om;have IK:(bqz d1).set i [.bool true]=bqz (d1.set i true):=JhN;have d0:(0<=JdI S.bad)=False:=eq_false (by rw[hb];simp[JdI]);have jo:=JeG (nd t i).k;have DY:(nd t i).k≠0:=λh0=>by have hn:=g.nds (nd t i) (by unfold nd;rw[Gr,Gu hi];exact GU hi);rw[ndI_R]at hn;simp[h0,Qk]at hn
 refine QG (vfS c34_ok λN=>?_);simp only[go_sem,c34,hpR,Qb,rsO,Be,D7,Gm,Gl,d0,Ja,hg,Nd.cv]
 repeat refine And.intro (by first|omega|exact⟨om,om⟩|exact Jg) ?_
 refine JW (t:=t) (of:=of) (R:=rsO t.nodes.length S d) (X:=[.arr 5 [(nd t i).cv]]) 0 rfl rfl rfl ?_;simp only[go_sem,Jy,frz,JM,Kn,Ga,Gb,Gc,show ¬(0:Nat)=0+4 by decide,if_false,if_true,Nd.cv,Gj,Gg,Gi];refine J3 jo ?_;by_cases hk:1<=(nd t i).k/\(nd t i).k<=29
 ·have e:inN 1 29 (nd t i).k=true:=by unfold inN;simp;omega
  rw[e];simp only[go_sem];refine Kl (X:=[.dead]) (hX.1 hk) (.inl rfl) rfl rfl rfl rfl ?_;simp only[go_sem,hpR,Qb,rsO,Sb,Sc,Gv,Gg,Gm,Gl,IK,Gc,Gf]
  repeat refine And.intro (by first|omega|exact⟨om,om⟩|exact Jg) ?_
  exact .outR (t:=t) (of:=of) (R:=rsO t.nodes.length S' (d1.set i true)) (X:=[.dead]) (wk.refl _) rfl
 ·have e:inN 1 29 (nd t i).k=false:=by unfold inN;simp;omega
  rw[e];simp only[go_sem];refine Kl (X:=[.dead]) (hX.2 om) (.inl rfl) rfl rfl rfl rfl ?_;simp only[go_sem,hpR,Qb,rsO,Sb,Sc,Gv,Gg,Gm,Gl,IK,Gc,Gf]
  repeat refine And.intro (by first|omega|exact⟨om,om⟩|exact Jg) ?_
  exact .outR (t:=t) (of:=of) (R:=rsO t.nodes.length S' (d1.set i true)) (X:=[.dead]) (wk.refl _) rfl
end
theorem Je0 {S:FS}{l:TL}(hb:S.bad=none)(h:l=[]->Jt S.got i=[]):(rsO n S d).give i true l=rsO n (S.fin i (some l)) d:=by
 rw[<-rs_fin hb]
 cases l with
 |nil=>exact give_nil (h rfl)
 |cons a l=>rfl
theorem force_fd{go:FS->Nat->FS}{S:FS}{s:Nat}(hb:Kz S.fg s=false)(h:(QE t o go s i S).bad=none):Kz (QE t o go s i S).fd s=true:=by
 unfold QE at h|-;rw[if_neg (by rw[hb];decide)]at h|-;simp only at h|-;generalize List.foldl go _ _=S1 at h|-
 cases h1:S1.bad with
 |some b=>simp[h1]at h
 |none=>
  simp only[h1,GI,Gt,if_false]at h|-;unfold JS at h|-;simp only at h|-
  split at h
  ·rename_i hl;rw[if_pos hl];simp[Xr]
  ·simp[FS.fail,h1]at h
section
variable(g:GoodT t o)(ht:t.Fit)
include g ht
theorem rmName (hE:(YP t o).2=0)(ih:RoW t o f){Z:FS}(hI:FI t Z)(hM:FM t o Z)(Bd:Ln Z.got)(hi:i<t.nodes.length)(h3:(nd t i).k=3)(hP:PreQ t o Z i)(hu:uf t Z<f+1)(BU:Z.bad=none)(D6:Z.dn.getD i false=false)(hd:DnOk t Z d):∃d',DnOk t (Jam t o (doF t o (mnF t o) f) (mnF t o i) i Z).1 d'/\RMe Gd 106 [.int .i64 (i:Int)] t (ofL t o) (rsO t.nodes.length Z d) (rsO t.nodes.length ((Jam t o (doF t o (mnF t o) f) (mnF t o i) i Z).1.fin i (Jam t o (doF t o (mnF t o) f) (mnF t o i) i Z).2) d') (.tup []):=by
 have Ag:=g.many;obtain⟨m,hm⟩:∃m:Nat,J2 t o i=m:=by obtain⟨FX,Cc,Mr,_,MV⟩:=Jba g hE hi h3;exact⟨(J2 t o i).toNat,om⟩
 have Dm:mnF t o i=m:=by unfold mnF;rw[hm];rfl
 rw[Dm];obtain⟨Ch,AR,Dt⟩:=JeS g hE hi h3 hm;have CK:(iz (ofL t o)).getD i []=[.int .i64 (m:Int)]:=by rw[JF (by rw[QL];exact hi),JeO hi,hm]
 have Bj:(iz (ofL t o)).length=t.nodes.length:=by rw[Jf,QL]
 have hg:=JZ Ch;have Ca:=Ym g Ch;have Aq:(iz (nd t m).kids).length=(nd t m).kids.length:=Jf;have DY:0<(nd t m).kids.length->(iz (nd t m).kids).getD 0 []=[.int .i64 (Ju t m 0:Int)]:=λh=>by rw[JF h,JE g Ch h]
 have g1:(gz Z.got).length=t.nodes.length:=by rw[QH,hI.gl]
 have g2:(gz Z.got).getD m []=[txV (Jt Z.got m)]:=Qc (by rw[hI.gl];exact Ch);have dB:(JdI Z.bad<0)=True:=eq_true (by rw[BU];simp[JdI]);have UD:Jt Z.got i=[]:=hI.emp i D6 (λh=>by have:=h.1;omega);have bi:=YG (t:=t) (of:=ofL t o) (R:=rsO t.nodes.length Z d) (b:=true) (l:=Jt Z.got m) hi hI.gl (by have:=Bd m;omega) (λa ha=>by have:=Yt (hI.fine m) ha;omega);rw[Je0 BU (λ_=>UD)]at bi;unfold Jam;rcases Dt with h|h|h|⟨h,s,k,s1,s2,s3,s4,s5,s6⟩
 ·rw[if_pos h];have Da:=YG (t:=t) (of:=ofL t o) (R:=rsO t.nodes.length Z d) (b:=true) (l:=[TyX.int]) hi hI.gl sM (λa ha=>by rw[Gs.1 ha];decide);rw[Je0 BU (λh=>by cases h)]at Da;refine⟨d,hd,?_⟩;refine QG (vfS c106_ok λN=>?_);simp -implicitDefEqProofs only[c106,go_sem,hpR,Qb,rsO,CK,Bj,Ja,hg,Nd.cv,h,Gh]
  repeat refine And.intro (by first|omega|exact⟨om,om⟩|exact Jg) ?_
  refine JW (t:=t) (of:=ofL t o) (R:=rsO t.nodes.length Z d) (X:=[_,.arr 1 [[S [105,110,116]]]]) 1 rfl rfl rfl ?_;simp -implicitDefEqProofs only[go_sem,Jy,frz,JM,Kn,Ga,Gb,Gc,Gf,GK,GD,Gg,Gi,if_true,show ¬(4:Nat)=1+4 by decide,if_false];refine Kl (R:=rsO t.nodes.length Z d) (X:=[_,.dead]) Da (.inl rfl) rfl rfl rfl rfl ?_;simp -implicitDefEqProofs only[go_sem];exact .outR (t:=t) (of:=ofL t o) (R:=rsO t.nodes.length (Z.fin i (some [TyX.int])) d) (wk.refl _) rfl
 ·rw[iN7,if_pos (.inl h)];obtain⟨w1,w2,w3,w4⟩:=Ca (.inr (.inl om));have hT:=YH g ht (Ju t m 0) om w3 w4;have Uu:=XW (t:=t) (i:=Ju t m 0) om;have Da:=YG (t:=t) (of:=ofL t o) (R:=rsO t.nodes.length Z d) (b:=true) (l:=[tyN t (Ju t m 0)]) hi hI.gl sM (λa ha=>by rw[Gs.1 ha];omega);rw[Je0 BU (λh=>by cases h)]at Da;have d0:((0:Int)<((nd t m).kids.length:Int))=True:=J5;refine⟨d,hd,?_⟩;refine QG (vfS c106_ok λN=>?_);simp -implicitDefEqProofs only[c106,go_sem,hpR,Qb,rsO,CK,Bj,Ja,hg,Nd.cv,h,Gh,Aq,d0]
  repeat refine And.intro (by first|omega|exact⟨om,om⟩|exact Jg) ?_
  refine JW (t:=t) (of:=ofL t o) (R:=rsO t.nodes.length Z d) (X:=[.arr 5 [[.int .u8 64,S (nd t m).text,.int .i64 (nd t m).n,.rslc 1 (iz (nd t m).kids) none,.int .i64 (nd t m).pl]]]) 0 rfl rfl rfl ?_;simp -implicitDefEqProofs only[go_sem,hpR,Qb,rsO,Jy,frz,JM,Kn,Ga,Gb,Gc,Gf,show ¬(0:Nat)=0+4 by decide,if_false,if_true,Nd.cv,Gj,Gg,Gi];refine JJ [0,0,0,0,0,4,0,0,0,0,0,0,2] Jm vM ?_;simp -implicitDefEqProofs only[go_sem,Aq,DY w1]
  repeat refine And.intro (by first|omega|exact⟨om,om⟩|exact Jg) ?_
  refine JdL (.inl rfl) hT ?_;simp -implicitDefEqProofs only[go_sem];refine YC [[S (tyT (tyN t (Ju t m 0)))]] (.inl rfl) rfl rfl rfl rfl ?_;simp -implicitDefEqProofs only[go_sem];refine Jaq (.inl rfl) (Da.on (X:=[.dead]) rfl rfl) ?_;simp -implicitDefEqProofs only[go_sem];exact .outR (t:=t) (of:=ofL t o) (R:=rsO t.nodes.length (Z.fin i (some [tyN t (Ju t m 0)])) d) (wk.refl _) rfl
 ·rw[iN7,iN7,iN7];refine⟨d,hd,?_⟩;refine QG (vfS c106_ok λN=>?_);simp -implicitDefEqProofs only[c106,go_sem,hpR,Qb,rsO,CK,Bj,Ja,hg,Nd.cv,h,Gh,Aq,dB,g1,g2]
  repeat refine And.intro (by first|omega|exact⟨om,om⟩|exact Jg) ?_
  refine Kl (R:=rsO t.nodes.length Z d) (X:=[_]) bi (.inl rfl) rfl rfl rfl rfl ?_;simp -implicitDefEqProofs only[go_sem];exact .outR (t:=t) (of:=ofL t o) (R:=rsO t.nodes.length (Z.fin i (some (Jt Z.got m))) d) (wk.refl _) rfl
 ·rw[iN7];by_cases hn:(nd t m).kids=[]
  ·rw[if_neg (by rintro(h2|⟨_,h2⟩);omega;exact h2 hn)];have A8:(nd t m).kids.length=0:=by rw[hn];rfl
   have d0:((0:Int)<((0:Nat):Int))=False:=eq_false vk;rw[s1,Gp];have Bn:(txz (Jt Z.got m)).length=(Jt Z.got m).length:=K8
   cases hb:Kz Z.fd s with
   |true=>
    rw[if_neg sM];obtain⟨_,_,_,au⟩:=hI.fnd s hb;have M7:(Jt Z.got m).length=1:=by have:=au k s5 (by rw[s6];exact hn);rw[s6]at this;rw[this];rfl
    have dL:(((Jt Z.got m).length:Int) == 0)=false:=by rw[M7];rfl
    refine⟨d,hd,?_⟩;refine QG (vfS c106_ok λN=>?_);simp -implicitDefEqProofs only[c106,go_sem,hpR,Qb,rsO,CK,Bj,Ja,hg,Nd.cv,h,Gh,Aq,A8,d0,txV,Bn,dL,dB,g1,g2]
    repeat refine And.intro (by first|omega|exact⟨om,om⟩|exact Jg) ?_
    refine Kl (R:=rsO t.nodes.length Z d) (X:=[_]) bi (.inl rfl) rfl rfl rfl rfl ?_;simp -implicitDefEqProofs only[go_sem];exact .outR (t:=t) (of:=ofL t o) (R:=rsO t.nodes.length (Z.fin i (some (Jt Z.got m))) d) (wk.refl _) rfl
   |false=>
    rw[if_pos ⟨h,rfl⟩];have M7:Jt Z.got m=[]:=by have:=hI.unf s s2 s3 hb k s5 (by rw[s6];exact hn);rwa [s6]at this
    have PN:(txz (Jt Z.got m)).length=0:=by rw[M7];rfl
    have dL:(((0:Nat):Int) == 0)=true:=rfl;have aW:=Ja2 g ht Ch;rw[s1]at aW;have EF:(bqz (fgL t.nodes.length Z)).length=t.nodes.length:=by rw[Jcb,JhE]
    have Eg:(bqz (fgL t.nodes.length Z)).getD s []=[.bool (Kz Z.fg s)]:=by rw[Jcc (by rw[JhE];exact s2),fgL_get s2]
    cases F3:Kz Z.fg s with
    |true=>
     rw[F3]at Eg;have e:QE t o (doF t o (mnF t o) f) s i Z=Z.fail i:=by unfold QE;rw[if_pos F3]
     rw[e];have e2:(Z.fail i).bad=some i:=by unfold FS.fail;rw[BU];rfl
     have e3:(Z.fail i).fin i (some (Jt (Z.fail i).got m))=Z.fail i:=by unfold FS.fin;simp only;rw[e2];rfl
     simp only;rw[e3];refine⟨d,⟨hd.1,λh=>by rw[e2]at h;cases h⟩,?_⟩;refine QG (vfS c106_ok λN=>?_);simp -implicitDefEqProofs only[c106,go_sem,hpR,Qb,rsO,CK,Bj,Ja,hg,Nd.cv,h,Gh,Aq,A8,d0,txV,PN,dL,g1,g2]
     repeat refine And.intro (by first|omega|exact⟨om,om⟩|exact Jg) ?_
     refine J3 aW ?_;simp -implicitDefEqProofs only[go_sem,EF,Eg]
     repeat refine And.intro (by first|omega|exact⟨om,om⟩|exact Jg) ?_
     have dS:=Jck (t:=t) (of:=ofL t o) (R:=rsO t.nodes.length Z d) (i:=i);rw[rs_fail]at dS;refine Kl (R:=rsO t.nodes.length Z d) (X:=[_]) dS (.inl rfl) rfl rfl rfl rfl ?_;simp -implicitDefEqProofs only[go_sem];exact .outR (t:=t) (of:=ofL t o) (R:=rsO t.nodes.length (Z.fail i) d) (wk.refl _) rfl
    |false=>
     rw[F3]at Eg;obtain⟨d',p1,p2⟩:=rmFind g ht hE ih hI hM Bd hi hP hu s2 s3 s4 h AR F3 hd;obtain⟨f1,_⟩:=Jd3 g (Jfc g hE f) hI hM hi hP hu s2 s3 s4 h AR;have R5:=force_fd (t:=t) (o:=o) (go:=doF t o (mnF t o) f) (s:=s) (i:=i) F3;generalize QE t o (doF t o (mnF t o) f) s i Z=SF at *;simp only;have g3:(gz SF.got).length=t.nodes.length:=by rw[QH,f1.gl]
     have g4:(gz SF.got).getD m []=[txV (Jt SF.got m)]:=Qc (by rw[f1.gl];exact Ch);refine⟨d',p1,?_⟩;refine QG (vfS c106_ok λN=>?_);simp -implicitDefEqProofs only[c106,go_sem,hpR,Qb,rsO,CK,Bj,Ja,hg,Nd.cv,h,Gh,Aq,A8,d0,txV,PN,dL,g1,g2]
     repeat refine And.intro (by first|omega|exact⟨om,om⟩|exact Jg) ?_
     refine J3 aW ?_;simp -implicitDefEqProofs only[go_sem,EF,Eg]
     repeat refine And.intro (by first|omega|exact⟨om,om⟩|exact Jg) ?_
     refine Kl (R:=rsO t.nodes.length Z d) (X:=[_]) p2 (.inl rfl) rfl rfl rfl rfl ?_
     cases BX:SF.bad with
     |some b=>
      have dB2:(JdI SF.bad<0)=False:=eq_false (by rw[BX];simp[JdI]);have e3:SF.fin i (some (Jt SF.got m))=SF:=by unfold FS.fin;simp only;rw[BX];rfl
      simp -implicitDefEqProofs only[go_sem,hpR,Qb,rsO,dB2,e3];exact .outR (t:=t) (of:=ofL t o) (R:=rsO t.nodes.length SF d') (X:=[_]) (wk.refl _) rfl
     |none=>
      have dB2:(JdI SF.bad<0)=True:=eq_true (by rw[BX];simp[JdI]);obtain⟨_,_,_,au⟩:=f1.fnd s (R5 BX);have OU:=au k s5 (by rw[s6];exact hn);rw[s6]at OU;have PE:=YG (t:=t) (of:=ofL t o) (R:=rsO t.nodes.length SF d') (b:=true) (l:=Jt SF.got m) hi f1.gl (by rw[OU];simp) (λa ha=>by have:=Yt (f1.fine m) ha;omega);rw[Je0 BX (λe=>by rw[OU]at e;cases e)]at PE;simp -implicitDefEqProofs only[go_sem,hpR,Qb,rsO,dB2,g3,g4]
      repeat refine And.intro (by first|omega|exact⟨om,om⟩|exact Jg) ?_
      refine Kl (R:=rsO t.nodes.length SF d') (X:=[_]) PE (.inl rfl) rfl rfl rfl rfl ?_;simp -implicitDefEqProofs only[go_sem];exact .outR (t:=t) (of:=ofL t o) (R:=rsO t.nodes.length (SF.fin i (some (Jt SF.got m))) d') (wk.refl _) rfl
  ·rw[if_pos (.inr ⟨h,hn⟩)];obtain⟨w1,w2,w3,w4⟩:=Ca (.inr (.inr ⟨h,hn⟩));have hT:=YH g ht (Ju t m 0) om w3 w4;have Uu:=XW (t:=t) (i:=Ju t m 0) om;have Da:=YG (t:=t) (of:=ofL t o) (R:=rsO t.nodes.length Z d) (b:=true) (l:=[tyN t (Ju t m 0)]) hi hI.gl sM (λa ha=>by rw[Gs.1 ha];omega);rw[Je0 BU (λh=>by cases h)]at Da;have d0:((0:Int)<((nd t m).kids.length:Int))=True:=J5;refine⟨d,hd,?_⟩;refine QG (vfS c106_ok λN=>?_);simp -implicitDefEqProofs only[c106,go_sem,hpR,Qb,rsO,CK,Bj,Ja,hg,Nd.cv,h,Gh,Aq,d0]
   repeat refine And.intro (by first|omega|exact⟨om,om⟩|exact Jg) ?_
   refine JW (t:=t) (of:=ofL t o) (R:=rsO t.nodes.length Z d) (X:=[.arr 5 [[.int .u8 42,S (nd t m).text,.int .i64 (nd t m).n,.rslc 1 (iz (nd t m).kids) none,.int .i64 (nd t m).pl]]]) 0 rfl rfl rfl ?_;simp -implicitDefEqProofs only[go_sem,hpR,Qb,rsO,Jy,frz,JM,Kn,Ga,Gb,Gc,Gf,show ¬(0:Nat)=0+4 by decide,if_false,if_true,Nd.cv,Gj,Gg,Gi];refine JJ [0,0,0,0,0,4,0,0,0,0,0,0,2] Jm vM ?_;simp -implicitDefEqProofs only[go_sem,Aq,DY w1]
   repeat refine And.intro (by first|omega|exact⟨om,om⟩|exact Jg) ?_
   refine JdL (.inl rfl) hT ?_;simp -implicitDefEqProofs only[go_sem];refine YC [[S (tyT (tyN t (Ju t m 0)))]] (.inl rfl) rfl rfl rfl rfl ?_;simp -implicitDefEqProofs only[go_sem];refine Jaq (.inl rfl) (Da.on (X:=[.dead]) rfl rfl) ?_;simp -implicitDefEqProofs only[go_sem];exact .outR (t:=t) (of:=ofL t o) (R:=rsO t.nodes.length (Z.fin i (some [tyN t (Ju t m 0)])) d) (wk.refl _) rfl
end
section
variable(g:GoodT t o){of:Lu}{R':RS}
include g
theorem rmExpr3(hi:i<t.nodes.length)(kk:(nd t i).k=3)(h:RMe Gd 106 [.int .i64 (i:Int)] t of R R' (.tup [])):RMe Gd 63 [.int .i64 (i:Int),.agg (nd t i).cv] t of R R' (.tup []):=by have Ag:=g.many;have Af:(iz (nd t i).kids).length=(nd t i).kids.length:=Jf;have A8:(nd t i).kids.length=0:=kids_none g hi (.inr (.inr kk));obtain⟨c,Fb⟩:=JeD none (by simp[opT]);have d00:((0:Int)<((0:Nat):Int))=False:=eq_false vk;have d10:((1:Int)<((0:Nat):Int))=False:=eq_false vk;refine QG (vfS c63_ok λN=>?_);simp -implicitDefEqProofs only[go_sem,Af,A8,d00,d10,c63,hpR,Qb,Nd.cv];refine JW (t:=t) (of:=of) (R:=R) (X:=[.arr 5 [(nd t i).cv]]) 0 rfl rfl rfl ?_;simp -implicitDefEqProofs only[go_sem,Jy,frz,JM,Kn,Ga,Gb,Gc,Gf,hpR,Qb,show ¬(0:Nat)=0+4 by decide,if_false,if_true,Nd.cv,Gj,Gg,Gi];refine J3 Fb ?_;simp -implicitDefEqProofs only[go_sem,kk,Gh];refine Kl (R:=R) (X:=[.dead]) h (.inl rfl) rfl rfl rfl rfl ?_;simp -implicitDefEqProofs only[go_sem];exact .outR (wk.refl _) rfl
end
theorem putB_same{s:Nat}{l:TL}{got:List TL}:∀m,(∀k,k<m->(nd t (Ju t s k)).kids=[]->Jt got (Ju t s k)=[l.getD k .int]/\Ju t s k<got.length)->Yg t s l got m=got
 |0,_=>rfl
 |m+1,h=>by
  have ih:=putB_same m λk hk=>h k om
  unfold Yg;rw[ih]
  split
  ·rename_i he;obtain⟨h1,h2⟩:=h m om he;refine GA sM λj q1 q2=>?_
   rw[GR]
   split
   ·rename_i e;subst e;unfold Jt at h1;rw[Gr,Gu h2]at h1;exact h1.symm
   ·rfl
  ·rfl
theorem sets_rs{s:Nat}{Z:FS}(hI:FI t Z)(hb:Z.bad=none)(hs:s<t.nodes.length)(hk:(nd t s).k=41)(Bh:∀k,k<nB t s->Ju t s k<t.nodes.length)(BD:s<n):(rsO n Z d).sets t s=rsO n ((JaN t s Z).fin s (if Yf t s (Jt (JaN t s Z).got (Ji t s))=true then some [] else none)) d:=by
 have e:(rsO n Z d).binds t s=rsO n (JaN t s Z) d:=by
  rw[settle_rs BD,hb,if_neg vk];unfold JaN
  cases hf:Kz Z.fd s with
  |false=>rw[if_neg vk]
  |true=>
   rw[if_pos rfl];obtain⟨_,_,q3,q4⟩:=hI.fnd s hf;unfold nB at q3;unfold JS;simp only;rw[if_pos q3];have:Yg t s (Jt Z.got (Ji t s)) Z.got (nd t s).n.toNat=Z.got:=putB_same _ λk Au he=>⟨q4 k Au he,by rw[hI.gl];exact Bh k Au⟩
   rw[this];simp[rsO,hb,fgL]
 unfold RS.sets;rw[e];generalize JaN t s Z=Y;obtain⟨got,dn,fd,fg,bad⟩:=Y
 cases bad with
 |some b=>
  have hn:¬(rsO n (⟨got,dn,fd,fg,some b⟩:FS) d).bad<0:=by simp[rsO,JdI]
  rw[if_neg hn]
  cases CQ:Yf t s (Jt got (Ji t s)) <;> simp[FS.fin,FS.fail,CQ]
 |none=>cases CQ:Yf t s (Jt got (Ji t s)) <;> simp[rsO,JdI,FS.fin,FS.fail,RS.fail,Qf,CQ,fgL]
theorem JhD{Y:FS}(h:DnOk t Y d):DnOk t (Y.fin i r) (d.set i true):=by
 refine⟨by rw[List.length_set];exact h.1,λhb=>?_⟩
 cases hY:Y.bad with
 |some b=>rw[(Je6 (by rw[hY];rfl)).1,hY]at hb;cases hb
 |none=>
  have h2:=h.2 hY
  cases r with
  |none=>simp[FS.fin,FS.fail,hY]at hb
  |some l=>
   unfold FS.fin at hb|-;simp only[hY,GI,Gt,if_false]at hb|-;by_cases hf:Qf l=true
   ·rw[if_pos hf];simp only;rw[h2]
   ·rw[if_neg hf]at hb;simp[FS.fail,hY]at hb
section
variable(g:GoodT t o)(ht:t.Fit)
include g ht
theorem lawRo (hE:(YP t o).2=0):∀f,RoW t o f
 |0=>λ_ _ _ _ _ _ _ _ hu _=>absurd hu om
 |f+1=>λZ i d hI hM Bd hi hP hu hd=>by
  have ih:=lawRo hE f;by_cases Pz:Z.bad.isSome=true
  ·rw[doF_bad Pz];exact⟨d,hd,rmVisitNo g hi hd.1 (.inr Pz)⟩
  have hb:Z.bad=none:=by cases h:Z.bad with
   |none=>rfl
   |some b=>rw[h]at Pz;exact absurd rfl Pz
  have Us:=hd.2 hb
  cases D6:Z.dn.getD i false with
  |true=>
   have e:doF t o (mnF t o) (f+1) Z i=Z:=by rw[doF,if_pos (by rw[D6,Bool.or_true])]
   rw[e];exact⟨d,hd,rmVisitNo g hi hd.1 (.inl (by rw[Us];exact D6))⟩
  |false=>
   have Fa:d.getD i false=false:=by rw[Us];exact D6
   have DY:(nd t i).k≠0:=λh0=>by have hn:=g.nds (nd t i) (by unfold nd;rw[Gr,Gu hi];exact GU hi);rw[ndI_R]at hn;simp[h0,Qk]at hn
   by_cases h3:(nd t i).k=3
   ·obtain⟨d1,e1,e2⟩:=rmName g ht hE ih hI hM Bd hi h3 hP hu hb D6 hd;have e:doF t o (mnF t o) (f+1) Z i=(Jam t o (doF t o (mnF t o) f) (mnF t o i) i Z).1.fin i (Jam t o (doF t o (mnF t o) f) (mnF t o i) i Z).2:=by rw[doF,if_neg (by rw[hb,D6];decide),if_pos h3]
    rw[e];exact⟨d1.set i true,JhD e1,Jev g hi hd.1 e1.1 Fa hb ⟨λ_=>rmExpr3 g hi h3 e2,λh=>absurd h om⟩⟩
   by_cases BC:(nd t i).k=41
   ·have e:doF t o (mnF t o) (f+1) Z i=(JaN t i Z).fin i (if Yf t i (Jt (JaN t i Z).got (Ji t i))=true then some [] else none):=by rw[doF,if_neg (by rw[hb,D6];decide),iN7,if_pos BC]
    rw[e];obtain⟨b1,b2,b3,b4⟩:=KV g hi BC;have Bh:∀k,k<nB t i->Ju t i k<t.nodes.length:=λk hk=>by have:=(b2 k hk).2;omega
    have hS:=rmSet g ht (of:=ofL t o) (R:=rsO t.nodes.length Z d) hi BC hI.gl Bd λk hk Ai=>hI.typ (Ju t i k) (Bh k hk) ((hP hb).1 _ (Jz g hi (i:=k) om).1) (b2 k hk).1 Ai
    rw[sets_rs hI hb hi BC Bh hi]at hS;have IK:DnOk t (JaN t i Z) d:=by
     refine⟨hd.1,λh=>?_⟩;unfold JaN
     split
     ·exact Us
     ·rw[settle_dn.1];exact Us
    exact⟨d.set i true,JhD IK,Jev g hi hd.1 hd.1 Fa hb ⟨λh=>absurd h om,λ_=>hS⟩⟩
   have e:doF t o (mnF t o) (f+1) Z i=Z.fin i (Qh t (mnF t o i) Z.got i):=by rw[doF,if_neg (by rw[hb,D6];decide),if_neg h3,if_neg BC]
   rw[e];have Db:(nd t i).k=26->(ofL t o).getD i 0=(mnF t o i:Int)/\mnF t o i<t.nodes.length/\(nd t (mnF t o i)).k=65:=λhk=>by obtain⟨h1,h2,h3⟩:=JdX g hE hi (by simp[KH,hk]);exact⟨h1,h2,h3 hk⟩
   have BB:(nd t i).k=44->(ofL t o).getD i 0=(mnF t o i:Int)/\mnF t o i<t.nodes.length/\(Jt Z.got (mnF t o i)).length=1:=λhk=>by
    obtain⟨h1,h2,_⟩:=JdX g hE hi (by simp[KH,hk]);have hm:J2 t o i=(mnF t o i:Int):=(JeO hi).symm.trans h1;obtain⟨Ch,_,BR,CU⟩:=(meanX_iff g (Jd6 hE) hi hk).1 hm;obtain⟨u,u1,u2,u3,u4⟩:=QO g Ch om;obtain⟨u',v1,v2,v3,v4⟩:=QO g hi om;obtain rfl:u=u':=om
    have Z8:=init_loop g u2 u4 BR;refine⟨h1,h2,hI.ini _ Ch ((hP hb).2 _ Ch BR (Jb3 g u2 Z8 u4 BR v4 om) ?_) BR⟩;rw[u1,Gp];exact Qz g u2 v4
   have h0:¬JaH t i->Jt Z.got i=[]:=λh=>hI.emp i D6 h
   refine⟨d.set i true,JhD hd,Jev g hi hd.1 hd.1 Fa hb ⟨λh=>?_,λh=>?_⟩⟩
   ·have UD:=h0 λhq=>by have:=hq.1;omega
    by_cases jH:(nd t i).k<=24
    ·have:=rmExpr1 g ht (of:=ofL t o) (R:=rsO t.nodes.length Z d) (m:=mnF t o i) hi ⟨h.1,jH⟩ h3 hI.gl hI.fine;rw[Jfr UD,rs_fin hb]at this;exact this
    ·have:=rmExpr2 g ht (of:=ofL t o) (R:=rsO t.nodes.length Z d) (m:=mnF t o i) hi ⟨om,h.2⟩ QL Db hI.gl Bd hI.fine;rw[Jfr UD,rs_fin hb]at this;exact this
   ·have:=rmOther g ht (of:=ofL t o) (R:=rsO t.nodes.length Z d) (m:=mnF t o i) hi ⟨h,BC⟩ QL BB hI.gl Bd hI.fine λhk=>h0 λhq=>hk hq.1
    rw[rs_fin hb]at this;exact this
end
def infV (t:Tr)(o:Lu):CV:=if (YP t o).2≠0 then .tup [.rslc 1 [] none,.int .i64 ((YP t o).1:Int),.int .i64 (YP t o).2] else match (Kw t o).bad with
 |some i=>.tup [.rslc 1 [] none,.int .i64 (i:Int),.int .i64 11]
 |none=>.tup [.rslc 1 (gz (Kw t o).got) none,.int .i64 0,.int .i64 0]
section
variable(g:GoodT t o)(ht:t.Fit)
include g ht
theorem refInfer4:Fn Gd 10 [t.cv] (infV t o):=by
 have Ag:=g.many;have hR:=refResolve g ht;rw[<-res_eq g]at hR;refine fn_fnl (vfS c10_ok λN=>?_) rfl (by unfold infV;split;rfl;split <;> rfl);simp -implicitDefEqProofs only[c10,go_sem,Tr.cv,Tr.row];refine J3 hR ?_;by_cases hE:(YP t o).2=0
 case neg=>
  have e0:((YP t o).2 != 0)=true:=by simpa using hE
  rw[if_neg hE];unfold infV;rw[if_pos hE];simp -implicitDefEqProofs only[go_sem,e0];exact .frz 1 1 [] rfl rfl (.drop rfl (wk.refl _))
 have e0:((0:Int) != 0)=false:=rfl;rw[if_pos hE];simp -implicitDefEqProofs only[go_sem,Ja,e0];refine Je (id:=0) (z:=2) (els:=[t.row]) rfl rfl ?_;simp -implicitDefEqProofs only[go_sem,Tr.row];refine vr_ren [] rfl ?_;simp -implicitDefEqProofs only[go_sem];refine vr_pads 4 rfl ?_;simp -implicitDefEqProofs only[go_sem];refine Jar (H':=[.dead,.dead,.dead,.dead]) rfl ?_;simp -implicitDefEqProofs only[go_sem];have FW:∀(ρ:Lx) (id i n:Nat),Jk id ρ 0=some i->ren ρ (.slc id 0 n (some n))=.slc i 0 n (some n):=λρ id i n h=>by simp only[ren,h]
 have RA:∀(ρ:Lx) (id i:Nat),Jk id ρ 0=some i->ren ρ (.ptr id 0 0)=.ptr i 0 0:=λρ id i h=>by simp only[ren,h]
 have MF:∀b:Int,0<=b->b<=24->(Cond.and (.ile 0 (t.nodes.length:Int)) (.and (.ile (t.nodes.length:Int) (t.nodes.length:Int)) (.and (.ile (t.nodes.length:Int) 281474976710656) (.ile (b*(t.nodes.length:Int)) 281474976710656)))).holds:=λb h1 h2=>by
  refine⟨?_,?_,?_,?_⟩
  ·show (0:Int)<=_;omega
  ·show (t.nodes.length:Int)<=_;omega
  ·show (t.nodes.length:Int)<=_;omega
  ·show b*(t.nodes.length:Int)<=_;have:=Int.mul_le_mul h2 (show (t.nodes.length:Int)<=700 by omega) om om;omega
 have Io:∀(m:Nat) (c:CV),refs c=[]->JeA (.arr 1 (Gn m [c]))=[]:=λm c h=>by simp[JeA,JeB,h,List.flatMap_replicate]
 refine vr_dregZ 0 [(0,[]),(0,[]),(0,[]),(2,[]),(0,[]),(3,[]),(0,[]),(4,[]),(0,[1,2,3]),(1,[1,2,3]),(0,[0])] Jm vM (NoD.none rfl rfl) ?_;refine YB rfl rfl (Nat.le_of_ble_eq_true rfl) rfl sM ?_;simp -implicitDefEqProofs only[go_sem];refine YB rfl rfl trivial rfl sM ?_;simp -implicitDefEqProofs only[go_sem];refine YB rfl rfl trivial rfl sM ?_;simp -implicitDefEqProofs only[go_sem];refine JaK 1 (λid=>.slc id 0 t.nodes.length (some t.nodes.length)) (.arr 1 (Gn t.nodes.length [.nils])) rfl (λ_=>rfl) (MF 24 vk vk) (λ_ _ _ h=>FW _ _ _ _ h) rfl rfl rfl vk vk (Io _ _ rfl) sM ?_;simp -implicitDefEqProofs only[go_sem,Gc,Gf];refine YB rfl rfl trivial rfl sM ?_;simp -implicitDefEqProofs only[go_sem];refine JaK 2 (λid=>.slc id 0 t.nodes.length (some t.nodes.length)) (.arr 1 (Gn t.nodes.length [.bool false])) rfl (λ_=>rfl) (MF 1 vk vk) (λ_ _ _ h=>FW _ _ _ _ h) rfl rfl rfl vk vk (Io _ _ rfl) sM ?_;simp -implicitDefEqProofs only[go_sem,Gc,Gf];refine YB rfl rfl trivial rfl sM ?_;simp -implicitDefEqProofs only[go_sem];refine JaK 3 (λid=>.slc id 0 t.nodes.length (some t.nodes.length)) (.arr 1 (Gn t.nodes.length [.bool false])) rfl (λ_=>rfl) (MF 1 vk vk) (λ_ _ _ h=>FW _ _ _ _ h) rfl rfl rfl vk vk (Io _ _ rfl) sM ?_;simp -implicitDefEqProofs only[go_sem,Gc,Gf];have AR:∀(H:Lt) (i:Nat),(∃ob,H[i]? = some ob/\ob.alive=true)->okId H 0 i:=λH i ⟨ob,h1,h2⟩=>⟨(List.getElem?_eq_some_iff.1 h1).1,λhd=>by rw[hd]at h1;cases h1;cases h2⟩
 refine YB rfl rfl trivial rfl (by intro i hi;simp only[GY,GN,or_false]at hi;rcases hi with rfl|rfl|rfl <;> exact AR _ _ ⟨_,rfl,rfl⟩) ?_
 simp -implicitDefEqProofs only[go_sem];refine JaK 0 (λid=>.ptr id 0 0) (.arr 7 [Qb t (ofL t o) (-1)]) rfl (λ_=>rfl) trivial (λ_ _ _ h=>RA _ _ _ h) rfl rfl rfl vk vk rfl (by intro i hi;simp only[GY,GN,or_false]at hi;rcases hi with rfl|rfl|rfl <;> exact AR _ _ ⟨_,rfl,rfl⟩) ?_
 simp -implicitDefEqProofs only[go_sem,Gc,Gf];refine YB rfl rfl trivial rfl (by intro i hi;rw[Gs]at hi;subst hi;exact AR _ _ ⟨_,rfl,rfl⟩) ?_
 simp -implicitDefEqProofs only[vdz,go_sem,JM,frz,ren,JG,Gc,Gf,Gj,Gg,Nat.reduceEqDiff,if_true,if_false];refine vr_wkE (i:=1) (z:=1) (els':=gz (Gn t.nodes.length [])) rfl (by simp[gz]) (λj a b h1 h2=>?_) ?_
 ·rw[Gy]at h1;simp only[gz,List.map_replicate,Gy]at h2
  split at h1
  ·rename_i hj;rw[if_pos hj]at h2
   cases h1;cases h2
   exact⟨wk.nils,trivial⟩
  ·cases h1
 simp -implicitDefEqProofs only[go_sem,Gc,Gf];have Al:hpR t (ofL t o) (rsO t.nodes.length (FS.start t) (Gn t.nodes.length false)) []=[.arr 7 [Qb t (ofL t o) (-1)],.arr 1 (gz (Gn t.nodes.length [])),.arr 1 (Gn t.nodes.length [.bool false]),.arr 1 (Gn t.nodes.length [.bool false])]:=by
  have e1:bqz (Gn t.nodes.length false)=Gn t.nodes.length [.bool false]:=by simp[bqz]
  have e2:fgL t.nodes.length (FS.start t)=Gn t.nodes.length false:=by
   unfold fgL FS.start;refine GA sM λj h1 h2=>?_
   simp[Kz]
  simp only[hpR,rsO,e2,e1];rfl
 refine Jar Al.symm ?_;clear Al Io MF FW RA AR;simp -implicitDefEqProofs only[go_sem];have hI:=Jhp g hE;have Aj:(KC 0 t.nodes.length).foldl (doF t o (mnF t o) (t.nodes.length+1)) (FS.start t)=Kw t o:=by
  unfold Kw KC
  congr 1
  exact List.map_congr_left (λx _=>Gi x) |>.trans (List.map_id _)
 have I8:Ln (FS.start t).got:=λj=>by
  unfold FS.start Jt;simp only[Gr,Gy]
  split <;> simp
 have Bd:=λj=>JbV ht (o:=o) (S:=FS.start t) I8 (t.nodes.length+1) (KC 0 j)
 have MM:uf t (FS.start t)<=t.nodes.length:=by unfold uf;have:=List.length_filter_le (λs=>!Kz (FS.start t).fg s) (Gw t.nodes.length);rw[List.length_range]at this;exact this
 obtain⟨D,D0,D1,D2⟩:=chain_ex (mm:=t.nodes.length) (x0:=Gn t.nodes.length false) (P:=λj x=>DnOk t ((KC 0 j).foldl (doF t o (mnF t o) (t.nodes.length+1)) (FS.start t)) x) (Q:=λj x y=>RMe Gd 34 [.int .i64 ((j:Nat):Int)] t (ofL t o) (rsO t.nodes.length ((KC 0 j).foldl (doF t o (mnF t o) (t.nodes.length+1)) (FS.start t)) x) (rsO t.nodes.length ((KC 0 (j+1)).foldl (doF t o (mnF t o) (t.nodes.length+1)) (FS.start t)) y) (.tup [])) ⟨sM,λ_=>rfl⟩ λj x hj hx=>by
  obtain⟨p1,p2,p3,p4⟩:=hI j om;have BD:(KC 0 (j+1)).foldl (doF t o (mnF t o) (t.nodes.length+1)) (FS.start t)=doF t o (mnF t o) (t.nodes.length+1) ((KC 0 j).foldl (doF t o (mnF t o) (t.nodes.length+1)) (FS.start t)) j:=by rw[JaX,GM,Gi];rfl
  rw[BD];exact lawRo g ht hE (t.nodes.length+1) _ j x p1 p2 (Bd j) hj (in_pre g hj p4) (by rw[uf_eq p3];omega) hx
 have AL:=(hI t.nodes.length (Gq _)).1.gl;rw[Aj]at AL;rw[<-D0];refine Jr (I:=λj:Nat=>j<=t.nodes.length) (inv:=λj=>mkT 57 [(8,.int .i64 (t.nodes.length:Int)),(9,.ptr 0 0 0),(10,.int .i64 (j:Int))]) (hp:=λj=>hpR t (ofL t o) (rsO t.nodes.length ((KC 0 j).foldl (doF t o (mnF t o) (t.nodes.length+1)) (FS.start t)) (D j)) []) (μ:=λj=>t.nodes.length-j) 0 [0,1,2,3] om rfl ?_ ?_ ?_
 ·simp only[JR,Ga,Gb,ren,Jk];refine Js ?_;simp[Kh,Ko]
 ·exact KN (X:=[]) rfl
 ·intro j hj;by_cases Ab:j<t.nodes.length
  ·have d1:=dtT j t.nodes.length;simp -implicitDefEqProofs only[go_sem,d1];refine Kl (X:=[]) (D2 j Ab) (.inl rfl) rfl rfl rfl rfl ?_;simp -implicitDefEqProofs only[go_sem];refine⟨Jg,j+1,[0,1,2,3],om,om,rfl,KN (X:=[]) rfl,?_⟩;simp only[JR,Ga,Gb,ren,Jk];refine Js ?_;simp[Kh,Ko]
  ·have d1:=dfF j t.nodes.length;obtain rfl:j=t.nodes.length:=om
   rw[Aj];unfold infV;rw[if_neg (λh=>h hE)]
   cases hb:(Kw t o).bad with
   |some b=>
    have d0:(0<=JdI (Kw t o).bad)=True:=eq_true (by rw[hb];simp[JdI]);have e1:JdI (Kw t o).bad=(b:Int):=by rw[hb];rfl
    simp -implicitDefEqProofs only[go_sem,d1,hpR,Qb,rsO,d0];refine JJ [0,0,0,0,4,0,0,0] Jm vM ?_;simp -implicitDefEqProofs only[go_sem];refine YC [] (.inl rfl) rfl rfl rfl rfl ?_;simp -implicitDefEqProofs only[go_sem,e1];exact .drop rfl (wk.refl _)
   |none=>
    have d0:(0<=JdI (Kw t o).bad)=False:=eq_false (by rw[hb];simp[JdI]);have DV:(gz (Kw t o).got).length=t.nodes.length:=by rw[QH,AL]
    have BV:(gz (Kw t o).got).take t.nodes.length=gz (Kw t o).got:=GJ om;simp -implicitDefEqProofs only[go_sem,d1,hpR,Qb,rsO,d0];refine .frz 1 1 (gz (Kw t o).got) rfl (KP _) (.drop ?_ ?_)
    ·simp[frz,JM,CV.closed,Jl,DV]
    ·simp[frz,JM,DV,BV];exact wk.refl _
end
theorem law4Lists (l:List TL)(hl:l.length<=100000)(hs:∀j,(Jt l j).length<=100000):Fn Gd 12 [.rslc 1 (gz l) none,.rslc 1 (gz l) none] (.bool true):=by
 have DV:(gz l).length=l.length:=QH;have Aw:=KP l;refine JaC c12_ok (by simp[Jl,CV.closed,Aw]) rfl (by simp only[Gm,Gl];decide) λN=>?_
 have d0:((l.length:Int) != (l.length:Int))=false:=bne_self_eq_false _;simp -implicitDefEqProofs only[c12,go_sem,DV,d0];refine Jr (I:=λj:Nat=>j<=l.length) (inv:=λj=>mkT 27 [(0,.rslc 1 (gz l) none),(1,.rslc 1 (gz l) none),(5,.int .i64 (j:Int))]) (hp:=λ_=>[]) (μ:=λj=>l.length-j) 0 [] om rfl ?_ ?_ ?_
 ·simp only[JR,Ga,Gb,ren,Jk,Jb Aw];refine Js ?_;simp[Kh,Ko]
 ·rfl
 ·intro j hj;by_cases Ab:j<l.length
  ·have d1:=dtT j l.length;have hg:=Qc Ab;have hS:=JdY (Jt l j) (Jt l j) (hs j);rw[beq_self_eq_true]at hS;simp -implicitDefEqProofs only[go_sem,DV,d1];refine JJ [0,0,0,0,0,0,0,0,0,0] Jm vM ?_;simp -implicitDefEqProofs only[go_sem,DV,hg]
   repeat refine And.intro (by first|omega|exact⟨om,om⟩|exact Jg) ?_
   refine JdL (.inl rfl) hS ?_;simp -implicitDefEqProofs only[go_sem,Gx];refine⟨Jg,j+1,[],om,om,rfl,rfl,?_⟩;simp only[JR,Ga,Gb,ren,Jk,Jb Aw];refine Js ?_;simp[Kh,Ko]
  ·have d1:=dfF j l.length;simp -implicitDefEqProofs only[go_sem,DV,d1]
theorem Jde:Fn Gd 12 [.nils,.rslc 1 [] none] (.bool true):=by
 refine fcS c12_ok λN=>?_
 have d0:((0:Int) != ((0:Nat):Int))=false:=rfl;have d1:((0:Int)<(0:Int))=False:=eq_false vk;simp -implicitDefEqProofs only[c12,go_sem,Gl,d0];refine Jr (I:=λ_:Nat=>True) (inv:=λ_=>mkT 27 [(0,.nils),(1,.rslc 1 [] none),(5,.int .i64 0)]) (hp:=λ_=>[]) (μ:=λj=>j) 0 [] trivial rfl ?_ ?_ ?_
 ·simp only[JR,Ga,Gb,ren,Jk];refine Js ?_;simp[Kh,Ko]
 ·rfl
 ·intro j _;simp -implicitDefEqProofs only[go_sem,d1]
theorem refInfer4E (t:Tr)(ht:t.Fit)(h:chk t≠0):Fn Gd 10 [t.cv] (.tup [.rslc 1 [] none,.int .i64 0,.int .i64 (chk t)]):=by
 have hR:=refResolveE t ht h;have e0:(chk t != 0)=true:=by simpa using h
 refine fn_fnl (vfS c10_ok λN=>?_) rfl rfl;simp -implicitDefEqProofs only[c10,go_sem,Tr.cv,Tr.row];refine J3 hR ?_;simp -implicitDefEqProofs only[go_sem,e0];exact .frz 1 1 [] rfl rfl (.drop rfl (wk.refl _))
theorem Jd0 (t:Tr)(ht:t.Fit)(hV:Fn Gd 6 [t.cv] (.bool false))(x y:CV)(hx:x=.nils\/∃els,x=.rslc 1 els none/\Jq els=true)(hy:y.closed=true)(a e:Int)(hI:Fn Gd 9 [t.cv] (.tup [.agg [x],.int .i64 a,.int .i64 e]))(hF:Fn Gd 10 [t.cv] (.tup [y,.int .i64 a,.int .i64 e]))(hL:Fn Gd 12 [x,y] (.bool true)):Fn Gd 3 [t.cv] (.bool true):=by
 have hC:=refCopy t ht;have hA:=refAlike t ht;rcases hx with rfl|⟨els,rfl,EG⟩
 all_goals
  refine fcS c3_ok λN=>?_
  simp -implicitDefEqProofs only[c3,go_sem,Tr.cv,Tr.row];refine J3 hV ?_;simp -implicitDefEqProofs only[go_sem,Tr.row,splice,Gm,Gl];refine J3 hC ?_;simp -implicitDefEqProofs only[go_sem,Tr.cv,Tr.row,splice,Gm,Gl];refine J3 hI ?_;simp -implicitDefEqProofs only[go_sem,Tr.cv,Tr.row,splice,Gm,Gl]
  try (repeat refine And.intro (by first|omega|exact⟨om,om⟩|exact Gq _|exact⟨Gq _,Gq _⟩) ?_)
  refine J3 hF ?_;simp -implicitDefEqProofs only[go_sem,Tr.cv,Tr.row,splice,Gm,Gl];refine J3 hA ?_;simp -implicitDefEqProofs only[go_sem,beq_self_eq_true];refine Kk (gok rfl) hL ?_;simp -implicitDefEqProofs only[go_sem];refine Kk (gok rfl) fknown4 ?_;simp -implicitDefEqProofs only[go_sem]
theorem inferAll (t:Tr)(ty:t.Ty):Fn Gd 3 [t.cv] (.bool true):=by
 have hV:=lawVast4 t
 cases hv:Jdp t with
 |true=>
  rw[hv]at hV;refine fcS c3_ok λN=>?_
  simp -implicitDefEqProofs only[c3,go_sem,Tr.cv,Tr.row];refine J3 hV ?_;simp -implicitDefEqProofs only[go_sem,Tr.row,splice];refine J3 fknown4 ?_;simp -implicitDefEqProofs only[go_sem,splice]
 |false=>
  rw[hv]at hV;have ht:=ty.fit3 hv;by_cases h:chk t=0
  ·obtain⟨o,g⟩:=(Jd7 t).1 h;have hI:=Jat g ht;have hF:=refInfer4 g ht;unfold typV at hI;unfold infV at hF;by_cases hE:(YP t o).2=0
   ·rw[if_neg (λh=>h hE)]at hI hF
    cases hb:(Kw t o).bad with
    |some i=>rw[hb]at hI hF;exact Jd0 t ht hV .nils (.rslc 1 [] none) (.inl rfl) rfl _ _ hI hF Jde
    |none=>rw[hb]at hI hF;have Ag:=g.many;have AL:=infer_len g hE;have Bd:=infer_ln ht (o:=o);exact Jd0 t ht hV _ _ (.inr ⟨_,rfl,KP _⟩) (by simp[CV.closed,KP]) _ _ hI hF (law4Lists _ om λj=>by have:=Bd j;omega)
   ·rw[if_pos hE]at hI hF;exact Jd0 t ht hV .nils (.rslc 1 [] none) (.inl rfl) rfl _ _ hI hF Jde
  ·exact Jd0 t ht hV .nils (.rslc 1 [] none) (.inl rfl) rfl _ _ (typInferE t ht h) (refInfer4E t ht h) Jde
end Go.Cm
end
end
