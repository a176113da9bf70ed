/-
  A part of the proof. Conditions: none.
-/
import Derived.Test.YtebakpoggommpaaGreatDoorPP54
set_option linter.unusedSimpArgs false
set_option linter.unusedVariables false
open List renaming length_cons→Gb,length_nil→Ga,map_cons→Gc,map_nil→Gd,getElem?_eq_getElem→Gh,getD_eq_getElem?_getD→Gm,getElem?_set_ne→Gn,replicate→Gi,getElem?_map→Gp,drop_zero→Gq,take_of_length_le→Gs,getElem_of_mem→Gt,getD_cons_zero→Gu,getD_cons_succ→Gv,length_take→Gw,cons_append→Gx,nil_append→Gy,length_map→Gz,take_zero→GA,length→GD
open Go.Proofs.Tryz renaming prog→Gf
open Int renaming toNat_natCast→Gg,le_refl→Gr
open Bool renaming true_and→Gj,not_true→Gl
noncomputable section
section
set_option maxRecDepth 100000
set_option maxHeartbeats 4000000
open Go.Proofs
namespace Go.Cm
section
section
variable {P:Program}{E:Env}{n0:Nat}{N:Fr}{Q:Exit→List CV→List CObj→Prop}{H:List CObj}{T:List CV}{k:List KItem}{l:List IOper}{es:List (List Nat)}
theorem vr_drawT (T':List CV) (H':List CObj) (hm:P.follows .mixedOrders=true) (hd:Ok P E n0 N Q k T' H'→Jcq P E n0 N Q k l es T H) (hfin:Kk P E n0 N Q k T' H'):Ok P E n0 N Q (.code (.dreg l es)::k) T H:=JcQ hm (hd (JB _ _ _ hfin))
end
theorem iz_rep {n:Nat}:Gi n [CV.int .i64 0]=iz (Gi n 0):=by simp[iz]
theorem frzs_rowZ {H:List CObj}{id z:Nat}{Y:List (List CV)}{x:CV}{ys:List CV}(hx:x.closed=true) (hy:Jr ys=true) (hY:Jo Y=true) (h:H[id]? = some (KP z Y)):Frzs (.tup (.agg [x,.rslc z Y none]::ys)) (.tup (.agg [x,JV id Y]::ys)) H:=by
 cases Y with
 |nil=>exact .done (Jcb ⟨Jbk ⟨wk.refl _,wk.nils,trivial⟩,wks.refl _⟩)
 |cons a l=>
  refine .step id z (a::l) h hY (.done ?_)
  simp only[frz,J4,JV,QX x hx,Qa ys hy,if_true,Nat.zero_add,Gb,Nat.le_refl,Gq]
  rw[show (a::l).take (l.length+1)=a::l from Gs (by simp)]
  exact wk.refl _
theorem frzs3 {A B C:List (List CV)}(hA:Jo A=true) (hB:Jo B=true) (hC:Jo C=true) {H:List CObj}{n:Nat}{cap:Option Nat}(h3:H[3]? = some (.arr 1 C)) (h4:H[4]? = some (KP 5 A)) (h5:H[5]? = some (KP 1 B)) (hn:n=C.length) (hAB:A=[]→B=[]):Frzs (.tup [.agg [.rslc 5 A none,.rslc 1 B none],.rslc 1 C none]) (.tup [.agg [JV 4 A,JV 5 B],.slc 3 0 n cap]) H:=by
 subst hn
 refine .step 3 1 C h3 hC ?_
 have e0:frz 3 1 C (.tup [.agg [JV 4 A,JV 5 B],.slc 3 0 C.length cap])=.tup [.agg [JV 4 A,JV 5 B],.rslc 1 C none]:=by simp[frz,J4,Qd]
 have g4:(Ky 3 1 C H)[4]? = some (KP 5 A):=by unfold Ky; rw[Gn (by decide),Gp,h4]; simp[KD hA]
 have g5:(Ky 3 1 C H)[5]? = some (KP 1 B):=by unfold Ky; rw[Gn (by decide),Gp,h5]; simp[KD hB]
 rw[e0]
 generalize Ky 3 1 C H=H1 at g4 g5
 cases A with
 |nil=>
  rw[hAB rfl]
  exact .done (Jcb ⟨Jbk ⟨wk.nils,wk.nils,trivial⟩,wks.refl _⟩)
 |cons a l=>
  refine .step 4 5 (a::l) g4 hA ?_
  have e1:frz 4 5 (a::l) (.tup [.agg [JV 4 (a::l),JV 5 B],.rslc 1 C none])=.tup [.agg [.rslc 5 (a::l) none,JV 5 B],.rslc 1 C none]:=by
   have h0:(a::l).take (l.length+1)=a::l:=Gs (by simp)
   simp[frz,J4,Qd,Q4,h0]
  rw[e1]
  exact frzs_rowZ rfl rfl hB (by unfold Ky; rw[Gn (by decide),Gp,g5]; simp[KD hB])
section
variable {t:Tr}{o:List Int}(g:GoodT t o) {b:List Nat}
include g
theorem items_pre (j:Nat):ShI t b (fun x=>False∨∃ k:Nat,(k:Int)∈t.items.take j∧blw o x k) (shF (shN t b t.nodes.length) (t.items.take j) (Jcr t) []).1∧∀ k:Nat,t.items[j]? = some (k:Int)→k < t.nodes.length∧∀ x,blw o x k→¬ (False∨∃ k':Nat,(k':Int)∈t.items.take j∧blw o x k'):=by
 have h0:ShI t b (fun _=>False) (Jcr t):=⟨by simp[Jcr],rfl,fun _ h=>h.elim,fun _ h=>h.elim,fun j h=>by simp[Jcr]at h,fun _ _ h=>h.elim,fun j ks h=>by simp[Jcr,Jw]at h⟩
 have hnd:t.items.Nodup:=Xk g.ord.ok g.olen _ _ _ g.its
 have hmt:∀ k,k∈t.items.take j→k∈t.items:=fun k hk=>List.mem_of_mem_take hk
 refine ⟨(shF_ok g (go:=shN t b t.nodes.length) (t.items.take j) (fun _=>False) (Jcr t) [] (fun k hk=>g.itr (hmt k hk)) (fun k l hk hl x h1 h2=>Jdp g (hmt k hk) (hmt l hl) h1 h2) (fun k D s hk hI hD=>Jeg g t.nodes.length k D s (by have:=g.itr (hmt k hk); omega) (by have:=g.itr (hmt k hk); omega) hI hD) (hnd.sublist (List.take_sublist _ _)) h0 (fun _ _ _ _ h=>h)).1.inv,fun k hk=>?_⟩
 have hk2:=List.mem_of_getElem? hk
 refine ⟨by have:=g.itr hk2; omega,fun x hx h=>?_⟩
 rcases h with h | ⟨k',h1,h2⟩
 ·exact h
 ·have he:=Jdp g hk2 (hmt k' h1) hx h2
  subst he
  have hj:=(List.getElem?_eq_some_iff.1 hk).1
  obtain ⟨i,hi,hie⟩:=Gt h1
  rw[Gw]at hi
  rw[List.getElem_take]at hie
  have:=(List.getElem?_inj (i:=i) (j:=j) (by omega) hnd).1 (by rw[Gh (by omega),hie,hk])
  omega
theorem Je8 (ht:t.Fit):(Kl t b).Fit:=by
 have hmany:=g.many
 have hl:=JaC g (b:=b)
 have gu:=XO g (b:=b)
 have hil:(Kl t b).items.length=t.items.length:=by show (shT t b).2.length=_; rw[(JcU g).2.1,Gz]
 refine ⟨by rw[hl]; exact ht.many,by rw[hil]; exact ht.items,fun x hx=>?_,fun x hx=>?_⟩
 ·obtain ⟨j,hj,rfl⟩:=Gt hx
  have e:(Kl t b).nodes[j]=nd (Kl t b) j:=by unfold nd; rw[Gm,Gh hj]; rfl
  obtain ⟨x,h1,h2⟩:=to_on g (b:=b) hj
  have h3:=(QT g (b:=b) h1).2.2
  rw[h2]at h3
  have h4:=fitN ht h1
  have hkr:∀ k∈(nd (Kl t b) j).kids,InR .i64 k:=fun k hk=>by
   have:=gu.kid hj hk
   exact Jl
  rw[e]
  refine ⟨?_,?_,?_,?_,hkr,?_⟩ <;> rw[h3]
  ·exact h4.k
  ·exact h4.text
  ·exact h4.n
  ·show ((Ka t b x).map _).length≤30
   rw[Gz,Qe.len]; exact h4.kidn
  ·exact h4.pl
 ·have:=gu.itr hx
  exact Jl
end
section
variable {t:Tr}{o:List Int}(g:GoodT t o) (ht:t.Fit) {b:List Nat}(hb8:∀ x∈b,x < 256) (hbl:b.length≤9223372036854775807)
include g ht hb8 hbl
theorem JeC:Fn Gf 12 [t.cv,.rslc 1 (by8 b) none] (.tup [(Kl t b).cv,.rslc 1 (iz (shT t b).1.tos) none]):=by
 have hmany:=g.many
 have hits:=g.items
 have hil:(iz t.items).length=t.items.length:=Jd
 have hsh:shT t b=shF (shN t b t.nodes.length) (t.items.take t.items.length) (Jcr t) []:=by rw[List.take_length]; rfl
 refine Yu (Kg c12_ok fun N=>?_) rfl rfl
 simp -implicitDefEqProofs only[c12,go_sem,Tr.cv,Tr.row]
 refine Je (id:=0) (z:=2) (els:=[t.row]) rfl rfl ?_
 simp only[go_sem,J4,Ky,frz,JeK,JeJ,Gc,Gd,Tr.row]
 refine vr_drawT (gp [(1,.rslc 1 (by8 b) none),(0,.rptr t.row),(1,.ptr 1 0 0),(1,.ptr 2 0 0),(0,.slc 3 0 t.nodes.length (some t.nodes.length))] 34) [.dead,.arr 2 [[.nils,.nils]],.arr 2 [[.nils,.nils]],.arr 1 (iz (Gi t.nodes.length 0))] JI (fun hfin=>?_) ?_
 ·refine Yy 4 5 (by decide) ?_ ?_
  ·refine Qz [false,false,false,false,true,true,true,false] _ _ (by decide +kernel) hfin ?_
   simp -implicitDefEqProofs only[go_sem,Tr.row,Jf,splice,Gb,Ga]
   refine ⟨⟨by omega,Gr _,by omega,by omega⟩,?_⟩
   refine YK [0,1,3,2] rfl (by simp[forget,gp,JL,ren,Jm,Tr.row]) ?_
   simp only[Km,Gc,Gd,go_sem,Jk,Jh,JL,ren,iz_rep,Ja (Jb _)]
  refine Yy 4 6 (by decide) ?_ ?_
  ·refine Yx [0,1,2,3,5,4,6,7] [0,1,2,3,5,4,6,7] (by decide +kernel) ?_
   refine Qz [false,false,false,false,true,true,true,false] _ _ (by decide +kernel) hfin ?_
   simp -implicitDefEqProofs only[go_sem,prl,QR,Gc,Gd,Gu,Gv,Tr.row,Jf,splice,Gb,Ga]
   refine ⟨⟨by omega,Gr _,by omega,by omega⟩,?_⟩
   refine YK [0,1,2,3] rfl (by simp[forget,gp,JL,ren,Jm,Tr.row]) ?_
   simp only[Km,Gc,Gd,go_sem,Jk,Jh,JL,ren,iz_rep,Ja (Jb _)]
  ·refine Yx [0,1,2,3,5,6,4,7] [0,1,2,3,6,4,5,7] (by decide +kernel) ?_
   refine Qz [false,false,false,false,true,true,true,false] _ _ (by decide +kernel) hfin ?_
   simp -implicitDefEqProofs only[go_sem,prl,QR,Gc,Gd,Gu,Gv,Tr.row,Jf,splice,Gb,Ga]
   refine ⟨⟨by omega,Gr _,by omega,by omega⟩,?_⟩
   refine YK [0,1,2,3] rfl (by simp[forget,gp,JL,ren,Jm,Tr.row]) ?_
   simp only[Km,Gc,Gd,go_sem,Jk,Jh,JL,ren,iz_rep,Ja (Jb _)]
 have hS0:(Jcr t).tos=Gi t.nodes.length 0:=rfl
 simp -implicitDefEqProofs only[go_sem,Tr.row,splice,Gb,Ga]
 refine Xy ?_
 simp -implicitDefEqProofs only[go_sem,Gx,Gy]
 refine Xy ?_
 simp -implicitDefEqProofs only[go_sem,Gx,Gy]
 refine JG (I:=fun j:Nat=>j≤t.items.length) (inv:=fun j=>gp [(1,.rslc 1 (by8 b) none),(0,.rptr t.row),(1,.ptr 1 0 0),(1,.ptr 2 0 0),(0,.slc 3 0 t.nodes.length (some t.nodes.length)),(0,.int .i64 (j:Int))] 33) (hp:=fun j=>[.dead,.arr 2 [[.nils,.nils]],.arr 2 [[JV 4 (ndz (shF (shN t b t.nodes.length) (t.items.take j) (Jcr t) []).1.us),JV 5 (iz (shF (shN t b t.nodes.length) (t.items.take j) (Jcr t) []).2)]],.arr 1 (iz (shF (shN t b t.nodes.length) (t.items.take j) (Jcr t) []).1.tos),KP 5 (ndz (shF (shN t b t.nodes.length) (t.items.take j) (Jcr t) []).1.us),KP 1 (iz (shF (shN t b t.nodes.length) (t.items.take j) (Jcr t) []).2)]) (μ:=fun j=>t.items.length-j) 0 [0,1,2,3,4,5] (by omega) rfl ?_ ?_ ?_
 ·simp[forget,JL,ren,Jm,gp,Tr.row]
 ·simp only[Km,Gc,Gd,go_sem,Jk,Jh,JL,ren,Ja (Jb _),GA,shF,hS0]
  rfl
 intro j hj
 obtain ⟨hIj,hkj⟩:=items_pre g (b:=b) j
 have hnl:=Jfa (go:=shN t b t.nodes.length) (t.items.take j) (Jcr t) []
 rw[Ga,Nat.zero_add,Gw]at hnl
 have hul:=hIj.le
 by_cases hlt:j < t.items.length
 ·have d3:((j:Int) < (t.items.length:Int))=True:=Ju
  have hm0:=g.itr (show t.items.getD j 0∈t.items by rw[Gm,Gh hlt]; exact List.getElem_mem hlt)
  obtain ⟨c,hc⟩:∃ c:Nat,t.items.getD j 0=c:=⟨(t.items.getD j 0).toNat,by omega⟩
  have hgc:=JN hlt
  rw[hc]at hgc hm0
  have hkc:t.items[j]? = some (c:Int):=by rw[← hc,Gm,Gh hlt]; rfl
  obtain ⟨hcv,hDc⟩:=hkj c hkc
  have ih:=fun its=>lawMoved g ht hb8 hbl t.nodes.length c _ _ its hcv hcv hIj hDc
  have hsn:=Jeg g t.nodes.length c _ _ hcv hcv hIj hDc
  have htk:t.items.take (j+1)=t.items.take j++[(c:Int)]:=by rw[List.take_add_one,hkc]; rfl
  have hsx:shF (shN t b t.nodes.length) (t.items.take (j+1)) (Jcr t) []=(shN t b t.nodes.length c (shF (shN t b t.nodes.length) (t.items.take j) (Jcr t) []).1,(shF (shN t b t.nodes.length) (t.items.take j) (Jcr t) []).2++[((shN t b t.nodes.length c (shF (shN t b t.nodes.length) (t.items.take j) (Jcr t) []).1).us.length:Int)-1]):=by rw[htk,Je9,Gg]
  have hul2:=hsn.1.inv.le
  have hne:=hsn.2.1
  generalize shF (shN t b t.nodes.length) (t.items.take j) (Jcr t) []=P at *
  generalize shN t b t.nodes.length c P.1=s2 at *
  have hcu1:=J7 P.1.us
  have hct1:=Jb P.1.tos
  have hcu2:=J7 s2.us
  have hct2:=Jb s2.tos
  have hcp:=Jb P.2
  have hne2:ndz s2.us≠[]:=by intro h; have:=congrArg GD h; rw[Jf,Ga]at this; omega
  have hcall:CallsC Gf Env.none 46 [t.cv,.int .i64 (c:Int),.rslc 1 (by8 b) none,.agg [JV 4 (ndz P.1.us),JV 5 (iz P.2)],.slc 3 0 t.nodes.length (some t.nodes.length)] [.dead,.arr 2 [[.nils,.nils]],.arr 2 [[JV 4 (ndz P.1.us),JV 5 (iz P.2)]],.arr 1 (iz P.1.tos),KP 5 (ndz P.1.us),KP 1 (iz P.2)] fun v' H'=>v'=.agg [JV 6 (ndz s2.us),JV 5 (iz P.2)]∧H'=[.dead,.arr 2 [[.nils,.nils]],.arr 2 [[JV 4 (ndz P.1.us),JV 5 (iz P.2)]],.arr 1 (iz s2.tos),.dead,KP 1 (iz P.2),KP 5 (ndz s2.us)]:=by
   refine ((ih P.2).loc [4,3,5] ?_ ?_ ?_).mono ?_
   ·simp only[JL,ren,Jm,Tr.cv,JH (ρ:=[4,3,5]) (id:=4) (j:=0) (els:=ndz P.1.us) rfl,JH (ρ:=[4,3,5]) (id:=5) (j:=2) (els:=iz P.2) rfl]; rfl
   ·simp only[movH,Km,Gc,Gd,go_sem,Jk,Jh,Jy (Ja hcu1),Jy (Ja hcp),Ja hct1]
   ·simp[locOk,Jdr,Jds]
   ·rintro v' H' ⟨v0,H0,⟨rfl,rfl⟩,rfl,rfl⟩
    simp[mo,moL,mo_rowV,tau,Jb9,Jm,Jfv,Jfw,Jfu,hcu2,hct2,hcp]
  simp -implicitDefEqProofs only[go_sem,d3,hil,Tr.row,splice,Gb,Ga]
  refine Je1 [0,0,0,0,0,0,0,1,0,2,2] JI (by decide +kernel) ?_
  simp -implicitDefEqProofs only[go_sem,hil,hgc,Tr.row,if_true,Gq,List.take_succ_cons,GA,splice,Gb,Ga]
  repeat refine And.intro (by first | omega | exact ⟨by omega,by omega⟩ | exact Jl) ?_
  refine vx_call hcall ?_
  simp -implicitDefEqProofs only[go_sem,if_true,Gq,Qt hne2,Qo hne2,Jf,Jv,Jd,splice,Gb,Ga]
  repeat refine And.intro (by first | omega | exact ⟨by omega,by omega⟩ | exact Jl) ?_
  refine ⟨j+1,[0,1,2,3,6,8],by omega,by omega,rfl,?_,?_⟩
  ·simp only[hsx,Qt hne2,Qo hne2,Jf,Kt,Kb,Kc,Jd,Ga]
   simp only[Km,Gc,Gd,List.map_append,go_sem,Jk,Jh,Ja hct2,Ja hcu2,Ja hcp,JL,ren,Jm]
  ·simp[forget,JL,ren,Jm,Tr.row]
 have d3:((j:Int) < (t.items.length:Int))=False:=Jq
 obtain rfl:j=t.items.length:=by omega
 rw[← hsh]at hIj hnl ⊢
 simp -implicitDefEqProofs only[go_sem,d3,hil,Tr.row,splice,Gb,Ga]
 have htl:=hIj.tl
 refine frzs3 (J7 _) (Jb _) (Jb _) rfl rfl rfl (by rw[Jd,htl]) fun h=>?_
 have h2:=congrArg GD h
 rw[Jf,Ga]at h2
 have h3:=JaC g (b:=b)
 have h4:(Kl t b).nodes.length=(shT t b).1.us.length:=rfl
 have h5:t.items.length=0:=by
  cases hh:t.items with
  |nil=>rfl
  |cons a l=>
   have:=g.itr (show a∈t.items by rw[hh]; simp)
   omega
 have h6:(iz (Kl t b).items).length=(shT t b).2.length:=Jd
 exact List.eq_nil_of_length_eq_zero (by rw[h6,hnl]; omega)
end
end
section
theorem Jcf (t:Tr) (B:CV) (hB:B.closed=true) (v c:Bool) (e:Int) (h:v=true∨e≠0) (hV:Fn Gf 10 [t.cv] (.bool v)) (hC:v=false→Fn Gf 11 [t.cv] (.int .i64 e)):Fn Gf 4 [t.cv,B] (.bool true):=by
 refine KM c4_ok (by simp[Jr,hB,Tr.cv,Tr.row,CV.closed]) rfl (by simp only[Gb,Ga]; decide) fun N0=>?_
 simp -implicitDefEqProofs only[c4,go_sem,Tr.cv,Tr.row,splice,Gb,Ga]
 refine JX hV ?_
 cases v with
 |true=>
  simp -implicitDefEqProofs only[go_sem,Tr.row,splice,Gb,Ga]
  refine JX JdC ?_
  simp -implicitDefEqProofs only[go_sem,splice]
 |false=>
  have e1:(e != 0)=true:=by rcases h with h | h; cases h; simpa using h
  simp -implicitDefEqProofs only[go_sem,Tr.row,splice,Gb,Ga]
  refine JW (gok rfl) (hC rfl) ?_
  simp -implicitDefEqProofs only[go_sem,e1,Tr.row,splice,Gb,Ga]
  refine JX JdC ?_
  simp -implicitDefEqProofs only[go_sem,splice]
section
variable {t:Tr}{o:List Int}(g:GoodT t o) (ht:t.Fit) {b:List Nat}(hb8:∀ x∈b,x < 256) (hbl:b.length≤9223372036854775807)
include g ht hb8 hbl
theorem shuffledErr (hv:Y1 t=false) (e f x y:Int) (he:e≠0) (hf:f≠0) (hR:Fn Gf 9 [t.cv] (.tup [.agg [.nils],.int .i64 x,.int .i64 e])) (hU:Fn Gf 9 [(Kl t b).cv] (.tup [.agg [.nils],.int .i64 y,.int .i64 f])):Fn Gf 4 [t.cv,.rslc 1 (by8 b) none] (.bool true):=by
 have hV:=JcI t
 rw[hv]at hV
 have hC:=Jfm t ht
 rw[(JbI t).2 ⟨_,g⟩]at hC
 have hS:=JeC g ht hb8 hbl
 have hut:=Je8 g (b:=b) ht
 have hCp:=Jfl t ht
 have hCu:=Jfl (Kl t b) hut
 have e01:((0:Int) != 0)=false:=rfl
 have e1:(e != 0)=true:=by simpa using he
 have e2:(f != 0)=true:=by simpa using hf
 generalize Kl t b=u at *
 refine KM c4_ok rfl rfl (by simp only[Gb,Ga]; decide) fun N0=>?_
 simp -implicitDefEqProofs only[c4,go_sem,Tr.cv,Tr.row,splice,Gb,Ga]
 refine JX hV ?_
 simp -implicitDefEqProofs only[go_sem,Tr.row,splice,Gb,Ga]
 refine JW (gok rfl) hC ?_
 simp -implicitDefEqProofs only[go_sem,e01,Tr.row,splice,Gb,Ga]
 refine JX hS ?_
 simp -implicitDefEqProofs only[go_sem,Tr.cv,Tr.row,splice,Gb,Ga]
 refine JX hCp ?_
 simp -implicitDefEqProofs only[go_sem,Tr.cv,Tr.row,splice,Gb,Ga]
 refine JX hR ?_
 simp -implicitDefEqProofs only[go_sem,Tr.cv,Tr.row,splice,Gb,Ga]
 refine JX hCu ?_
 simp -implicitDefEqProofs only[go_sem,Tr.cv,Tr.row,splice,Gb,Ga]
 refine JX hU ?_
 cases hef:(e != f) with
 |true=>
  simp -implicitDefEqProofs only[go_sem,hef,e1,e2,Tr.cv,Tr.row,splice,Gb,Ga]
  refine JW (gok rfl) JdC ?_
  simp -implicitDefEqProofs only[go_sem,splice]
 |false=>
  simp -implicitDefEqProofs only[go_sem,hef,e1,e2,Tr.cv,Tr.row,splice,Gb,Ga]
  refine JX JdC ?_
  simp -implicitDefEqProofs only[go_sem,splice]
theorem shuffledOk (hv:Y1 t=false) (hE:(Q0 t o).2=0) (hF:(Q0 (Kl t b) (shT t b).1.ps).2=0):Fn Gf 4 [t.cv,.rslc 1 (by8 b) none] (.bool true):=by
 have hmany:=g.many
 have hV:=JcI t
 rw[hv]at hV
 have hC:=Jfm t ht
 rw[(JbI t).2 ⟨_,g⟩]at hC
 have hS:=JeC g ht hb8 hbl
 have gu:=XO g (b:=b)
 have hut:=Je8 g (b:=b) ht
 have hCp:=Jfl t ht
 have hCu:=Jfl (Kl t b) hut
 have hR:=Jbx g ht
 rw[if_pos hE]at hR
 have hU:=Jbx gu hut
 rw[if_pos hF]at hU
 have e01:((0:Int) != 0)=false:=rfl
 have hul:=JaC g (b:=b)
 obtain ⟨_,hof⟩:=shuf_okB g hF
 have hg:=fun x hx=>QT g (b:=b) (x:=x) hx
 have htl:=(JcU g (b:=b)).1.tl
 have hNt:=fun d=>nNeedsP g ht d
 have hNu:=fun d=>nNeedsP gu hut d
 have hOt:=fun d=>nOutsideP g ht d
 have hOu:=fun d=>nOutsideP gu hut d
 have hsn:=fun s hs hk=>shuf_need g (b:=b) hof (s:=s) hs hk
 have hso:=fun s hs hk=>shuf_out g (b:=b) hof (d:=s) hs hk
 simp only[hE,hF,ne_eq,not_true_eq_false,if_false]at hNt hNu hOt hOu
 have hAll:=fun l hl hx=>lawAll (l:=l) (tos:=(shT t b).1.tos) (m:=t.nodes.length) (ψ:=Kn t b) htl (by omega) hl hx fun x hx=>⟨(hg x hx).1,by rw[← hul]; exact (hg x hx).2.1⟩
 have hk:∀ x,x < t.nodes.length→(nd (Kl t b) (Kn t b x)).k=(nd t x).k:=fun x hx=>by rw[(hg x hx).2.2]
 generalize (shT t b).1.ps=p at *
 generalize hU2:Kl t b=u at *
 generalize Kn t b=ψ at *
 generalize (shT t b).1.tos=tos at *
 have hol:(iz (ofL t o)).length=t.nodes.length:=by rw[Jd,Xh]
 have hpl:(iz (ofL u p)).length=t.nodes.length:=by rw[Jd,Xh,hul]
 have htol:(iz tos).length=t.nodes.length:=by rw[Jd,htl]
 have dnn:((t.nodes.length:Int) != (t.nodes.length:Int))=false:=by simp
 refine KM c4_ok rfl rfl (by simp only[Gb,Ga]; decide) fun N0=>?_
 simp -implicitDefEqProofs only[go_sem,c4,Tr.cv,Tr.row,splice,Gb,Ga]
 refine JX hV ?_
 simp -implicitDefEqProofs only[go_sem,Tr.row,splice,Gb,Ga]
 refine JW (gok rfl) hC ?_
 simp -implicitDefEqProofs only[go_sem,e01,Tr.row,splice,Gb,Ga]
 refine JX hS ?_
 simp -implicitDefEqProofs only[go_sem,Tr.cv,Tr.row,splice,Gb,Ga]
 refine JX hCp ?_
 simp -implicitDefEqProofs only[go_sem,Tr.cv,Tr.row,splice,Gb,Ga]
 refine JX hR ?_
 simp -implicitDefEqProofs only[go_sem,Tr.cv,Tr.row,splice,Gb,Ga]
 refine JX hCu ?_
 simp -implicitDefEqProofs only[go_sem,Tr.cv,Tr.row,splice,Gb,Ga]
 refine JX hU ?_
 simp -implicitDefEqProofs only[go_sem,e01,hol,hpl,Jf,dnn,Tr.cv,Tr.row,splice,Gb,Ga]
 refine Je (id:=0) (z:=2) (els:=[t.row]) rfl rfl ?_
 simp only[go_sem,XH,Gc,Gd,Ky,frz,Qy,J4,Tr.row]
 refine Je (id:=1) (z:=2) (els:=[u.row]) rfl rfl ?_
 simp only[go_sem,XH,Gc,Gd,Ky,frz,Qy,J4,Tr.row]
 refine Je (id:=2) (z:=1) (els:=[[.rslc 1 (iz (ofL t o)) none]]) rfl rfl ?_
 simp only[go_sem,XH,Gc,Gd,Ky,frz,Qy,J4,Tr.row]
 refine Je (id:=3) (z:=1) (els:=[[.rslc 1 (iz (ofL u p)) none]]) rfl rfl ?_
 simp only[go_sem,XH,Gc,Gd,Ky,frz,Qy,J4,Tr.row]
 refine vr_loopL (I:=fun i:Nat=>i≤t.nodes.length) (inv:=fun i=>mkT 222 [(2,.rptr t.row),(5,.rptr u.row),(6,.rslc 1 (iz tos) none),(7,.rptr [.rslc 1 (iz (ofL t o)) none]),(10,.rptr [.rslc 1 (iz (ofL u p)) none]),(13,.int .i64 (i:Int))]) (hp:=fun _=>[.dead,.dead,.dead,.dead]) (μ:=fun i=>t.nodes.length-i) 0 (by omega) (fun Q=>?_) ?_
 ·refine Ji (KZ ?_)
  simp[XA,QB,Tr.row]
 intro i hi
 by_cases hlt:i < t.nodes.length
 ·have d1:((i:Int) < (t.nodes.length:Int))=True:=Ju
  have hgi:=YT hlt
  obtain ⟨hgt,hψl,_⟩:=hg i hlt
  have hgo:(iz (ofL t o)).getD i []=[.int .i64 (J6 t o i)]:=by rw[JN (by rw[Xh]; exact hlt),Jab hlt]
  have hgp:(iz (ofL u p)).getD (ψ i) []=[.int .i64 (J6 u p (ψ i))]:=by rw[JN (by rw[Xh]; exact hψl),Jab hψl]
  have hgto:(iz tos).getD i []=[.int .i64 (ψ i:Int)]:=by rw[JN (by omega),hgt]
  have hcase:∃ v w:Int,J6 t o i=v∧J6 u p (ψ i)=w∧((v = -1∧w = -1)∨∃ d:Nat,v=d∧d < t.nodes.length∧w=(ψ d:Nat)):=by
   rcases hof i hlt with ⟨h1,h2⟩ | ⟨d,h1,h2,h3⟩
   ·exact ⟨_,_,h1,h2,.inl ⟨rfl,rfl⟩⟩
   ·exact ⟨_,_,h2,h3,.inr ⟨d,rfl,h1,rfl⟩⟩
  obtain ⟨v,w,hv1,hw1,hvw⟩:=hcase
  rw[hv1]at hgo
  rw[hw1]at hgp
  simp -implicitDefEqProofs only[go_sem,d1,Jf,Tr.row,splice,Gb,Ga]
  refine Kz JI (by decide) ?_
  have hkk:(((nd t i).k == 41)=true∧((nd t i).k == 28)=false)∨(((nd t i).k == 41)=false∧((nd t i).k == 28)=true)∨(((nd t i).k == 41)=false∧((nd t i).k == 28)=false):=by
   by_cases h1:(nd t i).k=41
   ·exact .inl ⟨by simp[h1],by simp[h1]⟩
   ·by_cases h2:(nd t i).k=28
    ·exact .inr (.inl ⟨by simp[h2],by simp[h2]⟩)
    ·exact .inr (.inr ⟨by simpa using h1,by simpa using h2⟩)
  have hii:inT t (i:Int)=true:=Yj.2 ⟨by omega,by omega⟩
  have hiu:inT u (ψ i:Int)=true:=Yj.2 ⟨by omega,by omega⟩
  rcases hkk with ⟨k1,k2⟩ | ⟨k1,k2⟩ | ⟨k1,k2⟩
  ·have hN1:=hNt (i:Int)
   rw[Gg,hii,Gj,if_pos k1]at hN1
   have hN2:=hNu (ψ i:Int)
   rw[Gg,hiu,Gj,hk i hlt,if_pos k1]at hN2
   have hlen:∀ (s:Tr) (q:List Int) (x:Nat),s.nodes.length≤700→(Ke s q (ofL s q) x).length≤100000:=fun s q x hs=>by
    have h1:(Ke s q (ofL s q) x).length≤(QC s).length:=List.length_filter_le _ _
    have h2:(QC s).length=s.nodes.length:=by simp[QC]
    omega
   have hin:∀ x∈Ke t o (ofL t o) i,0≤x∧x < t.nodes.length:=fun x hx=>JY.1 (List.mem_filter.1 hx).1
   have hW:=lawWithin (Ke t o (ofL t o) i) t.nodes.length (hlen _ _ _ hmany) hin
   have hA:=hAll (Ke t o (ofL t o) i) (hlen _ _ _ hmany) hin
   rw[hsn i hlt (by simpa using k1)]at hA
   have hSm:=lawSame (Ke u p (ofL u p) (ψ i)) (Ke u p (ofL u p) (ψ i)) (hlen _ _ _ (by omega))
   rw[beq_self_eq_true]at hSm
   rcases hvw with ⟨rfl,rfl⟩ | ⟨d,rfl,hd,rfl⟩
   case' inl=>
    have q1:decide ((t.nodes.length:Int)≤-1)=false:=decide_eq_false (by omega)
    simp -implicitDefEqProofs only[go_sem,hol,hpl,htol,hgo,hgto,hgp,q1,show decide ((-1:Int) < -1)=false from rfl,show decide ((-1:Int) < 0)=true from rfl,show decide ((0:Int)≤-1)=false from rfl,Jf,hgi,Nd.cv,kbE,k1,k2,Tr.row,splice,Gb,Ga]
   case' inr=>
    obtain ⟨hgd,hψd,_⟩:=hg d hd
    have hgtd:(iz tos).getD d []=[.int .i64 (ψ d:Int)]:=by rw[JN (by omega),hgd]
    have q0:decide ((d:Int) < -1)=false:=decide_eq_false (by omega)
    have q1:decide ((t.nodes.length:Int)≤(d:Int))=false:=decide_eq_false (by omega)
    have q2:decide ((d:Int) < 0)=false:=decide_eq_false (by omega)
    have q3:decide ((0:Int)≤(d:Int))=true:=decide_eq_true (by omega)
    have q4:((ψ d:Int) != (ψ d:Int))=false:=by simp
    simp -implicitDefEqProofs only[go_sem,hol,hpl,htol,hgo,hgto,hgp,hgtd,q0,q1,q2,q3,q4,Jf,hgi,Nd.cv,kbE,k1,k2,Tr.row,splice,Gb,Ga]
   all_goals
    repeat refine And.intro (by first | omega | exact ⟨by omega,by omega⟩ | exact Jl) ?_
    refine JX hCp ?_
    simp -implicitDefEqProofs only[go_sem,Tr.cv,Tr.row,splice,Gb,Ga]
    refine JX hN1 ?_
    simp -implicitDefEqProofs only[go_sem,Tr.row,splice,Gb,Ga]
    refine Kz JI (by decide) ?_
    simp -implicitDefEqProofs only[go_sem,Tr.row,splice,Gb,Ga]
    refine Qn (.inl rfl) hCu ?_
    simp -implicitDefEqProofs only[go_sem,htol,hgto,Tr.cv,Tr.row,splice,Gb,Ga]
    repeat refine And.intro (by first | omega | exact ⟨by omega,by omega⟩ | exact Jl) ?_
    refine Qn (.inl rfl) hN2 ?_
    simp -implicitDefEqProofs only[go_sem,e01,htol,splice,Gb,Ga]
    refine JW (gok rfl) hW ?_
    simp -implicitDefEqProofs only[go_sem,Gl,splice,Gb,Ga]
    refine JW (gok rfl) hA ?_
    simp -implicitDefEqProofs only[go_sem,splice,Gb,Ga]
    refine JW (gok rfl) hSm ?_
    simp -implicitDefEqProofs only[go_sem,Gl,Jf,hgi,Nd.cv,kbE,k2,Tr.row,splice,Gb,Ga]
    repeat refine And.intro (by first | omega | exact ⟨by omega,by omega⟩ | exact Jl) ?_
    refine ⟨i+1,by omega,by omega,fun Q=>YK [0,1,2,3] rfl ?_ rfl⟩
    simp only[QO,Gc,Gd,ren,Jm]
    refine KZ ?_
    simp[XA,QB,Tr.row,ren,Jm]
  ·have k28:(nd t i).k=28:=by simpa using k2
   have hN1:=hOt (i:Int)
   rw[Gg,hii,Gj,k28,if_pos (by decide)]at hN1
   have hN2:=hOu (ψ i:Int)
   rw[Gg,hiu,Gj,hk i hlt,k28,if_pos (by decide)]at hN2
   have hlen:∀ (s:Tr) (q:List Int) (x:Nat),s.nodes.length≤700→(Jf0 s q (ofL s q) x).length≤100000:=fun s q x hs=>by
    have h1:(Jf0 s q (ofL s q) x).length≤s.nodes.length:=img_le
    omega
   have hin:∀ x∈Jf0 t o (ofL t o) i,0≤x∧x < t.nodes.length:=fun x hx=>(Ja9.1 hx).1
   have hW:=lawWithin (Jf0 t o (ofL t o) i) t.nodes.length (hlen _ _ _ hmany) hin
   have hA:=hAll (Jf0 t o (ofL t o) i) (hlen _ _ _ hmany) hin
   rw[hso i hlt k28]at hA
   have hSm:=lawSame (Jf0 u p (ofL u p) (ψ i)) (Jf0 u p (ofL u p) (ψ i)) (hlen _ _ _ (by omega))
   rw[beq_self_eq_true]at hSm
   rcases hvw with ⟨rfl,rfl⟩ | ⟨d,rfl,hd,rfl⟩
   case' inl=>
    have q1:decide ((t.nodes.length:Int)≤-1)=false:=decide_eq_false (by omega)
    simp -implicitDefEqProofs only[go_sem,hol,hpl,htol,hgo,hgto,hgp,q1,show decide ((-1:Int) < -1)=false from rfl,show decide ((-1:Int) < 0)=true from rfl,show decide ((0:Int)≤-1)=false from rfl,Jf,hgi,Nd.cv,kbE,k1,k2,Tr.row,splice,Gb,Ga]
   case' inr=>
    obtain ⟨hgd,hψd,_⟩:=hg d hd
    have hgtd:(iz tos).getD d []=[.int .i64 (ψ d:Int)]:=by rw[JN (by omega),hgd]
    have q0:decide ((d:Int) < -1)=false:=decide_eq_false (by omega)
    have q1:decide ((t.nodes.length:Int)≤(d:Int))=false:=decide_eq_false (by omega)
    have q2:decide ((d:Int) < 0)=false:=decide_eq_false (by omega)
    have q3:decide ((0:Int)≤(d:Int))=true:=decide_eq_true (by omega)
    have q4:((ψ d:Int) != (ψ d:Int))=false:=by simp
    simp -implicitDefEqProofs only[go_sem,hol,hpl,htol,hgo,hgto,hgp,hgtd,q0,q1,q2,q3,q4,Jf,hgi,Nd.cv,kbE,k1,k2,Tr.row,splice,Gb,Ga]
   all_goals
    repeat refine And.intro (by first | omega | exact ⟨by omega,by omega⟩ | exact Jl) ?_
    refine JX hCp ?_
    simp -implicitDefEqProofs only[go_sem,Tr.cv,Tr.row,splice,Gb,Ga]
    refine JX hN1 ?_
    simp -implicitDefEqProofs only[go_sem,Tr.row,splice,Gb,Ga]
    refine Kz JI (by decide) ?_
    simp -implicitDefEqProofs only[go_sem,Tr.row,splice,Gb,Ga]
    refine Qn (.inl rfl) hCu ?_
    simp -implicitDefEqProofs only[go_sem,htol,hgto,Tr.cv,Tr.row,splice,Gb,Ga]
    repeat refine And.intro (by first | omega | exact ⟨by omega,by omega⟩ | exact Jl) ?_
    refine Qn (.inl rfl) hN2 ?_
    simp -implicitDefEqProofs only[go_sem,e01,htol,splice,Gb,Ga]
    refine JW (gok rfl) hW ?_
    simp -implicitDefEqProofs only[go_sem,Gl,splice,Gb,Ga]
    refine JW (gok rfl) hA ?_
    simp -implicitDefEqProofs only[go_sem,splice,Gb,Ga]
    refine JW (gok rfl) hSm ?_
    simp -implicitDefEqProofs only[go_sem,Gl,Jf,Tr.row,splice,Gb,Ga]
    repeat refine And.intro (by first | omega | exact ⟨by omega,by omega⟩ | exact Jl) ?_
    refine ⟨i+1,by omega,by omega,fun Q=>YK [0,1,2,3] rfl ?_ rfl⟩
    simp only[QO,Gc,Gd,ren,Jm]
    refine KZ ?_
    simp[XA,QB,Tr.row,ren,Jm]
  ·skip
   rcases hvw with ⟨rfl,rfl⟩ | ⟨d,rfl,hd,rfl⟩
   case' inl=>
    have q1:decide ((t.nodes.length:Int)≤-1)=false:=decide_eq_false (by omega)
    simp -implicitDefEqProofs only[go_sem,hol,hpl,htol,hgo,hgto,hgp,q1,show decide ((-1:Int) < -1)=false from rfl,show decide ((-1:Int) < 0)=true from rfl,show decide ((0:Int)≤-1)=false from rfl,Jf,hgi,Nd.cv,kbE,k1,k2,Tr.row,splice,Gb,Ga]
   case' inr=>
    obtain ⟨hgd,hψd,_⟩:=hg d hd
    have hgtd:(iz tos).getD d []=[.int .i64 (ψ d:Int)]:=by rw[JN (by omega),hgd]
    have q0:decide ((d:Int) < -1)=false:=decide_eq_false (by omega)
    have q1:decide ((t.nodes.length:Int)≤(d:Int))=false:=decide_eq_false (by omega)
    have q2:decide ((d:Int) < 0)=false:=decide_eq_false (by omega)
    have q3:decide ((0:Int)≤(d:Int))=true:=decide_eq_true (by omega)
    have q4:((ψ d:Int) != (ψ d:Int))=false:=by simp
    simp -implicitDefEqProofs only[go_sem,hol,hpl,htol,hgo,hgto,hgp,hgtd,q0,q1,q2,q3,q4,Jf,hgi,Nd.cv,kbE,k1,k2,Tr.row,splice,Gb,Ga]
   all_goals
    repeat refine And.intro (by first | omega | exact ⟨by omega,by omega⟩ | exact Jl) ?_
    refine ⟨i+1,by omega,by omega,fun Q=>YK [0,1,2,3] rfl ?_ rfl⟩
    simp only[QO,Gc,Gd,ren,Jm]
    refine KZ ?_
    simp[XA,QB,Tr.row,ren,Jm]
 have d1:((i:Int) < (t.nodes.length:Int))=False:=Jq
 simp -implicitDefEqProofs only[go_sem,d1,Jf,Tr.row,splice,Gb,Ga]
 refine JX JdC ?_
 simp -implicitDefEqProofs only[go_sem,splice]
theorem shuffledGood (hv:Y1 t=false):Fn Gf 4 [t.cv,.rslc 1 (by8 b) none] (.bool true):=by
 by_cases hE:(Q0 t o).2=0
 ·exact shuffledOk g ht hb8 hbl hv hE (shuf_ok g hE)
 ·have gu:=XO g (b:=b)
  have hF:(Q0 (Kl t b) (shT t b).1.ps).2≠0:=fun h=>hE (shuf_okB g h).1
  have hR:=Jbx g ht
  rw[if_neg hE]at hR
  have hU:=Jbx gu (Je8 g ht)
  rw[if_neg hF]at hU
  exact shuffledErr g ht hb8 hbl hv _ _ _ _ hE hF hR hU
end
theorem shuffledAll (t:Tr) (ty:t.Ty) (b:List Nat) (hb:(∀ x∈b,x < 256)∧b.length≤9223372036854775807):Fn Gf 4 [t.cv,.rslc 1 (by8 b) none] (.bool true):=by
 cases hv:Y1 t with
 |true=>exact Jcf t _ rfl true false 0 (.inl rfl) (by have h:=JcI t; rw[hv]at h; exact h) fun h=>by cases h
 |false=>
  have ht:=ty.fit3 hv
  by_cases h:chk t=0
  ·obtain ⟨o,g⟩:=(JbI t).1 h
   exact shuffledGood g ht hb.1 hb.2 hv
  ·exact Jcf t _ rfl false false _ (.inr h) (by have h:=JcI t; rw[hv]at h; exact h) fun _=>Jfm t ht
end
end Go.Cm
end
end
