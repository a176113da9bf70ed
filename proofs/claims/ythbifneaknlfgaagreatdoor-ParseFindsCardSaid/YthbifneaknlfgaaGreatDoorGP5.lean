/-
  Part of a proof about the package floodgatelaw02 (shortened by a program). Conditions: none.
-/
import Derived.Test.YthbifneaknlfgaaGreatDoorGP3
import Derived.Test.YthbifneaknlfgaaGreatDoorGA3
set_option linter.unusedSimpArgs false
set_option linter.unusedVariables false
section
open Go.Proofs
namespace Go.Cm
def bks (xs:List Int):List (List CV):=(List.range xs.length).map fun (s:Nat)=>[.int .i64 ((xs.length:Int)-1-s),.int .i64 (xs.reverse.getD s 0)]
theorem bks_get {xs:List Int}{s:Nat}(h:s < xs.length):(bks xs)[s]? = some [.int .i64 ((xs.length:Int)-1-s),.int .i64 (xs.reverse.getD s 0)]:=by
 simp[bks,h]
theorem bks_len {xs:List Int}:(bks xs).length=xs.length:=by simp[bks]
theorem backward1 (xs:List Int) (hlen:xs.length≤100000):Iter Tryz.prog 141 [] [.rptr [.rslc 1 (iz xs) none]] (bks xs):=by
 intro E l hy
 refine Yt c141_ok fun N=>?_
 simp +contextual only[c141,go_sem,Jb]
 refine ⟨Jg (by omega) (by omega),?_⟩
 refine JG (I:=fun s:Nat=>s≤xs.length) (inv:=fun s=>gp [(0,.yld l),(0,.rptr [.rslc 1 (iz xs) none]),(1,.int .i64 ((xs.length:Int)-1-s))] 15) (hp:=fun s=>[.ext s true]) (μ:=fun s=>xs.length-s) 0 (by omega) ?_ rfl ?_
 ·simp[forget,gp]
 ·intro s hs
  simp +contextual only[go_sem,Jb]
  refine ⟨fun h1=>?_,fun h1=>?_⟩
  ·have hlt:s < xs.length:=by omega
   have hi:((xs.length:Int)-1-s).toNat=xs.length-1-s:=by omega
   have hg:(iz xs).getD (xs.length-1-s) []=[.int .i64 (xs.reverse.getD s 0)]:=by
    have h2:xs.length-1-s < xs.length:=by omega
    simp[iz,List.getD_eq_getElem?_getD,List.getElem?_eq_getElem h2,List.getElem?_reverse hlt]
   rw[hi,hg]
   refine ⟨by omega,?_⟩
   simp +contextual only[go_sem]
   refine vr_yield (i:=0) (s:=s) (.inl rfl) rfl hy rfl (fun k s b hk=>?_) ?_ rfl fun c=>?_
   ·rcases k with _ | k
    ·rfl
    ·simp at hk
   ·simp only[go_sem,bks_get hlt]
   ·cases c
    ·simp +contextual only[go_sem]
     exact .inr ⟨_,rfl⟩
    ·simp +contextual only[go_sem]
     refine ⟨Jg (by omega) (by omega),s+1,by omega,by omega,?_⟩
     simp[forget]
     omega
  ·have:s=xs.length:=by omega
   refine .inl ?_
   simp[bks_len,this]
theorem backward (xs:List Int):Fn Tryz.prog 118 [.rslc 1 (iz xs) none] (.fn 141 [] [.rptr [.rslc 1 (iz xs) none]]):=by
 have main:CallsC Tryz.prog Env.none 118 [.rslc 1 (iz xs) none] [] fun v H'=>v=.fn 141 [] [.ptr 0 0 0]∧H'=[.arr 1 [[.rslc 1 (iz xs) none]]]:=by
  refine Yt c118_ok fun N=>?_
  simp +contextual only[c118,go_sem]
 exact fn_of (main.freeze fun v H' ⟨h1,h2⟩=>⟨0,1,[[.rslc 1 (iz xs) none]],by rw[h2]; rfl,rfl,by rw[h1]; simp[frz,frzL]⟩) rfl rfl
def JB (l:List Nd):List (List Int):=l.map Nd.kids
theorem Kl {l:List Nd}{i:Nat}(h:i < l.length):(JB l)[i]? = some (l.getD i default).kids:=by
 simp[JB,List.getD_eq_getElem?_getD,List.getElem?_eq_getElem h]
theorem JaW {K:List (List Int)}{i:Nat}{o:List Int}{ks:List Int}(h:Jw (K.take i) []=some o) (hk:K[i]? = some ks):Jw (K.take (i+1)) []=(JbC o ks).map (fun f=>o++[f])∧o.length=i:=by
 have hlt:=(List.getElem?_eq_some_iff.1 hk).1
 have hl:=Kh _ _ _ h
 rw[List.take_succ_eq_append_getElem hlt,(List.getElem?_eq_some_iff.1 hk).2,Xq,h]
 refine ⟨?_,by simpa [Nat.min_eq_left (Nat.le_of_lt hlt)]using hl⟩
 simp only[Option.bind_some,Jw]
 cases JbC o ks <;> rfl
theorem JaX {K:List (List Int)}{i:Nat}(h:Jw (K.take i) []=none):Jw K []=none:=by
 rw[← List.take_append_drop i K,Xq,h]; rfl
theorem stepF_none {o ks:List Int}{s:Nat}(h:KQ o (ks.reverse.take s) ((o.length:Int)-1)=none):JbC o ks=none:=by
 unfold JbC
 rw[← List.take_append_drop s ks.reverse,Jap,h]; rfl
def YM (t:Tr) (v:CV) (H':List CObj):Prop:=match Jw (JB t.nodes) []with
 |some o=>∃ id,v=.tup [rowV id (iz o),.bool true]∧H'[id]? = some (rowO 1 (iz o))
 |none=>v=.tup [.nils,.bool false]
theorem firstsW (t:Tr) (ht:t.Fit):CallsC Tryz.prog Env.none 86 [t.cv] [] (YM t):=by
 have hmany:=ht.many
 refine Yt c86_ok fun N=>?_
 simp +contextual only[c86,go_sem,Tr.cv,Tr.row]
 refine vr_pad ?_
 simp only[go_sem,Jd]
 refine Qr (σ:=Nat×List Int) (I:=fun s=>s.1≤t.nodes.length∧Jw ((JB t.nodes).take s.1) []=some s.2)
  (inv:=fun s=>gp [(2,.ptr 0 0 0),(0,.ptr 1 0 0),(6,.rslc 5 (ndz t.nodes) none),(0,.int .i64 t.nodes.length),(0,.int .i64 s.1)] 30)
  (hp:=fun s=>[.arr 1 [[rowV 2 (iz s.2)]],.arr 1 [[.bool false]],rowO 1 (iz s.2)]) (μ:=fun s=>t.nodes.length-s.1) (0,[]) [1,2,3] ⟨by omega,rfl⟩ rfl ?_ rfl ?_
 ·simp[forget,renL,ren,KZ,gp]
 ·rintro ⟨i,o⟩ ⟨hi,ho⟩
  dsimp only at hi ho
  simp +contextual only[go_sem,Jd]
  refine ⟨fun h=>?_,fun h=>?_⟩
  ·have hlt:i < t.nodes.length:=by omega
   have hx:=ht.nodes _ (List.getElem_mem hlt)
   have hg:t.nodes.getD i default=t.nodes[i]:=by rw[List.getD_eq_getElem?_getD,List.getElem?_eq_getElem hlt]; rfl
   obtain ⟨hstep,hol⟩:=JaW ho (Kl hlt)
   have hok:=Km _ _ _ KR.nil ho
   rw[J7 hlt]
   generalize t.nodes.getD i default=x at hstep hg ⊢
   rw[← hg]at hx
   refine ⟨by omega,by simp[Nd.cv],?_⟩
   simp +contextual only[go_sem,Nd.cv]
   refine ⟨Jg (by omega) (by omega),?_⟩
   refine vr_f (backward x.kids) ?_
   simp +contextual only[go_sem]
   have hkn:=hx.kidn
   refine vr_rfuncJ (xs:=bks x.kids) (Γ:=Int) (fun s a=>KQ o (x.kids.reverse.take s) ((i:Int)-1)=some a) (fun s a=>[.arr 1 [[rowV 2 (iz o)]],.arr 1 [[.bool false]],rowO 1 (iz o),.arr 5 [x.cv],.arr 1 [[.int .i64 a]]]) ((i:Int)-1) rfl rfl rfl rfl rfl c141_ok nm (backward1 _ (by omega)) (by simp[bks]) rfl ?_ ?_
   ·intro s a c ha hc
    have hlts:s < x.kids.length:=by
     have:=(List.getElem?_eq_some_iff.1 hc).1; rwa [bks_len]at this
    rw[bks_get hlts]at hc
    cases hc
    have hlt2:s < x.kids.reverse.length:=by rw[List.length_reverse]; exact hlts
    have hst:x.kids.reverse.take (s+1)=x.kids.reverse.take s++[x.kids.reverse.getD s 0]:=by
     rw[List.take_succ_eq_append_getElem hlt2,List.getD_eq_getElem?_getD,List.getElem?_eq_getElem hlt2]; rfl
    generalize x.kids.reverse.getD s 0=k at hst ⊢
    have hr:=Jao hok _ _ a (by omega) (by omega) ha
    have hnx:KQ o (x.kids.reverse.take (s+1)) ((i:Int)-1)=if a < 0∨k≠a then none else some (o.getD k.toNat 0-1):=by
     rw[hst,Jap,ha]; simp only[Option.bind_some,KQ]
    by_cases hc:a < 0∨k≠a
    ·rw[if_pos hc]at hnx
     have hnone:Jw (JB t.nodes) []=none:=by
      refine JaX (i:=i+1) ?_
      rw[hstep,stepF_none (s:=s+1) (by rw[hol]; exact hnx)]; rfl
     by_cases h0:a < 0
     ·have d0:(a < 0)=True:=eq_true h0
      simp +contextual only[go_sem,d0]
      simp only[YM,hnone]
     ·have d0:(a < 0)=False:=eq_false h0
      have d1:(k == a)=false:=beq_eq_false_iff_ne.2 (by omega)
      have d2:(k != a)=true:=by rw[bne,d1]; rfl
      simp +contextual only[go_sem,d0,d1,d2]
      simp only[YM,hnone]
    ·rw[if_neg hc]at hnx
     have hka:k=a:=by omega
     subst hka
     have hne:iz o≠[]:=by
      intro e
      have:=congrArg List.length e
      rw[Jb]at this
      simp at this
      rw[this]at hol; simp at hol; omega
     have d0:(k < 0)=False:=eq_false (by omega)
     have d2:(k != k)=false:=by simp
     rw[Yx hne,Yy hne]
     have hlk:k.toNat < o.length:=by omega
     have hv:=hok k.toNat o[k.toNat] (List.getElem?_eq_getElem hlk)
     have e:o.getD k.toNat 0=o[k.toNat]:=by simp[List.getD_eq_getElem?_getD,List.getElem?_eq_getElem hlk]
     simp +contextual only[go_sem,d0,d2,Jb]
     rw[J8 hlk]
     refine ⟨by omega,⟨by omega,by simp⟩,?_⟩
     simp +contextual only[go_sem]
     refine ⟨Jg (by rw[e]; omega) (by rw[e]; omega),_,hnx,?_⟩
     rfl
   ·intro a ha
    rw[bks_len]at ha
    rw[List.take_of_length_le (by simp)]at ha
    have hr:=Jao hok _ _ a (by omega) (by omega) ha
    have hsf:JbC o x.kids=some (a+1):=by unfold JbC; rw[hol,ha]; rfl
    rw[hsf]at hstep
    simp +contextual only[go_sem,J2,Jb]
    refine ⟨Jg (by omega) (by omega),⟨by omega,by omega⟩,Jg (by omega) (by omega),(i+1,o++[a+1]),[0,1,6],⟨by simp only; omega,hstep⟩,by simp only; omega,rfl,?_,?_⟩
    ·rw[JaK,Y9,Jaa]
     simp only[renH,List.map_cons,List.map_nil,go_sem,Qi,JV (KI o)]
     simp[renL,ren,KZ,Jb,JV (KI o)]
    ·simp[forget,renL,ren,KZ]
  ·have:i=t.nodes.length:=by omega
   subst this
   rw[List.take_of_length_le (by simp[JB])]at ho
   cases o with
   |nil=>
    simp only[iz,List.map_nil,Ya,Jbh,go_sem]
    simp only[YM,ho]
    exact ⟨2,rfl,rfl⟩
   |cons y o=>
    simp only[iz,List.map_cons,rowV_cons,rowO_cons,go_sem]
    simp only[YM,ho]
    exact ⟨2,rfl,rfl⟩
theorem firstsS (t:Tr) (ht:t.Fit) {o:List Int}(h:Jw (JB t.nodes) []=some o):Fn Tryz.prog 86 [t.cv] (.tup [.rslc 1 (iz o) none,.bool true]):=by
 refine fn_of_rowT ?_ rfl (KI o) rfl
 have:=firstsW t ht
 refine this.mono fun v H' hv=>?_
 simpa only[YM,h]using hv
theorem firstsN (t:Tr) (ht:t.Fit) (h:Jw (JB t.nodes) []=none):Fn Tryz.prog 86 [t.cv] (.tup [.nils,.bool false]):=by
 refine fn_of ?_ rfl rfl
 have:=firstsW t ht
 refine this.mono fun v H' hv=>?_
 simpa only[YM,h]using hv
end Go.Cm
end
section
open Go.Proofs
namespace Go.Cm
theorem rowg {t:Tr}{i:Nat}(h:i < t.nodes.length):t.nodes.getD i default=t.nodes[i]:=by rw[List.getD_eq_getElem?_getD,List.getElem?_eq_getElem h]; rfl
theorem areItems (t:Tr) (ht:t.Fit) (o:List Int) (ho:KR o) (hl:o.length=t.nodes.length):Fn Tryz.prog 90 [t.cv,.rslc 1 (iz o) none] (.bool (QR o (fun i=>Jk t.nodes i == 65) t.nodes.length t.items 0)):=by
 have hmany:=ht.many
 have hit:=ht.items
 refine Ja c90_ok rfl rfl fun N=>?_
 simp +contextual only[c90,go_sem,Tr.cv,Tr.row,Jb]
 generalize hD:(fun i=>Jk t.nodes i == 65)=isD
 refine JG (σ:=Nat×Int) (I:=fun s=>s.1≤t.items.length∧0≤s.2∧s.2≤t.nodes.length∧QR o isD t.nodes.length t.items 0=QR o isD t.nodes.length (t.items.drop s.1) s.2)
  (inv:=fun s=>gp [(1,.rslc 1 (iz o) none),(0,.ptr 0 0 0),(2,.int .i64 s.2),(3,.rslc 1 (iz t.items) none),(0,.int .i64 t.items.length),(0,.int .i64 s.1)] 36)
  (hp:=fun _=>[.arr 2 [t.row]]) (μ:=fun s=>t.items.length-s.1) (0,0) ⟨by omega,by simp,by simp,by simp⟩ ?_ rfl ?_
 ·simp[forget,gp]
 ·rintro ⟨j,a⟩ ⟨hj,h0,h1,hinv⟩
  simp only at hj h0 h1 hinv
  simp +contextual only[go_sem,Tr.row,Jb,Jd]
  refine ⟨fun h=>?_,fun h=>?_⟩
  ·have hlt:j < t.items.length:=by omega
   rw[List.drop_eq_getElem_cons hlt,QR]at hinv
   rw[J8 hlt,show t.items.getD j 0=t.items[j] by rw[List.getD_eq_getElem?_getD,List.getElem?_eq_getElem hlt]; rfl]
   generalize t.items[j]=i at hinv ⊢
   refine ⟨by omega,?_⟩
   simp +contextual only[go_sem,Jd]
   refine ⟨Jg (by omega) (by omega),?_⟩
   refine vr_f (within _ _ _) ?_
   simp +contextual only[go_sem]
   cases b1:inI a ((t.nodes.length:Int)-1) i with
   |false=>
    rw[b1]at hinv
    simp +contextual only[go_sem]
    rw[hinv]; rfl
   |true=>
    rw[b1]at hinv
    have hi:a≤i∧i≤(t.nodes.length:Int)-1:=by
     simp only[inI,Bool.and_eq_true,decide_eq_true_eq]at b1; exact b1
    have hil:i.toNat < t.nodes.length:=by omega
    simp +contextual only[go_sem,Jd]
    rw[J7 hil]
    refine ⟨by omega,?_⟩
    simp +contextual only[go_sem,Nd.cv]
    have hk:isD i=((t.nodes.getD i.toNat default).k == 65):=by rw[← hD]; rfl
    have hk2:(((t.nodes.getD i.toNat default).k:Int) == 65)=isD i:=by
     rw[hk,Bool.eq_iff_iff]; simp; omega
    have hk3:(((t.nodes.getD i.toNat default).k:Int) != 65) = !isD i:=by rw[bne,hk2]
    rw[hk3]
    cases b2:isD i with
    |false=>
     rw[b2]at hinv
     simp +contextual only[go_sem]
     rw[hinv]; rfl
    |true=>
     rw[b2]at hinv
     simp +contextual only[go_sem,Jb]
     rw[J8 (by omega)]
     refine ⟨by omega,?_⟩
     simp +contextual only[go_sem]
     have hne:(o.getD i.toNat 0 != a) = !(o.getD i.toNat 0 == a):=rfl
     rw[hne]
     cases b3:(o.getD i.toNat 0 == a) with
     |false=>
      rw[b3]at hinv
      simp +contextual only[go_sem]
      rw[hinv]; rfl
     |true=>
      rw[b3]at hinv
      simp +contextual only[go_sem]
      refine ⟨Jg (by omega) (by omega),Jg (by omega) (by omega),(j+1,i+1),⟨by simp only; omega,by simp only; omega,by simp only; omega,?_⟩,by simp only; omega,?_⟩
      ·simpa using hinv
      ·simp[forget]
  ·have:j=t.items.length:=by omega
   subst this
   rw[hinv]; simp[QR]
theorem isGreat (t:Tr):Fn Tryz.prog 48 [t.cv] (.bool (decide (700 < t.nodes.length∨20 < t.items.length))):=by
 refine Ja c48_ok rfl rfl fun N=>?_
 simp +contextual only[c48,go_sem,Tr.cv,Tr.row,Jb,Jd]
 refine ⟨fun h=>?_,fun h=>?_⟩
 ·congr 1
  exact decide_eq_decide.2 (by omega)
 ·congr 1
  symm
  rw[decide_eq_true_eq]
  omega
def mx (a b:Int):Int:=if b > a then b else a
def ownD (deep:List Int) (ks:List Int):Int:=ks.foldl (fun a k=>mx a (deep.getD k.toNat 0+1)) 1
def Kj:List (List Int)→List Int→List Int
 |[],d=>d
 |ks::K,d=>Kj K (d++[ownD d ks])
theorem Jci:∀ (x y:List (List Int)) (d:List Int),Kj (x++y) d=Kj y (Kj x d)
 |[],_,_=>rfl
 |k::x,y,d=>by simp only[List.cons_append,Kj]; exact Jci x y _
theorem Jal:∀ (K:List (List Int)) (d:List Int),(Kj K d).length=d.length+K.length
 |[],d=>by simp[Kj]
 |k::K,d=>by simp only[Kj]; rw[Jal K]; simp; omega
def DOk (d:List Int):Prop:=∀ v∈d,1≤v∧v≤d.length
theorem mx_le {a b c:Int}(h1:a≤c) (h2:b≤c):mx a b≤c:=by unfold mx; split <;> omega
theorem mx_ge {a b c:Int}(h1:c≤a):c≤mx a b:=by unfold mx; split <;> omega
theorem JdK {d:List Int}{m:Int}(h:∀ v∈d,1≤v∧v≤m) (hm:0≤m) (k:Nat):0≤d.getD k 0∧d.getD k 0≤m:=by
 rw[List.getD_eq_getElem?_getD]
 cases hk:d[k]? with
 |none=>simp; omega
 |some v=>
  have:=h v (List.mem_of_getElem? hk)
  simp; omega
theorem Jdy {d:List Int}{m:Int}(h:∀ v∈d,1≤v∧v≤m) (hm:0≤m):∀ (ks:List Int) (a:Int),1≤a→a≤m+1→1≤ks.foldl (fun a k=>mx a (d.getD k.toNat 0+1)) a∧ks.foldl (fun a k=>mx a (d.getD k.toNat 0+1)) a≤m+1
 |[],a,h1,h2=>⟨h1,h2⟩
 |k::ks,a,h1,h2=>by
  have:=JdK h hm k.toNat
  exact Jdy h hm ks _ (mx_ge h1) (mx_le h2 (by omega))
theorem JdW:∀ (K:List (List Int)) (d:List Int),DOk d→DOk (Kj K d)
 |[],d,h=>h
 |k::K,d,h=>by
  refine JdW K _ fun v hv=>?_
  rcases List.mem_append.1 hv with hv | hv
  ·have:=h v hv
   simp; omega
  ·simp at hv
   have:=Jdy (m:=d.length) (fun v hv=>h v hv) (by omega) k 1 (by omega) (by omega)
   rw[hv]
   simp only[List.length_append,List.length_cons,List.length_nil]
   unfold ownD
   omega
theorem maxL (x:Int) (l:List Int) (hl:l.length≤100000):Fn Tryz.prog 98 [.rslc 1 (iz (x::l)) none] (.int .i64 (l.foldl mx x)):=by
 refine Ja c98_ok rfl rfl fun N=>?_
 have d0:(((l.length+1:Nat):Int) < 1)=False:=eq_false (by omega)
 simp +contextual only[c98,go_sem,Jb,d0]
 rw[J8 (by simp)]
 refine ⟨by omega,?_⟩
 simp +contextual only[go_sem]
 refine JG (I:=fun i:Nat=>i≤l.length) (inv:=fun i=>gp [(0,.rslc 1 (iz (x::l)) none),(2,.int .i64 ((l.take i).foldl mx x)),(0,.int .i64 (i+1:Nat))] 20) (hp:=fun _=>[]) (μ:=fun i=>l.length-i) 0 (by omega) ?_ rfl ?_
 ·simp[forget,gp]
 ·intro i hi
  simp +contextual only[go_sem,Jb,List.length_cons]
  refine ⟨fun h=>?_,fun h=>?_⟩
  ·have hlt:i < l.length:=by omega
   rw[J8 (by simp; omega)]
   refine ⟨by omega,?_⟩
   simp +contextual only[go_sem]
   refine ⟨Jg (by omega) (by omega),i+1,by omega,by omega,?_⟩
   have hs:(l.take (i+1)).foldl mx x=mx ((l.take i).foldl mx x) (l.getD i 0):=by
    rw[List.take_succ_eq_append_getElem hlt,List.foldl_append,List.getD_eq_getElem?_getD,List.getElem?_eq_getElem hlt]; rfl
   rw[hs]
   simp[forget,mx]
  ·have:i=l.length:=by omega
   subst this
   rw[List.take_length]
end Go.Cm
end
section
open Go.Proofs
namespace Go.Cm
def YP (t:Tr):Bool:=(Kj (JB t.nodes) []).any fun v=>decide (30 < v)
theorem mx_any (c:Int):∀ (l:List Int) (x:Int),c < l.foldl mx x↔(c < x∨(l.any fun v=>decide (c < v))=true)
 |[],x=>by simp
 |y::l,x=>by
  rw[List.foldl_cons,mx_any c l (mx x y),List.any_cons,Bool.or_eq_true,decide_eq_true_eq,← or_assoc]
  refine or_congr ?_ Iff.rfl
  unfold mx
  split <;> omega
theorem Jc3 {K:List (List Int)}{i:Nat}{ks:List Int}(h:K[i]? = some ks):Kj (K.take (i+1)) []=Kj (K.take i) []++[ownD (Kj (K.take i) []) ks]:=by
 have hlt:=(List.getElem?_eq_some_iff.1 h).1
 rw[List.take_succ_eq_append_getElem hlt,(List.getElem?_eq_some_iff.1 h).2,Jci]; rfl
theorem isDeep (t:Tr) (ht:t.Fit) {o:List Int}(ho:Jw (JB t.nodes) []=some o):Fn Tryz.prog 50 [t.cv] (.bool (YP t)):=by
 have hmany:=ht.many
 refine Ja c50_ok rfl rfl fun N=>?_
 simp +contextual -implicitDefEqProofs only[c50,go_sem,Tr.cv,Tr.row]
 refine vr_pad ?_
 simp only[go_sem,Jd]
 refine Qr (I:=fun i:Nat=>i≤t.nodes.length) (inv:=fun i=>gp [(3,rowV 0 (iz (Kj ((JB t.nodes).take i) []))),(6,.rslc 5 (ndz t.nodes) none),(0,.int .i64 t.nodes.length),(0,.int .i64 i)] 31)
  (hp:=fun i=>[rowO 1 (iz (Kj ((JB t.nodes).take i) []))]) (μ:=fun i=>t.nodes.length-i) 0 [1] (by omega) rfl ?_ rfl ?_
 ·simp[forget,renL,ren,KZ,gp,Kj,iz,rowV]
 ·intro i hi
  have hdl:(Kj ((JB t.nodes).take i) []).length=i:=by
   rw[Jal,List.length_take]
   simp[JB]
   omega
  have hdk:=JdW ((JB t.nodes).take i) [] (by intro v hv; simp at hv)
  by_cases hlt:i < t.nodes.length
  ·have hstep:=Jc3 (Kl hlt)
   have hbel:=K7 ho (Kl hlt)
   have hx:=ht.nodes _ (List.getElem_mem hlt)
   rw[← rowg hlt]at hx
   have hln:=hdl
   clear hdl
   generalize Kj ((JB t.nodes).take i) []=d at hstep hln hdk ⊢
   have d1:((i:Int) < (t.nodes.length:Int))=True:=eq_true (by omega)
   simp +contextual -implicitDefEqProofs only[go_sem,Jd,d1]
   rw[J7 hlt]
   generalize t.nodes.getD i default=x at hstep hbel hx ⊢
   refine ⟨by omega,by simp[Nd.cv],?_⟩
   simp +contextual -implicitDefEqProofs only[go_sem,Nd.cv,Jb]
   have hkn:=hx.kidn
   have hdr:∀ v∈d,1≤v∧v≤i:=fun v hv=>by have:=hdk v hv; omega
   refine JG (I:=fun j:Nat=>j≤x.kids.length) (inv:=fun j=>gp [(3,rowV 0 (iz d)),(2,.int .i64 (ownD d (x.kids.take j))),(3,.rslc 5 (ndz t.nodes) none),(0,.int .i64 t.nodes.length),(0,.int .i64 i),(4,.rslc 1 (iz x.kids) none),(0,.int .i64 x.kids.length),(0,.int .i64 j)] 24)
    (hp:=fun _=>[rowO 1 (iz d),.arr 5 [x.cv]]) (μ:=fun j=>x.kids.length-j) 0 (by omega) ?_ rfl ?_
   ·simp[forget,gp,ownD]
   ·intro j hj
    by_cases hjl:j < x.kids.length
    ·have d2:((j:Int) < (x.kids.length:Int))=True:=eq_true (by omega)
     have hmem:x.kids.getD j 0∈x.kids:=by
      rw[List.getD_eq_getElem?_getD,List.getElem?_eq_getElem hjl]; exact List.getElem_mem hjl
     have hb:=hbel _ hmem
     have hne:iz d≠[]:=by
      intro e
      have:=congrArg List.length e
      rw[Jb]at this
      simp at this
      rw[this]at hln; simp at hln; omega
     have hst:ownD d (x.kids.take (j+1))=mx (ownD d (x.kids.take j)) (d.getD (x.kids.getD j 0).toNat 0+1):=by
      have hgk:x.kids.getD j 0=x.kids[j]:=by rw[List.getD_eq_getElem?_getD,List.getElem?_eq_getElem hjl]; rfl
      unfold ownD
      rw[List.take_succ_eq_append_getElem hjl,List.foldl_append,hgk]; rfl
     rw[Yx hne,Yy hne]
     simp +contextual -implicitDefEqProofs only[go_sem,Jb,d2]
     rw[J8 hjl]
     generalize x.kids.getD j 0=k at hb hst ⊢
     refine ⟨by omega,?_⟩
     simp +contextual -implicitDefEqProofs only[go_sem,Jb]
     rw[J8 (by omega)]
     have hgr:=JdK (m:=i) (fun v hv=>by have:=hdr v hv; omega) (by omega) k.toNat
     refine ⟨by omega,⟨by omega,by simp⟩,?_⟩
     simp +contextual -implicitDefEqProofs only[go_sem]
     refine ⟨Jg (by omega) (by omega),Jg (by omega) (by omega),j+1,by omega,by omega,?_⟩
     rw[hst]
     simp[forget,mx]
    ·have hje:j=x.kids.length:=by omega
     subst hje
     have d2:((x.kids.length:Int) < (x.kids.length:Int))=False:=eq_false (by omega)
     rw[List.take_length]
     have hor:=Jdy (m:=i) hdr (by omega) x.kids 1 (by omega) (by omega)
     simp +contextual -implicitDefEqProofs only[go_sem,d2,J2,Jb]
     refine ⟨⟨by omega,by omega⟩,Jg (by omega) (by omega),i+1,[3],by omega,by omega,rfl,?_,?_⟩
     ·rw[hstep,JaK,Jaa]
      simp only[renH,List.map_cons,List.map_nil,go_sem,Qi]
      rw[← JaK,JV (KI _)]
     ·rw[hstep,JaK,Y9]
      simp[forget,renL,ren,KZ,Jb]
  ·have hie:i=t.nodes.length:=by omega
   subst hie
   have d1:((t.nodes.length:Int) < (t.nodes.length:Int))=False:=eq_false (by omega)
   have hB:YP t=(Kj ((JB t.nodes).take t.nodes.length) []).any fun v=>decide (30 < v):=by
    rw[YP,List.take_of_length_le (by simp[JB])]
   rw[hB]
   generalize Kj ((JB t.nodes).take t.nodes.length) []=d at hdl hdk ⊢
   have hdl2:d.length≤100000:=by omega
   cases d with
   |nil=>
    simp +contextual -implicitDefEqProofs only[go_sem,d1,iz,List.map_nil,Ya,Jbh]
    rfl
   |cons y d=>
    have d3:((0:Int) < ((iz (y::d)).length:Nat))=True:=eq_true (by rw[Jb]; simp only[List.length_cons]; omega)
    rw[Yx (by simp[iz]),Yy (by simp[iz])]
    simp +contextual -implicitDefEqProofs only[go_sem,d1,d3]
    refine Jn (id:=0) (z:=1) (els:=iz (y::d)) rfl (KI _) ?_
    simp only[go_sem,frzL,frzH,frz,frzO,List.take_length]
    refine Js (gok rfl) (maxL y d (by simp at hdl2; omega)) ?_
    simp +contextual -implicitDefEqProofs only[go_sem]
    congr 1
    rw[Bool.eq_iff_iff,decide_eq_true_eq,mx_any]
    simp
end Go.Cm
end
