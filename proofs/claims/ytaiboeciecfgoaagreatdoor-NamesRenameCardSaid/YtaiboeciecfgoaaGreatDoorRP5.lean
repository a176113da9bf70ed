/-
  A part of the proof. Conditions: none.
-/
import Derived.Test.YtaiboeciecfgoaaGreatDoorRP3
set_option linter.unusedSimpArgs false
set_option linter.unusedVariables false
open Go.Proofs.Tryz renaming prog→Gc
open List renaming getD_eq_getElem?_getD→Ga,getElem?_eq_getElem→Gb,take_succ_eq_append_getElem→Gd,getElem?_eq_some_iff→Gf,take_of_length_le→Gh,map_nil→Gg,take_length→Gi,length_cons→Gj,getElem_mem→Gl,map_cons→Gm,take_append_drop→Gn,foldl_append→Gp,length→Gq
noncomputable section
section
open Go.Proofs
namespace Go.Cm
def bks (xs:List Int):List (List CV):=(List.range xs.length).map fun (s:Nat)=>[.int .i64 ((xs.length:Int)-1-s),.int .i64 (xs.reverse.getD s 0)]
theorem bks_get {xs:List Int}{s:Nat}(h:s < xs.length):(bks xs)[s]? = some [.int .i64 ((xs.length:Int)-1-s),.int .i64 (xs.reverse.getD s 0)]:=by
 simp[bks,h]
theorem bks_len {xs:List Int}:(bks xs).length=xs.length:=by simp[bks]
theorem backward1 (xs:List Int) (hlen:xs.length≤100000):Iter Gc 228 [] [.rptr [.rslc 1 (iz xs) none]] (bks xs):=by
 intro E l hy
 refine KI c228_ok fun N=>?_
 simp +contextual only[c228,go_sem,Jf]
 refine ⟨Ji,?_⟩
 refine Jz (I:=fun s:Nat=>s≤xs.length) (inv:=fun s=>gp [(0,.yld l),(0,.rptr [.rslc 1 (iz xs) none]),(1,.int .i64 ((xs.length:Int)-1-s))] 15) (hp:=fun s=>[.ext s true]) (μ:=fun s=>xs.length-s) 0 (by omega) ?_ rfl ?_
 ·simp[forget,gp]
 ·intro s hs
  simp +contextual only[go_sem,Jf]
  refine ⟨fun h1=>?_,fun h1=>?_⟩
  ·have hlt:s < xs.length:=by omega
   have hi:((xs.length:Int)-1-s).toNat=xs.length-1-s:=by omega
   have hg:(iz xs).getD (xs.length-1-s) []=[.int .i64 (xs.reverse.getD s 0)]:=by
    have h2:xs.length-1-s < xs.length:=by omega
    simp[iz,Ga,Gb h2,List.getElem?_reverse hlt]
   rw[hi,hg]
   refine ⟨by omega,?_⟩
   simp +contextual only[go_sem]
   refine vr_yield (i:=0) (s:=s) (.inl rfl) rfl hy rfl (fun k s b hk=>?_) ?_ rfl fun c=>?_
   ·rcases k with _ | k
    ·rfl
    ·simp at hk
   ·simp only[go_sem,bks_get hlt]
   ·cases c
    ·simp +contextual only[go_sem]
     exact .inr ⟨_,rfl⟩
    ·simp +contextual only[go_sem]
     refine ⟨Ji,s+1,by omega,by omega,?_⟩
     simp[forget]
     omega
  ·have:s=xs.length:=by omega
   refine .inl ?_
   simp[bks_len,this]
theorem backward (xs:List Int):Fn Gc 210 [.rslc 1 (iz xs) none] (.fn 228 [] [.rptr [.rslc 1 (iz xs) none]]):=by
 have main:CallsC Gc Env.none 210 [.rslc 1 (iz xs) none] [] fun v H'=>v=.fn 228 [] [.ptr 0 0 0]∧H'=[.arr 1 [[.rslc 1 (iz xs) none]]]:=by
  refine KI c210_ok fun N=>?_
  simp +contextual only[c210,go_sem]
 exact fn_of (main.freeze fun v H' ⟨h1,h2⟩=>⟨0,1,[[.rslc 1 (iz xs) none]],by rw[h2]; rfl,rfl,by rw[h1]; simp[frz,J2]⟩) rfl rfl
def JH (l:List Nd):List (List Int):=l.map Nd.kids
theorem JW {l:List Nd}{i:Nat}(h:i < l.length):(JH l)[i]? = some (l.getD i default).kids:=by
 simp[JH,Ga,Gb h]
theorem JcL {K:List (List Int)}{i:Nat}{o:List Int}{ks:List Int}(h:JB (K.take i) []=some o) (hk:K[i]? = some ks):JB (K.take (i+1)) []=(Jdy o ks).map (fun f=>o++[f])∧o.length=i:=by
 have hlt:=(Gf.1 hk).1
 have hl:=KS _ _ _ h
 rw[Gd hlt,(Gf.1 hk).2,YI,h]
 refine ⟨?_,by simpa [Nat.min_eq_left (Nat.le_of_lt hlt)]using hl⟩
 simp only[Option.bind_some,JB]
 cases Jdy o ks <;> rfl
theorem JcM {K:List (List Int)}{i:Nat}(h:JB (K.take i) []=none):JB K []=none:=by
 rw[← Gn i K,YI,h]; rfl
theorem stepF_none {o ks:List Int}{s:Nat}(h:QL o (ks.reverse.take s) ((o.length:Int)-1)=none):Jdy o ks=none:=by
 unfold Jdy
 rw[← Gn s ks.reverse,Jb6,h]; rfl
def Jbg (t:Tr) (v:CV) (H':List CObj):Prop:=match JB (JH t.nodes) []with
 |some o=>∃ id,v=.tup [QC id (iz o),.bool true]∧H'[id]? = some (Xu 1 (iz o))
 |none=>v=.tup [.nils,.bool false]
theorem firstsW (t:Tr) (ht:t.Fit):CallsC Gc Env.none 187 [t.cv] [] (Jbg t):=by
 have hmany:=ht.many
 refine KI c187_ok fun N=>?_
 simp +contextual only[c187,go_sem,Tr.cv,Tr.row]
 refine XU ?_
 simp only[go_sem,Jc]
 refine JG (σ:=Nat×List Int) (I:=fun s=>s.1≤t.nodes.length∧JB ((JH t.nodes).take s.1) []=some s.2)
  (inv:=fun s=>gp [(2,.ptr 0 0 0),(0,.ptr 1 0 0),(6,.rslc 5 (ndz t.nodes) none),(0,.int .i64 t.nodes.length),(0,.int .i64 s.1)] 30)
  (hp:=fun s=>[.arr 1 [[QC 2 (iz s.2)]],.arr 1 [[.bool false]],Xu 1 (iz s.2)]) (μ:=fun s=>t.nodes.length-s.1) (0,[]) [1,2,3] ⟨by omega,rfl⟩ rfl ?_ rfl ?_
 ·simp[forget,JF,ren,Jo,gp]
 ·rintro ⟨i,o⟩ ⟨hi,ho⟩
  dsimp only at hi ho
  simp +contextual only[go_sem,Jc]
  refine ⟨fun h=>?_,fun h=>?_⟩
  ·have hlt:i < t.nodes.length:=by omega
   have hx:=ht.nodes _ (Gl hlt)
   have hg:t.nodes.getD i default=t.nodes[i]:=by rw[Ga,Gb hlt]; rfl
   obtain ⟨hstep,hol⟩:=JcL ho (JW hlt)
   have hok:=KY _ _ _ Qu.nil ho
   rw[Kz hlt]
   generalize t.nodes.getD i default=x at hstep hg ⊢
   rw[← hg]at hx
   refine ⟨by omega,by simp[Nd.cv],?_⟩
   simp +contextual only[go_sem,Nd.cv]
   refine ⟨Ji,?_⟩
   refine JV (backward x.kids) ?_
   simp +contextual only[go_sem]
   have hkn:=hx.kidn
   refine vr_rfuncJ (xs:=bks x.kids) (Γ:=Int) (fun s a=>QL o (x.kids.reverse.take s) ((i:Int)-1)=some a) (fun s a=>[.arr 1 [[QC 2 (iz o)]],.arr 1 [[.bool false]],Xu 1 (iz o),.arr 5 [x.cv],.arr 1 [[.int .i64 a]]]) ((i:Int)-1) rfl rfl rfl rfl rfl c228_ok nm (backward1 _ (by omega)) (by simp[bks]) rfl ?_ ?_
   ·intro s a c ha hc
    have hlts:s < x.kids.length:=by
     have:=(Gf.1 hc).1; rwa [bks_len]at this
    rw[bks_get hlts]at hc
    cases hc
    have hlt2:s < x.kids.reverse.length:=by rw[List.length_reverse]; exact hlts
    have hst:x.kids.reverse.take (s+1)=x.kids.reverse.take s++[x.kids.reverse.getD s 0]:=by
     rw[Gd hlt2,Ga,Gb hlt2]; rfl
    generalize x.kids.reverse.getD s 0=k at hst ⊢
    have hr:=Jb5 hok _ _ a (by omega) (by omega) ha
    have hnx:QL o (x.kids.reverse.take (s+1)) ((i:Int)-1)=if a < 0∨k≠a then none else some (o.getD k.toNat 0-1):=by
     rw[hst,Jb6,ha]; simp only[Option.bind_some,QL]
    by_cases hc:a < 0∨k≠a
    ·rw[if_pos hc]at hnx
     have hnone:JB (JH t.nodes) []=none:=by
      refine JcM (i:=i+1) ?_
      rw[hstep,stepF_none (s:=s+1) (by rw[hol]; exact hnx)]; rfl
     by_cases h0:a < 0
     ·have d0:(a < 0)=True:=eq_true h0
      simp +contextual only[go_sem,d0]
      simp only[Jbg,hnone]
     ·have d0:(a < 0)=False:=eq_false h0
      have d1:(k == a)=false:=beq_eq_false_iff_ne.2 (by omega)
      have d2:(k != a)=true:=by rw[bne,d1]; rfl
      simp +contextual only[go_sem,d0,d1,d2]
      simp only[Jbg,hnone]
    ·rw[if_neg hc]at hnx
     have hka:k=a:=by omega
     subst hka
     have hne:iz o≠[]:=by
      intro e
      have:=congrArg Gq e
      rw[Jf]at this
      simp at this
      rw[this]at hol; simp at hol; omega
     have d0:(k < 0)=False:=Jj
     have d2:(k != k)=false:=by simp
     rw[Qz hne,Qd hne]
     have hlk:k.toNat < o.length:=by omega
     have hv:=hok k.toNat o[k.toNat] (Gb hlk)
     have e:o.getD k.toNat 0=o[k.toNat]:=by simp[Ga,Gb hlk]
     simp +contextual only[go_sem,d0,d2,Jf]
     rw[JR hlk]
     refine ⟨by omega,⟨by omega,by simp⟩,?_⟩
     simp +contextual only[go_sem]
     refine ⟨inr64 (by rw[e]; omega) (by rw[e]; omega),_,hnx,?_⟩
     rfl
   ·intro a ha
    rw[bks_len]at ha
    rw[Gh (by simp)]at ha
    have hr:=Jb5 hok _ _ a (by omega) (by omega) ha
    have hsf:Jdy o x.kids=some (a+1):=by unfold Jdy; rw[hol,ha]; rfl
    rw[hsf]at hstep
    simp +contextual only[go_sem,JJ,Jf]
    refine ⟨Ji,⟨by omega,by omega⟩,Ji,(i+1,o++[a+1]),[0,1,6],⟨by simp only; omega,hstep⟩,by simp only; omega,rfl,?_,?_⟩
    ·rw[J8,Kl,Km]
     simp only[Kw,Gm,Gg,go_sem,Jp,Jb (Jd o)]
     simp[JF,ren,Jo,Jf,Jb (Jd o)]
    ·simp[forget,JF,ren,Jo]
  ·have:i=t.nodes.length:=by omega
   subst this
   rw[Gh (by simp[JH])]at ho
   cases o with
   |nil=>
    simp only[iz,Gg,Qn,QX,go_sem]
    simp only[Jbg,ho]
    exact ⟨2,rfl,rfl⟩
   |cons y o=>
    simp only[iz,Gm,Xl,JbF,go_sem]
    simp only[Jbg,ho]
    exact ⟨2,rfl,rfl⟩
theorem firstsS (t:Tr) (ht:t.Fit) {o:List Int}(h:JB (JH t.nodes) []=some o):Fn Gc 187 [t.cv] (.tup [.rslc 1 (iz o) none,.bool true]):=by
 refine fn_of_rowT ?_ rfl (Jd o) rfl
 have:=firstsW t ht
 refine this.mono fun v H' hv=>?_
 simpa only[Jbg,h]using hv
theorem firstsN (t:Tr) (ht:t.Fit) (h:JB (JH t.nodes) []=none):Fn Gc 187 [t.cv] (.tup [.nils,.bool false]):=by
 refine fn_of ?_ rfl rfl
 have:=firstsW t ht
 refine this.mono fun v H' hv=>?_
 simpa only[Jbg,h]using hv
theorem rowg {t:Tr}{i:Nat}(h:i < t.nodes.length):t.nodes.getD i default=t.nodes[i]:=by rw[Ga,Gb h]; rfl
theorem areItems (t:Tr) (ht:t.Fit) (o:List Int) (ho:Qu o) (hl:o.length=t.nodes.length):Fn Gc 188 [t.cv,.rslc 1 (iz o) none] (.bool (XZ o (fun i=>Jt t.nodes i == 65) t.nodes.length t.items 0)):=by
 have hmany:=ht.many
 have hit:=ht.items
 refine Ja c188_ok rfl rfl fun N=>?_
 simp +contextual only[c188,go_sem,Tr.cv,Tr.row,Jf]
 generalize hD:(fun i=>Jt t.nodes i == 65)=isD
 refine Jz (σ:=Nat×Int) (I:=fun s=>s.1≤t.items.length∧0≤s.2∧s.2≤t.nodes.length∧XZ o isD t.nodes.length t.items 0=XZ o isD t.nodes.length (t.items.drop s.1) s.2)
  (inv:=fun s=>gp [(1,.rslc 1 (iz o) none),(0,.ptr 0 0 0),(2,.int .i64 s.2),(3,.rslc 1 (iz t.items) none),(0,.int .i64 t.items.length),(0,.int .i64 s.1)] 36)
  (hp:=fun _=>[.arr 2 [t.row]]) (μ:=fun s=>t.items.length-s.1) (0,0) ⟨by omega,by simp,by simp,by simp⟩ ?_ rfl ?_
 ·simp[forget,gp]
 ·rintro ⟨j,a⟩ ⟨hj,h0,h1,hinv⟩
  simp only at hj h0 h1 hinv
  simp +contextual only[go_sem,Tr.row,Jf,Jc]
  refine ⟨fun h=>?_,fun h=>?_⟩
  ·have hlt:j < t.items.length:=by omega
   rw[List.drop_eq_getElem_cons hlt,XZ]at hinv
   rw[JR hlt,show t.items.getD j 0=t.items[j] by rw[Ga,Gb hlt]; rfl]
   generalize t.items[j]=i at hinv ⊢
   refine ⟨by omega,?_⟩
   simp +contextual only[go_sem,Jc]
   refine ⟨Ji,?_⟩
   refine JV (within _ _ _) ?_
   simp +contextual only[go_sem]
   cases b1:inI a ((t.nodes.length:Int)-1) i with
   |false=>
    rw[b1]at hinv
    simp +contextual only[go_sem]
    rw[hinv]; rfl
   |true=>
    rw[b1]at hinv
    have hi:a≤i∧i≤(t.nodes.length:Int)-1:=by
     simp only[inI,Bool.and_eq_true,decide_eq_true_eq]at b1; exact b1
    have hil:i.toNat < t.nodes.length:=by omega
    simp +contextual only[go_sem,Jc]
    rw[Kz hil]
    refine ⟨by omega,?_⟩
    simp +contextual only[go_sem,Nd.cv]
    have hk:isD i=((t.nodes.getD i.toNat default).k == 65):=by rw[← hD]; rfl
    have hk2:(((t.nodes.getD i.toNat default).k:Int) == 65)=isD i:=by
     rw[hk,Bool.eq_iff_iff]; simp; omega
    have hk3:(((t.nodes.getD i.toNat default).k:Int) != 65) = !isD i:=by rw[bne,hk2]
    rw[hk3]
    cases b2:isD i with
    |false=>
     rw[b2]at hinv
     simp +contextual only[go_sem]
     rw[hinv]; rfl
    |true=>
     rw[b2]at hinv
     simp +contextual only[go_sem,Jf]
     rw[JR (by omega)]
     refine ⟨by omega,?_⟩
     simp +contextual only[go_sem]
     have hne:(o.getD i.toNat 0 != a) = !(o.getD i.toNat 0 == a):=rfl
     rw[hne]
     cases b3:(o.getD i.toNat 0 == a) with
     |false=>
      rw[b3]at hinv
      simp +contextual only[go_sem]
      rw[hinv]; rfl
     |true=>
      rw[b3]at hinv
      simp +contextual only[go_sem]
      refine ⟨Ji,Ji,(j+1,i+1),⟨by simp only; omega,by simp only; omega,by simp only; omega,?_⟩,by simp only; omega,?_⟩
      ·simpa using hinv
      ·simp[forget]
  ·have:j=t.items.length:=by omega
   subst this
   rw[hinv]; simp[XZ]
theorem isGreat (t:Tr):Fn Gc 160 [t.cv] (.bool (decide (700 < t.nodes.length∨20 < t.items.length))):=by
 refine Ja c160_ok rfl rfl fun N=>?_
 simp +contextual only[c160,go_sem,Tr.cv,Tr.row,Jf,Jc]
 refine ⟨fun h=>?_,fun h=>?_⟩
 ·congr 1
  exact decide_eq_decide.2 (by omega)
 ·congr 1
  symm
  rw[decide_eq_true_eq]
  omega
def mx (a b:Int):Int:=if b > a then b else a
def ownD (deep:List Int) (ks:List Int):Int:=ks.foldl (fun a k=>mx a (deep.getD k.toNat 0+1)) 1
def KV:List (List Int)→List Int→List Int
 |[],d=>d
 |ks::K,d=>KV K (d++[ownD d ks])
theorem Jem:∀ (x y:List (List Int)) (d:List Int),KV (x++y) d=KV y (KV x d)
 |[],_,_=>rfl
 |k::x,y,d=>by simp only[List.cons_append,KV]; exact Jem x y _
theorem JbZ:∀ (K:List (List Int)) (d:List Int),(KV K d).length=d.length+K.length
 |[],d=>by simp[KV]
 |k::K,d=>by simp only[KV]; rw[JbZ K]; simp; omega
def DOk (d:List Int):Prop:=∀ v∈d,1≤v∧v≤d.length
theorem mx_le {a b c:Int}(h1:a≤c) (h2:b≤c):mx a b≤c:=by unfold mx; split <;> omega
theorem mx_ge {a b c:Int}(h1:c≤a):c≤mx a b:=by unfold mx; split <;> omega
theorem Jgs {d:List Int}{m:Int}(h:∀ v∈d,1≤v∧v≤m) (hm:0≤m) (k:Nat):0≤d.getD k 0∧d.getD k 0≤m:=by
 rw[Ga]
 cases hk:d[k]? with
 |none=>simp; omega
 |some v=>
  have:=h v (List.mem_of_getElem? hk)
  simp; omega
theorem Jgg {d:List Int}{m:Int}(h:∀ v∈d,1≤v∧v≤m) (hm:0≤m):∀ (ks:List Int) (a:Int),1≤a→a≤m+1→1≤ks.foldl (fun a k=>mx a (d.getD k.toNat 0+1)) a∧ks.foldl (fun a k=>mx a (d.getD k.toNat 0+1)) a≤m+1
 |[],a,h1,h2=>⟨h1,h2⟩
 |k::ks,a,h1,h2=>by
  have:=Jgs h hm k.toNat
  exact Jgg h hm ks _ (mx_ge h1) (mx_le h2 (by omega))
theorem JgF:∀ (K:List (List Int)) (d:List Int),DOk d→DOk (KV K d)
 |[],d,h=>h
 |k::K,d,h=>by
  refine JgF K _ fun v hv=>?_
  rcases List.mem_append.1 hv with hv | hv
  ·have:=h v hv
   simp; omega
  ·simp at hv
   have:=Jgg (m:=d.length) (fun v hv=>h v hv) (by omega) k 1 (by omega) (by omega)
   rw[hv]
   simp only[List.length_append,Gj,List.length_nil]
   unfold ownD
   omega
theorem maxL (x:Int) (l:List Int) (hl:l.length≤100000):Fn Gc 197 [.rslc 1 (iz (x::l)) none] (.int .i64 (l.foldl mx x)):=by
 refine Ja c197_ok rfl rfl fun N=>?_
 have d0:(((l.length+1:Nat):Int) < 1)=False:=Jj
 simp +contextual only[c197,go_sem,Jf,d0]
 rw[JR (by simp)]
 refine ⟨by omega,?_⟩
 simp +contextual only[go_sem]
 refine Jz (I:=fun i:Nat=>i≤l.length) (inv:=fun i=>gp [(0,.rslc 1 (iz (x::l)) none),(2,.int .i64 ((l.take i).foldl mx x)),(0,.int .i64 (i+1:Nat))] 20) (hp:=fun _=>[]) (μ:=fun i=>l.length-i) 0 (by omega) ?_ rfl ?_
 ·simp[forget,gp]
 ·intro i hi
  simp +contextual only[go_sem,Jf,Gj]
  refine ⟨fun h=>?_,fun h=>?_⟩
  ·have hlt:i < l.length:=by omega
   rw[JR (by simp; omega)]
   refine ⟨by omega,?_⟩
   simp +contextual only[go_sem]
   refine ⟨Ji,i+1,by omega,by omega,?_⟩
   have hs:(l.take (i+1)).foldl mx x=mx ((l.take i).foldl mx x) (l.getD i 0):=by
    rw[Gd hlt,Gp,Ga,Gb hlt]; rfl
   rw[hs]
   simp[forget,mx]
  ·have:i=l.length:=by omega
   subst this
   rw[Gi]
def Jbj (t:Tr):Bool:=(KV (JH t.nodes) []).any fun v=>decide (30 < v)
theorem mx_any (c:Int):∀ (l:List Int) (x:Int),c < l.foldl mx x↔(c < x∨(l.any fun v=>decide (c < v))=true)
 |[],x=>by simp
 |y::l,x=>by
  rw[List.foldl_cons,mx_any c l (mx x y),List.any_cons,Bool.or_eq_true,decide_eq_true_eq,← or_assoc]
  refine or_congr ?_ Iff.rfl
  unfold mx
  split <;> omega
theorem JfD {K:List (List Int)}{i:Nat}{ks:List Int}(h:K[i]? = some ks):KV (K.take (i+1)) []=KV (K.take i) []++[ownD (KV (K.take i) []) ks]:=by
 have hlt:=(Gf.1 h).1
 rw[Gd hlt,(Gf.1 h).2,Jem]; rfl
theorem isDeep (t:Tr) (ht:t.Fit) {o:List Int}(ho:JB (JH t.nodes) []=some o):Fn Gc 162 [t.cv] (.bool (Jbj t)):=by
 have hmany:=ht.many
 refine Ja c162_ok rfl rfl fun N=>?_
 simp +contextual -implicitDefEqProofs only[c162,go_sem,Tr.cv,Tr.row]
 refine XU ?_
 simp only[go_sem,Jc]
 refine JG (I:=fun i:Nat=>i≤t.nodes.length) (inv:=fun i=>gp [(3,QC 0 (iz (KV ((JH t.nodes).take i) []))),(6,.rslc 5 (ndz t.nodes) none),(0,.int .i64 t.nodes.length),(0,.int .i64 i)] 31)
  (hp:=fun i=>[Xu 1 (iz (KV ((JH t.nodes).take i) []))]) (μ:=fun i=>t.nodes.length-i) 0 [1] (by omega) rfl ?_ rfl ?_
 ·simp[forget,JF,ren,Jo,gp,KV,iz,QC]
 ·intro i hi
  have hdl:(KV ((JH t.nodes).take i) []).length=i:=by
   rw[JbZ,List.length_take]
   simp[JH]
   omega
  have hdk:=JgF ((JH t.nodes).take i) [] (by intro v hv; simp at hv)
  by_cases hlt:i < t.nodes.length
  ·have hstep:=JfD (JW hlt)
   have hbel:=Q5 ho (JW hlt)
   have hx:=ht.nodes _ (Gl hlt)
   rw[← rowg hlt]at hx
   have hln:=hdl
   clear hdl
   generalize KV ((JH t.nodes).take i) []=d at hstep hln hdk ⊢
   have d1:((i:Int) < (t.nodes.length:Int))=True:=Jn
   simp +contextual -implicitDefEqProofs only[go_sem,Jc,d1]
   rw[Kz hlt]
   generalize t.nodes.getD i default=x at hstep hbel hx ⊢
   refine ⟨by omega,by simp[Nd.cv],?_⟩
   simp +contextual -implicitDefEqProofs only[go_sem,Nd.cv,Jf]
   have hkn:=hx.kidn
   have hdr:∀ v∈d,1≤v∧v≤i:=fun v hv=>by have:=hdk v hv; omega
   refine Jz (I:=fun j:Nat=>j≤x.kids.length) (inv:=fun j=>gp [(3,QC 0 (iz d)),(2,.int .i64 (ownD d (x.kids.take j))),(3,.rslc 5 (ndz t.nodes) none),(0,.int .i64 t.nodes.length),(0,.int .i64 i),(4,.rslc 1 (iz x.kids) none),(0,.int .i64 x.kids.length),(0,.int .i64 j)] 24)
    (hp:=fun _=>[Xu 1 (iz d),.arr 5 [x.cv]]) (μ:=fun j=>x.kids.length-j) 0 (by omega) ?_ rfl ?_
   ·simp[forget,gp,ownD]
   ·intro j hj
    by_cases hjl:j < x.kids.length
    ·have d2:((j:Int) < (x.kids.length:Int))=True:=Jn
     have hmem:x.kids.getD j 0∈x.kids:=by
      rw[Ga,Gb hjl]; exact Gl hjl
     have hb:=hbel _ hmem
     have hne:iz d≠[]:=by
      intro e
      have:=congrArg Gq e
      rw[Jf]at this
      simp at this
      rw[this]at hln; simp at hln; omega
     have hst:ownD d (x.kids.take (j+1))=mx (ownD d (x.kids.take j)) (d.getD (x.kids.getD j 0).toNat 0+1):=by
      have hgk:x.kids.getD j 0=x.kids[j]:=by rw[Ga,Gb hjl]; rfl
      unfold ownD
      rw[Gd hjl,Gp,hgk]; rfl
     rw[Qz hne,Qd hne]
     simp +contextual -implicitDefEqProofs only[go_sem,Jf,d2]
     rw[JR hjl]
     generalize x.kids.getD j 0=k at hb hst ⊢
     refine ⟨by omega,?_⟩
     simp +contextual -implicitDefEqProofs only[go_sem,Jf]
     rw[JR (by omega)]
     have hgr:=Jgs (m:=i) (fun v hv=>by have:=hdr v hv; omega) (by omega) k.toNat
     refine ⟨by omega,⟨by omega,by simp⟩,?_⟩
     simp +contextual -implicitDefEqProofs only[go_sem]
     refine ⟨Ji,Ji,j+1,by omega,by omega,?_⟩
     rw[hst]
     simp[forget,mx]
    ·have hje:j=x.kids.length:=by omega
     subst hje
     have d2:((x.kids.length:Int) < (x.kids.length:Int))=False:=Jj
     rw[Gi]
     have hor:=Jgg (m:=i) hdr (by omega) x.kids 1 (by omega) (by omega)
     simp +contextual -implicitDefEqProofs only[go_sem,d2,JJ,Jf]
     refine ⟨⟨by omega,by omega⟩,Ji,i+1,[3],by omega,by omega,rfl,?_,?_⟩
     ·rw[hstep,J8,Km]
      simp only[Kw,Gm,Gg,go_sem,Jp]
      rw[← J8,Jb (Jd _)]
     ·rw[hstep,J8,Kl]
      simp[forget,JF,ren,Jo,Jf]
  ·have hie:i=t.nodes.length:=by omega
   subst hie
   have d1:((t.nodes.length:Int) < (t.nodes.length:Int))=False:=Jj
   have hB:Jbj t=(KV ((JH t.nodes).take t.nodes.length) []).any fun v=>decide (30 < v):=by
    rw[Jbj,Gh (by simp[JH])]
   rw[hB]
   generalize KV ((JH t.nodes).take t.nodes.length) []=d at hdl hdk ⊢
   have hdl2:d.length≤100000:=by omega
   cases d with
   |nil=>
    simp +contextual -implicitDefEqProofs only[go_sem,d1,iz,Gg,Qn,QX]
    rfl
   |cons y d=>
    have d3:((0:Int) < ((iz (y::d)).length:Nat))=True:=eq_true (by rw[Jf]; simp only[Gj]; omega)
    rw[Qz (by simp[iz]),Qd (by simp[iz])]
    simp +contextual -implicitDefEqProofs only[go_sem,d1,d3]
    refine Jg (id:=0) (z:=1) (els:=iz (y::d)) rfl (Jd _) ?_
    simp only[go_sem,J2,Ko,frz,KG,Gi]
    refine JN (gok rfl) (maxL y d (by simp at hdl2; omega)) ?_
    simp +contextual -implicitDefEqProofs only[go_sem]
    congr 1
    rw[Bool.eq_iff_iff,decide_eq_true_eq,mx_any]
    simp
end Go.Cm
end
end
